/- FnContrary: for every list of at most 1048576 bytes, the law of DiscantContrary holds of what the reference draws from it, and the list reads as before (longer lists the statement lets pass). No condition beyond the statement's own. -/
import Derived.Test.YtgiobmceippanaaGCx0
import Derived.Test.YtgiobmceippanaaGCx2
import Derived.Test.YtgiobmceippanaaGCx3
import Derived.Test.YtgiobmceippanaaGCx4
import Derived.Test.YtgiobmceippanaaGCx5
import Derived.Test.YtgiobmceippanaaGCx7
import Derived.Test.YtgiobmceippanaaGCx11
import Derived.Test.YtgiobmceippanaaGCx8
import Derived.Test.YtgiobmceippanaaGCx10
import Derived.Test.YtgiobmceippanaaGCx9
import Derived.Test.YtgiobmceippanaaGCx12
import Derived.Laws.Bits64
namespace Go.Proofs.Ytgiobmceippanaa.PureFnContrary
open Go.RowKit Go.Proofs.Ytgiobmceippanaa.GC Go.Proofs.YtgiobmceippanaaW.PrintWords Go.Proofs.YtgiobmceippanaaW.PrintLast Go.Proofs.YtgiobmceippanaaW.PrintMore 
set_option linter.unusedVariables false
set_option linter.unusedSimpArgs false
theorem w1 {i : Nat} (h : i < 4611686018427387904) : wrap64 ((i : Int) + 1) = ((i + 1 : Nat) : Int) := by
  unfold wrap64
  omega
theorem w0 {i : Int} (h : -9223372036854775808 ≤ i) (h' : i ≤ 9223372036854775807) : wrap64 i = i := by
  unfold wrap64
  omega
theorem rd_at (xs : List Int) (i : Nat) (h : i < xs.length) : rd xs (i : Int) = xs[i] := by
  simp [rd, List.getD_eq_getElem?_getD, h]
/-- A tone of the gamut. -/
def tv (a : Int) (b : Bool) : Bool := decide (0 ≤ a) && (decide (a ≤ 20) && (!b || decide (Int.tmod a 7 = 2)))
theorem tv_spec (a : Int) (b : Bool) : spec_ToneValid.f a b = some (tv a b) := by
  unfold spec_ToneValid.f spec_l6In.f spec_l1Letter.f tv
  by_cases h0 : a ≥ 0
  · rw [if_pos h0, decide_eq_true (show 0 ≤ a from h0)]
    by_cases h1 : a ≤ 20
    · simp only [h1, decide_true, Option.bind_some, if_true, Bool.true_and]
      cases b
      · rfl
      · simp
        rfl
    · simp [h1]
  · rw [if_neg h0, decide_eq_false (show ¬ 0 ≤ a from h0)]
    rfl
theorem tv_impl (a : Int) (b : Bool) : impl_Tone_valid.f a b = some (tv a b) := by
  unfold impl_Tone_valid.f tv
  by_cases h0 : a ≥ 0
  · rw [if_pos h0, decide_eq_true (show 0 ≤ a from h0)]
    by_cases h1 : a ≤ 20
    · rw [if_pos h1, decide_eq_true h1]
      cases b
      · rfl
      · simp
        rfl
    · rw [if_neg h1, decide_eq_false h1]
      rfl
  · rw [if_neg h0, decide_eq_false (show ¬ 0 ≤ a from h0)]
    rfl
theorem in_spec (a b c : Int) : spec_l6In.f a b c = some (decide (b ≤ a) && decide (a ≤ c)) := by
  unfold spec_l6In.f
  by_cases h0 : a ≥ b
  · rw [if_pos h0, decide_eq_true (show b ≤ a from h0)]; rfl
  · rw [if_neg h0, decide_eq_false (show ¬ b ≤ a from h0)]; rfl
def vv (v : S61) : Bool := tv v.f0.f0 v.f0.f1 && (decide (1 ≤ v.f1) && decide (v.f1 ≤ 3))
theorem rdv_at (xs : List S61) (i : Nat) (h : i < xs.length) : rd_T61 xs (i : Int) = xs[i] := by
  simp [rd_T61, List.getD_eq_getElem?_getD, h]
def sumB (l : List S61) : Int := (l.map (·.f1)).sum
theorem sumB_cons (v : S61) (l : List S61) : sumB (v :: l) = v.f1 + sumB l := by simp [sumB]
theorem vv_bd {v : S61} (h : vv v = true) : 1 ≤ v.f1 ∧ v.f1 ≤ 3 := by
  unfold vv at h
  simp only [Bool.and_eq_true, decide_eq_true_eq] at h
  exact h.2
theorem sumB_bd (l : List S61) (h : l.all vv = true) : 0 ≤ sumB l ∧ sumB l ≤ 3 * l.length := by
  induction l with
  | nil => simp [sumB]
  | cons v l ih =>
    simp only [List.all_cons, Bool.and_eq_true] at h
    have h1 := vv_bd h.1
    have h2 := ih h.2
    rw [sumB_cons, List.length_cons]
    omega
def PV (l : List S61) : Bool := decide (l.length ≤ 12) && (l.all vv && decide (sumB l ≤ 24))
theorem PV_len {l : List S61} (h : PV l = true) : l.length ≤ 12 := by
  unfold PV at h
  simp only [Bool.and_eq_true, decide_eq_true_eq] at h
  exact h.1
theorem PV_all {l : List S61} (h : PV l = true) : l.all vv = true := by
  unfold PV at h
  simp only [Bool.and_eq_true, decide_eq_true_eq] at h
  exact h.2.1
theorem PV_sum {l : List S61} (h : PV l = true) : sumB l ≤ 24 := by
  unfold PV at h
  simp only [Bool.and_eq_true, decide_eq_true_eq] at h
  exact h.2.2
theorem beats_l0 (l : List S61) (hl : l.length ≤ 12) (hv : l.all vv = true) : ∀ (d i k : Nat) (a : Int), i + d = l.length → d < k → 0 ≤ a → a ≤ 3 * i → spec_l8Beats.l0 k l a (i : Int) = some (a + sumB (l.drop i)) := by
  intro d
  induction d with
  | zero =>
    intro i k a hi hk h0 h1
    obtain ⟨k, rfl⟩ : ∃ m, k = m + 1 := ⟨k - 1, by omega⟩
    simp only [spec_l8Beats.l0]
    rw [if_neg (by omega), List.drop_eq_nil_of_le (by omega)]
    simp [sumB]
  | succ d ih =>
    intro i k a hi hk h0 h1
    obtain ⟨k, rfl⟩ : ∃ m, k = m + 1 := ⟨k - 1, by omega⟩
    have hx : i < l.length := by omega
    have hb := vv_bd (List.all_eq_true.1 hv _ (List.getElem_mem hx))
    simp only [spec_l8Beats.l0]
    rw [if_pos (by omega), if_pos (by omega), rdv_at l i hx, w1 (by omega), w0 (by omega) (by omega), ih (i + 1) k _ (by omega) (by omega) (by omega) (by omega), List.drop_eq_getElem_cons hx, sumB_cons]
    congr 1
    omega
theorem beats_f (l : List S61) (hl : l.length ≤ 12) (hv : l.all vv = true) (k : Nat) (hk : 13 ≤ k) : spec_l8Beats.f k l = some (sumB l) := by
  unfold spec_l8Beats.f
  simpa using beats_l0 l hl hv l.length 0 k 0 (by omega) (by omega) (by omega) (by omega)
theorem pvs_l0 (l : List S61) (hb : l.length < 4611686018427387904) : ∀ (d i k : Nat), i + d = l.length → d + 14 < k → (l.take i).all vv = true → spec_PartValid.l0 k l (i : Int) = some (PV l) := by
  intro d
  induction d with
  | zero =>
    intro i k hi hk hv
    obtain ⟨k, rfl⟩ : ∃ m, k = m + 1 := ⟨k - 1, by omega⟩
    rw [List.take_of_length_le (by omega)] at hv
    simp only [spec_PartValid.l0]
    rw [if_neg (by omega)]
    unfold PV
    rw [hv]
    by_cases hl : l.length ≤ 12
    · rw [if_pos (by omega), beats_f l hl hv k (by omega), decide_eq_true hl]
      rfl
    · rw [if_neg (by omega), decide_eq_false hl]
      rfl
  | succ d ih =>
    intro i k hi hk hv
    obtain ⟨k, rfl⟩ : ∃ m, k = m + 1 := ⟨k - 1, by omega⟩
    have hx : i < l.length := by omega
    simp only [spec_PartValid.l0]
    rw [if_pos (by omega), if_pos (by omega), rdv_at l i hx, tv_spec, in_spec]
    simp only [Option.bind_some]
    by_cases hvi : vv l[i] = true
    · have hvi2 := hvi
      unfold vv at hvi2
      simp only [Bool.and_eq_true] at hvi2
      rw [if_pos hvi2.1, if_pos (by simpa using hvi2.2), w1 (by omega)]
      refine ih (i + 1) k (by omega) (by omega) ?_
      rw [List.take_succ_eq_append_getElem hx, List.all_append, hv]
      simp [hvi]
    · have hF : PV l = false := by
        have : l.all vv = false := by
          rw [Bool.eq_false_iff]
          intro h
          exact hvi (List.all_eq_true.1 h _ (List.getElem_mem hx))
        unfold PV
        rw [this]
        simp
      rw [hF]
      unfold vv at hvi
      by_cases h1 : tv l[i].f0.f0 l[i].f0.f1 = true
      · rw [if_pos h1]
        rw [h1, Bool.true_and] at hvi
        rw [if_neg hvi]
      · rw [if_neg h1]
theorem pvs_f (l : List S61) (hb : l.length ≤ 1048576) (k : Nat) (hk : l.length + 15 < k) : spec_PartValid.f k l = some (PV l) := by
  unfold spec_PartValid.f
  simpa using pvs_l0 l (by omega) l.length 0 k (by omega) (by omega) (by simp)
theorem pvi_l0 (l : List S61) (hl : l.length ≤ 12) : ∀ (d i k : Nat) (a : Int), i + d = l.length → d < k → 0 ≤ a → a ≤ 3 * i → impl_PartValid.l0 k a l (l.length : Int) (i : Int) = some ((l.drop i).all vv && decide (a + sumB (l.drop i) ≤ 24)) := by
  intro d
  induction d with
  | zero =>
    intro i k a hi hk h0 h1
    obtain ⟨k, rfl⟩ : ∃ m, k = m + 1 := ⟨k - 1, by omega⟩
    simp only [impl_PartValid.l0]
    rw [if_neg (by omega), List.drop_eq_nil_of_le (by omega)]
    simp [sumB]
  | succ d ih =>
    intro i k a hi hk h0 h1
    obtain ⟨k, rfl⟩ : ∃ m, k = m + 1 := ⟨k - 1, by omega⟩
    have hx : i < l.length := by omega
    simp only [impl_PartValid.l0]
    rw [if_pos (by omega), if_pos (by omega), if_pos (by omega), rdv_at l i hx, tv_impl, List.drop_eq_getElem_cons hx, sumB_cons, List.all_cons]
    simp only [Option.bind_some]
    by_cases ht : tv l[i].f0.f0 l[i].f0.f1 = true
    · rw [if_pos ht]
      by_cases h3 : l[i].f1 < 1
      · rw [if_pos h3]
        have : vv l[i] = false := by unfold vv; rw [decide_eq_false (show ¬ 1 ≤ l[i].f1 by omega)]; simp
        rw [this]
        rfl
      · rw [if_neg h3]
        by_cases h4 : l[i].f1 > 3
        · rw [if_pos h4]
          have : vv l[i] = false := by unfold vv; rw [decide_eq_false (show ¬ l[i].f1 ≤ 3 by omega)]; simp
          rw [this]
          rfl
        · have : vv l[i] = true := by unfold vv; rw [ht, decide_eq_true (show 1 ≤ l[i].f1 by omega), decide_eq_true (show l[i].f1 ≤ 3 by omega)]; rfl
          rw [if_neg h4, w1 (by omega), w0 (by omega) (by omega), ih (i + 1) k _ (by omega) (by omega) (by omega) (by omega), this, Bool.true_and, Int.add_assoc]
    · rw [if_neg ht]
      have : vv l[i] = false := by unfold vv; rw [Bool.eq_false_iff.mpr ht]; rfl
      rw [this]
      rfl
theorem pvi_f (l : List S61) (k : Nat) (hk : 13 ≤ k) : impl_PartValid.f k l = some (PV l) := by
  unfold impl_PartValid.f PV
  by_cases hl : l.length ≤ 12
  · rw [if_neg (by omega), decide_eq_true hl, Bool.true_and]
    simpa using pvi_l0 l hl l.length 0 k 0 (by omega) (by omega) (by omega) (by omega)
  · rw [if_pos (by omega), decide_eq_false hl]
    rfl

theorem expand_cons (v : S61) (l : List S61) : expand (v :: l) = List.replicate v.f1.toNat v.f0 ++ expand l := by simp [expand]
theorem expand_sum (l : List S61) (h : l.all vv = true) : ((expand l).length : Int) = sumB l := by
  induction l with
  | nil => rfl
  | cons v l ih =>
    simp only [List.all_cons, Bool.and_eq_true] at h
    have h1 := vv_bd h.1
    have h2 := ih h.2
    rw [expand_cons, sumB_cons, List.length_append, List.length_replicate]
    omega
theorem at_l0 (l : List S61) (hv : l.all vv = true) (hl : l.length ≤ 12) : ∀ (d i k : Nat) (b : Int), i + d = l.length → d ≤ k → 0 ≤ b → b < ((expand (l.drop i)).length : Int) → spec_l8At.l0 k l b (i : Int) = some (((expand (l.drop i)).getD b.toNat z43).f0, ((expand (l.drop i)).getD b.toNat z43).f1) := by
  intro d
  induction d with
  | zero =>
    intro i k b hi hk h0 h1
    rw [List.drop_eq_nil_of_le (by omega)] at h1
    simp [expand] at h1
    omega
  | succ d ih =>
    intro i k b hi hk h0 h1
    obtain ⟨k, rfl⟩ : ∃ m, k = m + 1 := ⟨k - 1, by omega⟩
    have hx : i < l.length := by omega
    have hb := vv_bd (List.all_eq_true.1 hv _ (List.getElem_mem hx))
    rw [List.drop_eq_getElem_cons hx, expand_cons] at h1 ⊢
    rw [List.length_append, List.length_replicate] at h1
    simp only [spec_l8At.l0]
    rw [if_pos (by omega), if_pos (by omega), rdv_at l i hx]
    by_cases hge : b ≥ l[i].f1
    · have hlen := expand_len (l.drop (i + 1)) (fun v hv' => (vv_bd (List.all_eq_true.1 hv v (List.mem_of_mem_drop hv'))).2)
      rw [List.length_drop] at hlen
      rw [if_pos hge, w1 (by omega), w0 (by omega) (by omega), ih (i + 1) k _ (by omega) (by omega) (by omega) (by omega)]
      rw [List.getD_eq_getElem?_getD, List.getD_eq_getElem?_getD, List.getElem?_append_right (by rw [List.length_replicate]; omega), List.length_replicate, show (b - l[i].f1).toNat = b.toNat - l[i].f1.toNat by omega]
    · rw [if_neg hge]
      rw [List.getD_eq_getElem?_getD, List.getElem?_append_left (by rw [List.length_replicate]; omega), List.getElem?_replicate, if_pos (by omega)]
      rfl
theorem at_f (l : List S61) (hv : l.all vv = true) (hl : l.length ≤ 12) (b : Int) (k : Nat) (hk : 12 ≤ k) (h0 : 0 ≤ b) (h1 : b < ((expand l).length : Int)) : spec_l8At.f k l b = some (((expand l).getD b.toNat z43).f0, ((expand l).getD b.toNat z43).f1) := by
  unfold spec_l8At.f
  simpa using at_l0 l hv hl l.length 0 k b (by omega) (by omega) h0 (by simpa using h1)
def PB (l : List S61) : Int := if PV l = true then sumB l else -1
theorem pbs_f (l : List S61) (hb : l.length ≤ 1048576) (k : Nat) (hk : l.length + 15 < k) : spec_PartBeats.f k l = some (PB l) := by
  unfold spec_PartBeats.f PB
  rw [pvs_f l hb k hk]
  simp only [Option.bind_some]
  by_cases h : PV l = true
  · rw [if_pos h, if_pos h, beats_f l (PV_len h) (PV_all h) k (by omega)]
    rfl
  · rw [if_neg h, if_neg h]
def TG (l0 l1 : List S61) : Bool := PV l0 && (PV l1 && decide (sumB l0 = sumB l1))
theorem TG_0 {l0 l1 : List S61} (h : TG l0 l1 = true) : PV l0 = true := by
  unfold TG at h
  simp only [Bool.and_eq_true] at h
  exact h.1
theorem TG_1 {l0 l1 : List S61} (h : TG l0 l1 = true) : PV l1 = true := by
  unfold TG at h
  simp only [Bool.and_eq_true] at h
  exact h.2.1
theorem TG_2 {l0 l1 : List S61} (h : TG l0 l1 = true) : sumB l0 = sumB l1 := by
  unfold TG at h
  simp only [Bool.and_eq_true, decide_eq_true_eq] at h
  exact h.2.2
def PS (l0 l1 : List S61) : List S72 := pairs (expand l0) (expand l1)
theorem so_f (l0 l1 : List S61) (k : Nat) (hk : 13 ≤ k) : impl_soundsOf.f k l0 l1 = some (if TG l0 l1 = true then (PS l0 l1, true) else ([], false)) := by
  unfold impl_soundsOf.f
  rw [pvi_f l0 k hk, pvi_f l1 k hk]
  simp only [Option.bind_some]
  congr 1
  by_cases h0 : PV l0 = true
  · by_cases h1 : PV l1 = true
    · have e0 := expand_sum l0 (PV_all h0)
      have e1 := expand_sum l1 (PV_all h1)
      by_cases h2 : sumB l0 = sumB l1
      · rw [if_pos ⟨h0, h1, by omega⟩, if_pos (by unfold TG; rw [h0, h1, decide_eq_true h2]; rfl)]
        rfl
      · rw [if_neg (fun z => h2 (by omega)), if_neg (by unfold TG; rw [h0, h1, decide_eq_false h2]; simp)]
    · rw [if_neg (fun z => h1 z.2.1), if_neg (fun z => h1 (TG_1 z))]
  · rw [if_neg (fun z => h0 z.1), if_neg (fun z => h0 (TG_0 z))]
theorem tg_f (l0 l1 : List S61) (hb0 : l0.length ≤ 1048576) (hb1 : l1.length ≤ 1048576) (k : Nat) (hk : l0.length + l1.length + 15 < k) : spec_DiscantTogether.f k l0 l1 = some (TG l0 l1) := by
  unfold spec_DiscantTogether.f
  rw [pbs_f l0 hb0 k (by omega), pbs_f l1 hb1 k (by omega)]
  simp only [Option.bind_some]
  unfold PB TG
  by_cases h0 : PV l0 = true
  · have b0 := (sumB_bd l0 (PV_all h0)).1
    rw [if_pos h0, if_pos (by omega), h0, Bool.true_and]
    by_cases h1 : PV l1 = true
    · rw [if_pos h1, h1, Bool.true_and]
      rfl
    · rw [if_neg h1, Bool.eq_false_iff.mpr h1, Bool.false_and]
      congr 1
      rw [beq_eq_false_iff_ne]
      omega
  · rw [if_neg h0, if_neg (by omega), Bool.eq_false_iff.mpr h0]
    rfl
theorem PS_len {l0 l1 : List S61} (h : TG l0 l1 = true) : ((PS l0 l1).length : Int) = sumB l0 := by
  have e0 := expand_sum l0 (PV_all (TG_0 h))
  have e1 := expand_sum l1 (PV_all (TG_1 h))
  have e2 := TG_2 h
  unfold PS pairs
  rw [List.length_zipWith]
  omega
theorem PS_bd {l0 l1 : List S61} (h : TG l0 l1 = true) : (PS l0 l1).length ≤ 24 := by
  have e0 := PS_len h
  have := PV_sum (TG_0 h)
  omega
theorem rdp_at (xs : List S72) (i : Nat) (h : i < xs.length) : rd_T72 xs (i : Int) = xs[i] := by
  simp [rd_T72, List.getD_eq_getElem?_getD, h]
theorem PS_at {l0 l1 : List S61} (h : TG l0 l1 = true) (b : Nat) (hb : b < (PS l0 l1).length) (k : Nat) (hk : 12 ≤ k) : spec_l8At.f k l0 (b : Int) = some ((PS l0 l1)[b].f0.f0, (PS l0 l1)[b].f0.f1) ∧ spec_l8At.f k l1 (b : Int) = some ((PS l0 l1)[b].f1.f0, (PS l0 l1)[b].f1.f1) := by
  have e0 := expand_sum l0 (PV_all (TG_0 h))
  have e1 := expand_sum l1 (PV_all (TG_1 h))
  have e2 := TG_2 h
  have e3 := PS_len h
  have h0 : b < (expand l0).length := by omega
  have h1 : b < (expand l1).length := by omega
  rw [at_f l0 (PV_all (TG_0 h)) (PV_len (TG_0 h)) b k hk (by omega) (by omega), at_f l1 (PV_all (TG_1 h)) (PV_len (TG_1 h)) b k hk (by omega) (by omega)]
  have g0 : (PS l0 l1)[b].f0 = (expand l0)[b] := by simp [PS, pairs]
  have g1 : (PS l0 l1)[b].f1 = (expand l1)[b] := by simp [PS, pairs]
  rw [g0, g1]
  simp [List.getD_eq_getElem?_getD, h0, h1]
theorem beats_tg {l0 l1 : List S61} (h : TG l0 l1 = true) (k : Nat) (hk : 13 ≤ k) : spec_l8Beats.f k l0 = some ((PS l0 l1).length : Int) := by
  rw [beats_f l0 (PV_len (TG_0 h)) (PV_all (TG_0 h)) k hk, PS_len h]
def opp (p q : S72) : Bool := decide (wrap64 (wrap64 (q.f0.f0 - p.f0.f0) * wrap64 (q.f1.f0 - p.f1.f0)) < 0)
def adj : List S72 → Nat
  | [] => 0
  | [_] => 0
  | p :: q :: r => (if opp p q = true then 1 else 0) + adj (q :: r)
theorem adj_drop (ps : List S72) (i : Nat) (h : i + 1 < ps.length) : adj (ps.drop i) = (if opp ps[i] ps[i + 1] = true then 1 else 0) + adj (ps.drop (i + 1)) := by
  rw [List.drop_eq_getElem_cons (show i < ps.length by omega), List.drop_eq_getElem_cons h]
  rfl
theorem adj_end (ps : List S72) (i : Nat) (h : ¬ i + 1 < ps.length) : adj (ps.drop i) = 0 := by
  by_cases hi : i < ps.length
  · rw [List.drop_eq_getElem_cons hi, List.drop_eq_nil_of_le (by omega)]
    rfl
  · rw [List.drop_eq_nil_of_le (by omega)]
    rfl
theorem contr_i (ps : List S72) (hn : ps.length ≤ 24) : ∀ (d i k : Nat) (a : Int), i + 1 + d = ps.length → d < k → 0 ≤ a → a ≤ i → impl_DiscantContrary.l0 k ps a ((i + 1 : Nat) : Int) = some (a + (adj (ps.drop i) : Nat)) := by
  intro d
  induction d with
  | zero =>
    intro i k a hi hk h0 h1
    obtain ⟨k, rfl⟩ : ∃ m, k = m + 1 := ⟨k - 1, by omega⟩
    simp only [impl_DiscantContrary.l0]
    rw [if_neg (by omega), adj_end ps i (by omega)]
    simp
  | succ d ih =>
    intro i k a hi hk h0 h1
    obtain ⟨k, rfl⟩ : ∃ m, k = m + 1 := ⟨k - 1, by omega⟩
    have hx : i + 1 < ps.length := by omega
    have e1 : wrap64 (((i + 1 : Nat) : Int) - 1) = (i : Int) := by rw [w0 (by omega) (by omega)]; omega
    simp only [impl_DiscantContrary.l0]
    rw [if_pos (by omega), e1, if_pos (by omega), if_pos (by omega), if_pos (by omega), rdp_at ps i (by omega), rdp_at ps (i + 1) hx, adj_drop ps i hx, w1 (by omega)]
    simp only [impl_soundPair_changesTo.f, Option.bind_some]
    by_cases c : wrap64 (wrap64 (ps[i + 1].f0.f0 - ps[i].f0.f0) * wrap64 (ps[i + 1].f1.f0 - ps[i].f1.f0)) < 0
    · have e : opp ps[i] ps[i + 1] = true := decide_eq_true c
      rw [if_pos c, w0 (by omega) (by omega), ih (i + 1) k _ (by omega) (by omega) (by omega) (by omega), if_pos e]
      congr 1
      omega
    · have e : ¬ opp ps[i] ps[i + 1] = true := by unfold opp; rw [decide_eq_false c]; simp
      rw [if_neg c, ih (i + 1) k _ (by omega) (by omega) (by omega) (by omega), if_neg e]
      simp
theorem moves_f {l0 l1 : List S61} (h : TG l0 l1 = true) (b : Nat) (hb : b + 1 < (PS l0 l1).length) (k : Nat) (hk : 12 ≤ k) : spec_l8Moves.f k l0 l1 (b : Int) = some (wrap64 ((PS l0 l1)[b + 1].f0.f0 - (PS l0 l1)[b].f0.f0), wrap64 ((PS l0 l1)[b + 1].f1.f0 - (PS l0 l1)[b].f1.f0)) := by
  have hn := PS_bd h
  obtain ⟨a0, a1⟩ := PS_at h b (by omega) k hk
  obtain ⟨b0, b1⟩ := PS_at h (b + 1) hb k hk
  unfold spec_l8Moves.f
  rw [w1 (by omega), a0, a1, b0, b1]
  simp only [Option.bind_some]
theorem contr_s' (l0 l1 : List S61) (ps : List S72) (hn : ps.length ≤ 24) (hB : ∀ k, 13 ≤ k → spec_l8Beats.f k l0 = some (ps.length : Int)) (hM : ∀ (b : Nat) (hb : b + 1 < ps.length) (k : Nat), 12 ≤ k → spec_l8Moves.f k l0 l1 (b : Int) = some (wrap64 (ps[b + 1].f0.f0 - ps[b].f0.f0), wrap64 (ps[b + 1].f1.f0 - ps[b].f1.f0))) : ∀ (d i k : Nat) (a : Int), i + d = ps.length → d + 14 < k → 0 ≤ a → a ≤ i → spec_DiscantContrary.l0 k l0 l1 a (i : Int) = some (a + (adj (ps.drop i) : Nat)) := by
  intro d
  induction d with
  | zero =>
    intro i k a hi hk h0 h1
    obtain ⟨k, rfl⟩ : ∃ m, k = m + 1 := ⟨k - 1, by omega⟩
    simp only [spec_DiscantContrary.l0]
    rw [hB k (by omega), Option.bind_some, w1 (by omega), if_neg (by omega), adj_end _ i (by omega)]
    simp
  | succ d ih =>
    intro i k a hi hk h0 h1
    obtain ⟨k, rfl⟩ : ∃ m, k = m + 1 := ⟨k - 1, by omega⟩
    simp only [spec_DiscantContrary.l0]
    rw [hB k (by omega), Option.bind_some, w1 (by omega)]
    by_cases hx : i + 1 < ps.length
    · rw [if_pos (by omega), hM i hx k (by omega), adj_drop _ i hx, Option.bind_some]
      dsimp only
      by_cases c : wrap64 (wrap64 (ps[i + 1].f0.f0 - ps[i].f0.f0) * wrap64 (ps[i + 1].f1.f0 - ps[i].f1.f0)) < 0
      · have e : opp ps[i] ps[i + 1] = true := decide_eq_true c
        rw [if_pos c, w0 (by omega) (by omega), ih (i + 1) k _ (by omega) (by omega) (by omega) (by omega), if_pos e]
        congr 1
        omega
      · have e : ¬ opp ps[i] ps[i + 1] = true := by unfold opp; rw [decide_eq_false c]; simp
        rw [if_neg c, ih (i + 1) k _ (by omega) (by omega) (by omega) (by omega), if_neg e]
        simp
    · rw [if_neg (by omega), adj_end _ i hx]
      simp
theorem contr_s {l0 l1 : List S61} (h : TG l0 l1 = true) (k : Nat) (hk : 40 ≤ k) : spec_DiscantContrary.l0 k l0 l1 0 0 = some ((adj (PS l0 l1) : Nat) : Int) := by
  have hn := PS_bd h
  have := contr_s' l0 l1 (PS l0 l1) hn (fun k hk => beats_tg h k hk) (fun b hb k hk => moves_f h b hb k hk) (PS l0 l1).length 0 k 0 (by omega) (by omega) (by omega) (by omega)
  simpa using this
def CN (l0 l1 : List S61) : Int := if TG l0 l1 = true then (adj (PS l0 l1) : Nat) else -1
theorem cni_f (l0 l1 : List S61) (k : Nat) (hk : 40 ≤ k) : impl_DiscantContrary.f k l0 l1 = some (CN l0 l1) := by
  unfold impl_DiscantContrary.f CN
  rw [so_f l0 l1 k (by omega)]
  simp only [Option.bind_some]
  by_cases h : TG l0 l1 = true
  · rw [if_pos h, if_pos h, if_pos rfl]
    by_cases hz : (PS l0 l1).length = 0
    · have e : PS l0 l1 = [] := List.length_eq_zero_iff.mp hz
      obtain ⟨k, rfl⟩ : ∃ m, k = m + 1 := ⟨k - 1, by omega⟩
      simp only [impl_DiscantContrary.l0, e]
      rfl
    · simpa using contr_i (PS l0 l1) (PS_bd h) ((PS l0 l1).length - 1) 0 k 0 (by omega) (by have := PS_bd h; omega) (by omega) (by omega)
  · rw [if_neg h, if_neg h]
    rfl
theorem cns_f (l0 l1 : List S61) (hb0 : l0.length ≤ 1048576) (hb1 : l1.length ≤ 1048576) (k : Nat) (hk : l0.length + l1.length + 40 < k) : spec_DiscantContrary.f k l0 l1 = some (CN l0 l1) := by
  unfold spec_DiscantContrary.f CN
  rw [tg_f l0 l1 hb0 hb1 k (by omega)]
  simp only [Option.bind_some]
  by_cases h : TG l0 l1 = true
  · rw [if_pos h, if_pos h]
    exact contr_s h k (by omega)
  · rw [if_neg h, if_neg h]
def add1 (acc : List S61) (v : S61) : List S61 := acc ++ [(⟨(⟨v.f0.f0, v.f0.f1⟩ : S43), v.f1⟩ : S61)]
def lastV (acc : List S61) : S61 := rd_T61 acc ((acc.length - 1 : Nat) : Int)
/-- A voice joins the slower part. -/
def slowStep (acc : List S61) (v : S61) : List S61 :=
  if acc.length = 0 then add1 acc v
  else if ((lastV acc).f0.f0 == v.f0.f0 && ((lastV acc).f0.f1 == v.f0.f1)) = true then
    (if (lastV acc).f1 + v.f1 ≤ 3 then acc.set (acc.length - 1) (⟨(⟨(lastV acc).f0.f0, (lastV acc).f0.f1⟩ : S43), (lastV acc).f1 + v.f1⟩ : S61) else add1 acc v)
  else add1 acc v
def bts (l : List S61) : Prop := ∀ v ∈ l, 1 ≤ v.f1 ∧ v.f1 ≤ 3
theorem lastV_mem {acc : List S61} (h : ¬ acc.length = 0) : lastV acc ∈ acc := by
  unfold lastV
  rw [rdv_at acc (acc.length - 1) (by omega)]
  exact List.getElem_mem _
theorem slowStep_len (acc : List S61) (v : S61) : (slowStep acc v).length ≤ acc.length + 1 := by
  unfold slowStep add1
  (repeat' split) <;> simp
theorem slowStep_bts {acc : List S61} {v : S61} (h : bts acc) (hv : 1 ≤ v.f1 ∧ v.f1 ≤ 3) : bts (slowStep acc v) := by
  have ha : bts (add1 acc v) := by
    intro x hx
    unfold add1 at hx
    rcases List.mem_append.1 hx with hx | hx
    · exact h x hx
    · rw [List.mem_singleton.1 hx]
      exact hv
  unfold slowStep
  split
  · exact ha
  · rename_i hn
    split
    · split
      · rename_i h3
        intro x hx
        rcases List.mem_or_eq_of_mem_set hx with hx | rfl
        · exact h x hx
        · have := h _ (lastV_mem hn)
          exact ⟨by show 1 ≤ (lastV acc).f1 + v.f1; omega, h3⟩
      · exact ha
    · exact ha
theorem slowi_l0 (l : List S61) (hl : l.length ≤ 12) (hv : bts l) : ∀ (d i k : Nat) (acc : List S61), i + d = l.length → acc.length ≤ i → bts acc → d < k → impl_PartSlow.l0 k acc l (l.length : Int) (i : Int) = some ((l.drop i).foldl slowStep acc, true) := by
  intro d
  induction d with
  | zero =>
    intro i k acc hi ha hb hk
    obtain ⟨k, rfl⟩ : ∃ m, k = m + 1 := ⟨k - 1, by omega⟩
    simp only [impl_PartSlow.l0]
    rw [if_neg (by omega), List.drop_eq_nil_of_le (by omega)]
    rfl
  | succ d ih =>
    intro i k acc hi ha hb hk
    obtain ⟨k, rfl⟩ : ∃ m, k = m + 1 := ⟨k - 1, by omega⟩
    have hx : i < l.length := by omega
    have hvi := hv l[i] (List.getElem_mem hx)
    have hn := ih (i + 1) k (slowStep acc l[i]) (by omega) (by have := slowStep_len acc l[i]; omega) (slowStep_bts hb hvi) (by omega)
    rw [List.drop_eq_getElem_cons hx, List.foldl_cons, ← hn]
    simp only [impl_PartSlow.l0]
    rw [if_pos (by omega), if_pos (by omega), if_pos (by omega), rdv_at l i hx, w1 (by omega)]
    by_cases h0 : acc.length = 0
    · have e : wrap64 ((acc.length : Int) - 1) = -1 := by rw [w0 (by omega) (by omega)]; omega
      rw [e, if_neg (by omega), if_pos (by omega)]
      unfold slowStep
      rw [if_pos h0]
      rfl
    · have e : wrap64 ((acc.length : Int) - 1) = ((acc.length - 1 : Nat) : Int) := by rw [w0 (by omega) (by omega)]; omega
      have hL := hb _ (lastV_mem h0)
      rw [e, if_pos (by omega), if_pos (by omega), if_pos (by omega)]
      rw [show rd_T61 acc ((acc.length - 1 : Nat) : Int) = lastV acc from rfl, w0 (i := (lastV acc).f1 + l[i].f1) (by omega) (by omega)]
      unfold slowStep
      rw [if_neg h0]
      by_cases h1 : ((lastV acc).f0.f0 == l[i].f0.f0 && ((lastV acc).f0.f1 == l[i].f0.f1)) = true
      · rw [if_pos h1, if_pos h1]
        by_cases h2 : (lastV acc).f1 + l[i].f1 ≤ 3
        · rw [if_pos h2, if_pos h2, Int.toNat_natCast]
        · rw [if_neg h2, if_neg h2, if_pos (by omega)]
          rfl
      · rw [if_neg h1, if_neg h1, if_pos (by omega)]
        rfl
/-- The slower part. -/
def PSl (l : List S61) : List S61 × Bool := if PV l = true then (l.foldl slowStep [], true) else ([], false)
theorem PV_bts {l : List S61} (h : PV l = true) : bts l := fun v hv => vv_bd (List.all_eq_true.1 (PV_all h) v hv)
theorem sli_f (l : List S61) (k : Nat) (hk : 13 ≤ k) : impl_PartSlow.f k l = some (PSl l) := by
  unfold impl_PartSlow.f PSl
  rw [pvi_f l k hk, Option.bind_some]
  by_cases h : PV l = true
  · rw [if_pos h, if_pos h]
    have := PV_len h
    simpa using slowi_l0 l (PV_len h) (PV_bts h) l.length 0 k [] (by omega) (by simp) (by intro v hv; cases hv) (by omega)
  · rw [if_neg h, if_neg h]
theorem fold_len (l : List S61) : ∀ acc : List S61, (l.foldl slowStep acc).length ≤ acc.length + l.length := by
  induction l with
  | nil => intro acc; simp
  | cons v l ih =>
    intro acc
    have h1 := ih (slowStep acc v)
    have h2 := slowStep_len acc v
    simp only [List.foldl_cons, List.length_cons]
    omega
theorem PSl_len (l : List S61) : (PSl l).1.length ≤ 12 := by
  unfold PSl
  by_cases h : PV l = true
  · rw [if_pos h]
    have := fold_len l []
    have := PV_len h
    simp only [List.length_nil] at *
    omega
  · rw [if_neg h]
    simp
theorem acc_split {acc : List S61} (h : ¬ acc.length = 0) : ∃ init, acc = init ++ [lastV acc] ∧ acc.length - 1 = init.length := by
  have hne : acc ≠ [] := fun e => h (by rw [e]; rfl)
  refine ⟨acc.dropLast, ?_, by simp⟩
  have e : lastV acc = acc.getLast hne := by
    unfold lastV
    rw [rdv_at acc (acc.length - 1) (by omega), List.getLast_eq_getElem]
  rw [e]
  exact (List.dropLast_concat_getLast hne).symm
theorem expand_app (a b : List S61) : expand (a ++ b) = expand a ++ expand b := by simp [expand]
theorem expand_one (v : S61) : expand [v] = List.replicate v.f1.toNat v.f0 := by simp [expand]
theorem sumB_app (a b : List S61) : sumB (a ++ b) = sumB a + sumB b := by simp [sumB]
theorem sumB_one (v : S61) : sumB [v] = v.f1 := by simp [sumB]
theorem set_last (init : List S61) (u w : S61) : (init ++ [u]).set init.length w = init ++ [w] := by simp
structure Slow (acc : List S61) (s : Int) (e : List S43) : Prop where
  vv : acc.all vv = true
  sum : sumB acc = s
  exp : expand acc = e
  nm : ∀ (i : Nat) (h : i + 1 < acc.length), ¬ (acc[i].f0.f0 = acc[i + 1].f0.f0 ∧ acc[i].f0.f1 = acc[i + 1].f0.f1 ∧ acc[i].f1 + acc[i + 1].f1 ≤ 3)
theorem slow_add {acc : List S61} {s : Int} {e : List S43} (h : Slow acc s e) (v : S61) (hv : vv v = true)
    (hm : ¬ acc.length = 0 → ¬ ((lastV acc).f0.f0 = v.f0.f0 ∧ (lastV acc).f0.f1 = v.f0.f1 ∧ (lastV acc).f1 + v.f1 ≤ 3)) : Slow (add1 acc v) (s + v.f1) (e ++ List.replicate v.f1.toNat v.f0) := by
  unfold add1
  rw [show (⟨(⟨v.f0.f0, v.f0.f1⟩ : S43), v.f1⟩ : S61) = v from rfl]
  refine ⟨by rw [List.all_append, h.vv]; simp [hv], by rw [sumB_app, h.sum, sumB_one], by rw [expand_app, h.exp, expand_one], fun i hi => ?_⟩
  simp only [List.length_append, List.length_singleton] at hi
  by_cases hl : i + 1 < acc.length
  · rw [List.getElem_append_left (by omega), List.getElem_append_left hl]
    exact h.nm i hl
  · have e1 : i + 1 = acc.length := by omega
    have hn : ¬ acc.length = 0 := by omega
    have e2 : lastV acc = acc[i]'(by omega) := by
      unfold lastV
      rw [rdv_at acc (acc.length - 1) (by omega)]
      congr 1
      omega
    have := hm hn
    rw [e2] at this
    rw [List.getElem_append_left (by omega), List.getElem_append_right (by omega)]
    simpa [e1] using this
theorem slow_step {acc : List S61} {s : Int} {e : List S43} (h : Slow acc s e) (v : S61) (hv : vv v = true) : Slow (slowStep acc v) (s + v.f1) (e ++ List.replicate v.f1.toNat v.f0) := by
  have hvb := vv_bd hv
  unfold slowStep
  by_cases h0 : acc.length = 0
  · rw [if_pos h0]
    exact slow_add h v hv (fun hn => absurd h0 hn)
  · rw [if_neg h0]
    by_cases h1 : ((lastV acc).f0.f0 == v.f0.f0 && ((lastV acc).f0.f1 == v.f0.f1)) = true
    · rw [if_pos h1]
      simp only [Bool.and_eq_true, beq_iff_eq] at h1
      by_cases h2 : (lastV acc).f1 + v.f1 ≤ 3
      · rw [if_pos h2]
        have hu : vv (lastV acc) = true := List.all_eq_true.1 h.vv _ (lastV_mem h0)
        have hub := vv_bd hu
        obtain ⟨init, ei, en⟩ := acc_split h0
        have hv1 := h.vv
        have hs1 := h.sum
        have he1 := h.exp
        have hset0 : ∀ w : S61, acc.set (acc.length - 1) w = init ++ [w] := fun w => by
          rw [en]
          conv => lhs; rw [ei]
          rw [set_last]
        have hset : acc.set (acc.length - 1) (⟨(⟨(lastV acc).f0.f0, (lastV acc).f0.f1⟩ : S43), (lastV acc).f1 + v.f1⟩ : S61) = init ++ [(⟨(lastV acc).f0, (lastV acc).f1 + v.f1⟩ : S61)] := hset0 _
        have hvf : v.f0 = (lastV acc).f0 := by
          have e1 := h1.1
          have e2 := h1.2
          cases hx : v.f0 with
          | mk a b =>
            cases hy : (lastV acc).f0 with
            | mk c d =>
              rw [hx, hy] at e1 e2
              simp only at e1 e2
              rw [e1, e2]
        rw [ei] at hv1 hs1 he1
        rw [List.all_append, Bool.and_eq_true] at hv1
        rw [sumB_app, sumB_one] at hs1
        rw [expand_app, expand_one] at he1
        refine ⟨?_, ?_, ?_, ?_⟩
        · rw [hset, List.all_append, hv1.1]
          have : vv (⟨(lastV acc).f0, (lastV acc).f1 + v.f1⟩ : S61) = true := by
            unfold vv at hu ⊢
            simp only [Bool.and_eq_true, decide_eq_true_eq] at hu ⊢
            exact ⟨hu.1, by omega, h2⟩
          simp [this]
        · rw [hset, sumB_app, sumB_one]
          show sumB init + ((lastV acc).f1 + v.f1) = s + v.f1
          omega
        · rw [hset, expand_app, expand_one, ← he1, List.append_assoc, hvf, List.replicate_append_replicate]
          show expand init ++ List.replicate ((lastV acc).f1 + v.f1).toNat (lastV acc).f0 = _
          rw [show ((lastV acc).f1 + v.f1).toNat = (lastV acc).f1.toNat + v.f1.toNat by omega]
        · intro i hi
          simp only [List.length_set] at hi
          have hn := h.nm i hi
          by_cases hl : i + 1 = acc.length - 1
          · have e2 : lastV acc = acc[i + 1] := by
              unfold lastV
              rw [rdv_at acc (acc.length - 1) (by omega)]
              congr 1
              omega
            rw [List.getElem_set_ne (by omega), List.getElem_set]
            rw [if_pos (by omega)]
            show ¬ (acc[i].f0.f0 = (lastV acc).f0.f0 ∧ acc[i].f0.f1 = (lastV acc).f0.f1 ∧ acc[i].f1 + ((lastV acc).f1 + v.f1) ≤ 3)
            rw [e2] at hub ⊢
            intro hc
            exact hn ⟨hc.1, hc.2.1, by have := hc.2.2; omega⟩
          · rw [List.getElem_set_ne (by omega), List.getElem_set_ne (by omega)]
            exact hn
      · rw [if_neg h2]
        exact slow_add h v hv (fun _ hc => h2 hc.2.2)
    · rw [if_neg h1]
      refine slow_add h v hv (fun _ hc => h1 ?_)
      simp only [Bool.and_eq_true, beq_iff_eq]
      exact ⟨hc.1, hc.2.1⟩
theorem slow_fold (l : List S61) (hv : l.all vv = true) : ∀ (acc : List S61) (s : Int) (e : List S43), Slow acc s e → Slow (l.foldl slowStep acc) (s + sumB l) (e ++ expand l) := by
  induction l with
  | nil =>
    intro acc s e h
    have e1 : sumB ([] : List S61) = 0 := rfl
    have e2 : expand ([] : List S61) = [] := rfl
    rw [e1, e2, Int.add_zero, List.append_nil]
    exact h
  | cons v l ih =>
    intro acc s e h
    rw [List.all_cons, Bool.and_eq_true] at hv
    have := ih hv.2 _ _ _ (slow_step h v hv.1)
    rw [List.foldl_cons, sumB_cons, expand_cons, ← Int.add_assoc, ← List.append_assoc]
    exact this
theorem slow_all {l : List S61} (h : PV l = true) : PV (l.foldl slowStep []) = true ∧ Slow (l.foldl slowStep []) (sumB l) (expand l) := by
  have h0 : Slow [] 0 [] := ⟨rfl, rfl, rfl, fun i hi => absurd hi (by simp)⟩
  have hs := slow_fold l (PV_all h) [] 0 [] h0
  rw [Int.zero_add, List.nil_append] at hs
  refine ⟨?_, hs⟩
  have hl := fold_len l []
  have hl2 := PV_len h
  have hs2 := PV_sum h
  unfold PV
  rw [hs.vv, hs.sum, decide_eq_true (show (l.foldl slowStep []).length ≤ 12 by simp only [List.length_nil] at hl; omega), decide_eq_true hs2]
  rfl
theorem xor_nn (a b : Int) (ha : 0 ≤ a) (ha' : a < 4611686018427387904) (hb : 0 ≤ b) (hb' : b < 4611686018427387904) : 0 ≤ Go.bits .xor .i64 a b := by
  obtain ⟨x, rfl⟩ := Int.eq_ofNat_of_zero_le ha
  obtain ⟨y, rfl⟩ := Int.eq_ofNat_of_zero_le hb
  have hx : x ^^^ y < 2 ^ 62 := Nat.xor_lt_two_pow (by omega) (by omega)
  have h1 : (BitVec.ofInt 64 (x : Int)).toNat = x := by
    rw [BitVec.ofInt_natCast, BitVec.toNat_ofNat]; exact Nat.mod_eq_of_lt (by omega)
  have h2 : (BitVec.ofInt 64 (y : Int)).toNat = y := by
    rw [BitVec.ofInt_natCast, BitVec.toNat_ofNat]; exact Nat.mod_eq_of_lt (by omega)
  have e : Go.bits .xor .i64 (x : Int) (y : Int) = IntKind.i64.wrap (((x ^^^ y : Nat)) : Int) := by
    show IntKind.i64.wrap ((BitVec.ofInt 64 (x : Int) ^^^ BitVec.ofInt 64 (y : Int)).toNat : Int) = _
    rw [BitVec.toNat_xor, h1, h2]
  rw [e, IntWalk.i64_in _ (by omega)]
  omega
/-- A list of bytes. -/
def Bytes (l : List Int) : Prop := ∀ n ∈ l, 0 ≤ n ∧ n ≤ 255
theorem rd_byte {l : List Int} (h : Bytes l) (i : Int) (h0 : 0 ≤ i) (h1 : i < (l.length : Int)) : 0 ≤ rd l i ∧ rd l i ≤ 255 := by
  obtain ⟨n, rfl⟩ := Int.eq_ofNat_of_zero_le h0
  have hn : n < l.length := by omega
  rw [rd_at l n hn]
  exact h _ (List.getElem_mem hn)
theorem tm_bd (a n : Int) (ha : 0 ≤ a) (hn : 0 < n) : 0 ≤ Int.tmod a n ∧ Int.tmod a n < n := by
  rw [Int.tmod_eq_emod_of_nonneg ha]
  exact ⟨Int.emod_nonneg _ (by omega), Int.emod_lt_of_pos _ hn⟩
theorem td_bd (a n : Int) (ha : 0 ≤ a) (hn : 0 < n) : 0 ≤ Int.tdiv a n ∧ Int.tdiv a n ≤ a := by
  rw [Int.tdiv_eq_ediv_of_nonneg ha]
  exact ⟨Int.ediv_nonneg ha (by omega), Int.ediv_le_self _ ha⟩
theorem pick_some (l : List Int) (hl : Bytes l) (hn : l.length ≤ 2000) (p n : Int) (hp : 0 ≤ p) (hp' : p ≤ 1000000) (h1 : 1 ≤ n) (h2 : n ≤ 1000000) :
    ∃ v, 0 ≤ v ∧ v < n ∧ ∀ k, spec_l6Rd_pick.f (k + 1) l p n = some (v, p + 1) := by
  unfold spec_l6Rd_pick.f
  simp only [spec_l6Rd_pick.j0]
  rw [if_neg (show ¬ n < 1 by omega), w0 (i := p + 1) (by omega) (by omega), show p + 1 - 1 = p by omega, w0 (i := p) (by omega) (by omega)]
  by_cases hl0 : l.length = 0
  · refine ⟨0, by omega, by omega, fun k => ?_⟩
    rw [if_pos (show ((l.length : Int) == 0) = true by rw [hl0]; rfl)]
  · rw [if_neg (show ¬ (((l.length : Int) == 0) = true) from fun h => hl0 (by have := beq_iff_eq.1 h; omega))]
    have hlp : (0 : Int) < (l.length : Int) := by omega
    by_cases hpl : p < (l.length : Int)
    · obtain ⟨b0, b1⟩ := rd_byte hl p hp hpl
      rw [if_pos hpl, if_pos hp, if_neg (show ¬ n = 0 by omega), w0 (i := rd l p) (by omega) (by omega)]
      obtain ⟨t0, t1⟩ := tm_bd (rd l p) n b0 (by omega)
      exact ⟨_, t0, t1, fun _ => rfl⟩
    · rw [if_neg hpl, if_neg (show ¬ (l.length : Int) = 0 by omega), w0 (i := p * 7) (by omega) (by omega), w0 (i := p * 7 + 3) (by omega) (by omega)]
      obtain ⟨i0, i1⟩ := tm_bd p (l.length : Int) hp hlp
      obtain ⟨j0, j1⟩ := tm_bd (p * 7 + 3) (l.length : Int) (by omega) hlp
      obtain ⟨q0, q1⟩ := td_bd p (l.length : Int) hp hlp
      rw [if_pos i0, if_pos i1, if_pos j0, if_pos j1, if_neg (show ¬ n = 0 by omega)]
      obtain ⟨a0, a1⟩ := rd_byte hl _ i0 i1
      obtain ⟨b0, b1⟩ := rd_byte hl _ j0 j1
      generalize rd l (Int.tmod p (l.length : Int)) = a at a0 a1 ⊢
      generalize rd l (Int.tmod (p * 7 + 3) (l.length : Int)) = b at b0 b1 ⊢
      generalize Int.tdiv p (l.length : Int) = q at q0 q1 ⊢
      simp (disch := omega) only [w0]
      have x0 : 0 ≤ a * 131 + b * 1117 + p * 29 + q * 53 := by omega
      obtain ⟨d0, d1⟩ := td_bd (a * 131 + b * 1117 + p * 29 + q * 53) 64 x0 (by omega)
      rw [w0 (i := Int.tdiv (a * 131 + b * 1117 + p * 29 + q * 53) 64) (by omega) (by omega)]
      obtain ⟨t0, t1⟩ := tm_bd (Go.bits .xor .i64 (a * 131 + b * 1117 + p * 29 + q * 53) (Int.tdiv (a * 131 + b * 1117 + p * 29 + q * 53) 64)) n (xor_nn _ _ x0 (by omega) d0 (by omega)) (by omega)
      exact ⟨_, t0, t1, fun _ => rfl⟩
/-- What a reader's pick answers. -/
def pk (l : List Int) (p n : Int) : Int := ((spec_l6Rd_pick.f 1 l p n).getD (0, 0)).1
structure Rdr (l : List Int) : Prop where
  bytes : Bytes l
  len : l.length ≤ 2000
theorem pk_f {l : List Int} (h : Rdr l) (p n : Int) (k : Nat) (hp : 0 ≤ p) (hp' : p ≤ 1000000) (h1 : 1 ≤ n) (h2 : n ≤ 1000000) (hk : 1 ≤ k) : spec_l6Rd_pick.f k l p n = some (pk l p n, p + 1) := by
  obtain ⟨v, _, _, hv⟩ := pick_some l h.bytes h.len p n hp hp' h1 h2
  unfold pk
  rw [hv 0]
  obtain ⟨k, rfl⟩ : ∃ m, k = m + 1 := ⟨k - 1, by omega⟩
  rw [hv k]
  rfl
theorem pk_bd {l : List Int} (h : Rdr l) (p n : Int) (hp : 0 ≤ p) (hp' : p ≤ 1000000) (h1 : 1 ≤ n) (h2 : n ≤ 1000000) : 0 ≤ pk l p n ∧ pk l p n < n := by
  obtain ⟨v, h3, h4, hv⟩ := pick_some l h.bytes h.len p n hp hp' h1 h2
  unfold pk
  rw [hv 0]
  exact ⟨h3, h4⟩
theorem open_f (l : List Int) (hl : Bytes l) : ∃ s, spec_l6Open.f l = some (s, 0) ∧ Rdr s := by
  unfold spec_l6Open.f
  by_cases h : (l.length : Int) > 2000
  · rw [if_pos h, if_pos (by omega)]
    exact ⟨_, rfl, ⟨fun n hn => hl n (List.mem_of_mem_take hn), by simp; omega⟩⟩
  · rw [if_neg h]
    exact ⟨_, rfl, ⟨hl, by omega⟩⟩
theorem bytes_of {l : List Int} (h : ∀ n ∈ l, (Lit.int .u8 n).wf = true) : Bytes l := fun n hn => by
  have := h n hn
  simp [Lit.wf, IntKind.min, IntKind.max, IntKind.signed, IntKind.bits] at this
  omega
theorem letter_f (a : Int) : spec_l1Letter.f a = some (Int.tmod a 7) := rfl
theorem clamp_bd (a b x : Int) (h : a ≤ b) : a ≤ mx a (mn b x) ∧ mx a (mn b x) ≤ b := by
  unfold mx mn
  constructor <;> (repeat' split) <;> omega
theorem part_end (l : List Int) (h : Rdr l) (acc : List S61) (x1 x6 p : Int) (ha : acc.length ≤ 12) (hp : 0 ≤ p) (hp' : p ≤ 100000) :
    ∃ out q, out.length ≤ 12 ∧ p ≤ q ∧ q ≤ p + 2 ∧ ∀ k, 2 ≤ k → spec_l92Part.j1 k x1 acc x6 false l p = some (out, q) := by
  by_cases h0 : acc.length = 0
  · refine ⟨acc, p, ha, by omega, by omega, fun k hk => ?_⟩
    obtain ⟨k, rfl⟩ : ∃ m, k = m + 1 := ⟨k - 1, by omega⟩
    rw [spec_l92Part.j1, if_neg (by decide), if_neg (by omega)]
  · by_cases h1 : pk l p 50 = 0
    · obtain ⟨v0, v1⟩ := pk_bd h (p + 1) 2 (by omega) (by omega) (by omega) (by omega)
      refine ⟨acc.set (0 : Int).toNat ⟨⟨(rd_T61 acc 0).f0.f0, (rd_T61 acc 0).f0.f1⟩, rd ([0, 4] : List Int) (pk l (p + 1) 2)⟩, p + 1 + 1, by simp; omega, by omega, by omega, fun k hk => ?_⟩
      obtain ⟨k, rfl⟩ : ∃ m, k = m + 1 := ⟨k - 1, by omega⟩
      rw [spec_l92Part.j1, if_neg (by decide), if_pos (by omega), pk_f h p 50 k (by omega) (by omega) (by omega) (by omega) (by omega)]
      simp only [Option.bind_some]
      rw [if_pos h1, pk_f h (p + 1) 2 k (by omega) (by omega) (by omega) (by omega) (by omega)]
      simp only [Option.bind_some]
      rw [if_pos v0, if_pos (by simpa using v1), if_pos (by omega)]
    · by_cases h2 : pk l p 50 = 1
      · refine ⟨acc.set (0 : Int).toNat ⟨⟨21, (rd_T61 acc 0).f0.f1⟩, (rd_T61 acc 0).f1⟩, p + 1, by simp; omega, by omega, by omega, fun k hk => ?_⟩
        obtain ⟨k, rfl⟩ : ∃ m, k = m + 1 := ⟨k - 1, by omega⟩
        rw [spec_l92Part.j1, if_neg (by decide), if_pos (by omega), pk_f h p 50 k (by omega) (by omega) (by omega) (by omega) (by omega)]
        simp only [Option.bind_some]
        rw [if_neg h1, if_pos h2, if_pos (by omega)]
      · refine ⟨acc, p + 1, ha, by omega, by omega, fun k hk => ?_⟩
        obtain ⟨k, rfl⟩ : ∃ m, k = m + 1 := ⟨k - 1, by omega⟩
        rw [spec_l92Part.j1, if_neg (by decide), if_pos (by omega), pk_f h p 50 k (by omega) (by omega) (by omega) (by omega) (by omega)]
        simp only [Option.bind_some]
        rw [if_neg h1, if_neg h2]
theorem part_l0 (l : List Int) (h : Rdr l) : ∀ (d : Nat) (acc : List S61) (x1 x6 p : Int), acc.length + d = 12 → 0 ≤ x1 → x1 ≤ 1000 → 0 ≤ x6 → x6 ≤ 20 → 0 ≤ p → p ≤ 10000 + 3 * acc.length →
    ∃ out q, out.length ≤ 12 ∧ p ≤ q ∧ q ≤ p + 3 * d + 2 ∧ ∀ k, 2 * d + 4 ≤ k → spec_l92Part.l0 k x1 acc x6 l p = some (out, q) := by
  intro d
  induction d with
  | zero =>
    intro acc x1 x6 p ha h0 h1 h2 h3 hp hp'
    obtain ⟨out, q, ho, q0, q1, hq⟩ := part_end l h acc x1 x6 p (by omega) hp (by omega)
    refine ⟨out, q, ho, q0, by omega, fun k hk => ?_⟩
    obtain ⟨k, rfl⟩ : ∃ m, k = m + 1 := ⟨k - 1, by omega⟩
    rw [spec_l92Part.l0, decide_eq_false (show ¬ (acc.length : Int) < 12 by omega)]
    split
    · exact hq k (by omega)
    · exact hq k (by omega)
  | succ d ih =>
    intro acc x1 x6 p ha h0 h1 h2 h3 hp hp'
    by_cases hx1 : x1 > 0
    · have hmn : 1 ≤ mn 3 x1 ∧ mn 3 x1 ≤ 3 ∧ mn 3 x1 ≤ x1 := by
        unfold mn
        split <;> omega
      obtain ⟨n0, n1⟩ := pk_bd h p (mn 3 x1) (by omega) (by omega) (by omega) (by omega)
      have hn := fun k (hk : 1 ≤ k) => pk_f h p (mn 3 x1) k (by omega) (by omega) (by omega) (by omega) hk
      by_cases hx : Int.tmod x6 7 = 2
      · obtain ⟨v0, v1⟩ := pk_bd h (p + 1 + 1) 5 (by omega) (by omega) (by omega) (by omega)
        obtain ⟨c0, c1⟩ := clamp_bd 1 16 (x6 + pk l (p + 1 + 1) 5 - 2) (by omega)
        obtain ⟨out, q, ho, q0, q1, hq⟩ := ih (acc ++ [⟨⟨x6, pk l (p + 1) 3 == 0⟩, 1 + pk l p (mn 3 x1)⟩]) (x1 - (1 + pk l p (mn 3 x1))) (mx 1 (mn 16 (x6 + pk l (p + 1 + 1) 5 - 2))) (p + 1 + 1 + 1) (by simp; omega) (by omega) (by omega) (by omega) (by omega) (by omega) (by simp; omega)
        refine ⟨out, q, ho, by omega, by omega, fun k hk => ?_⟩
        obtain ⟨k, rfl⟩ : ∃ m, k = m + 2 := ⟨k - 2, by omega⟩
        rw [spec_l92Part.l0, if_pos hx1, decide_eq_true (show (acc.length : Int) < 12 by omega), spec_l92Part.j1, if_pos rfl, hn k (by omega)]
        simp only [Option.bind_some]
        rw [letter_f]
        simp only [Option.bind_some]
        rw [if_pos hx, pk_f h (p + 1) 3 k (by omega) (by omega) (by omega) (by omega) (by omega)]
        simp only [Option.bind_some]
        rw [if_pos (by omega), pk_f h (p + 1 + 1) 5 k (by omega) (by omega) (by omega) (by omega) (by omega)]
        simp only [Option.bind_some]
        rw [w0 (i := 1 + pk l p (mn 3 x1)) (by omega) (by omega), w0 (i := x1 - (1 + pk l p (mn 3 x1))) (by omega) (by omega), w0 (i := x6 + pk l (p + 1 + 1) 5) (by omega) (by omega), w0 (i := x6 + pk l (p + 1 + 1) 5 - 2) (by omega) (by omega)]
        exact hq k (by omega)
      · obtain ⟨v0, v1⟩ := pk_bd h (p + 1) 5 (by omega) (by omega) (by omega) (by omega)
        obtain ⟨c0, c1⟩ := clamp_bd 1 16 (x6 + pk l (p + 1) 5 - 2) (by omega)
        obtain ⟨out, q, ho, q0, q1, hq⟩ := ih (acc ++ [⟨⟨x6, false⟩, 1 + pk l p (mn 3 x1)⟩]) (x1 - (1 + pk l p (mn 3 x1))) (mx 1 (mn 16 (x6 + pk l (p + 1) 5 - 2))) (p + 1 + 1) (by simp; omega) (by omega) (by omega) (by omega) (by omega) (by omega) (by simp; omega)
        refine ⟨out, q, ho, by omega, by omega, fun k hk => ?_⟩
        obtain ⟨k, rfl⟩ : ∃ m, k = m + 2 := ⟨k - 2, by omega⟩
        rw [spec_l92Part.l0, if_pos hx1, decide_eq_true (show (acc.length : Int) < 12 by omega), spec_l92Part.j1, if_pos rfl, hn k (by omega)]
        simp only [Option.bind_some]
        rw [letter_f]
        simp only [Option.bind_some]
        rw [if_neg hx, if_pos (by omega), pk_f h (p + 1) 5 k (by omega) (by omega) (by omega) (by omega) (by omega)]
        simp only [Option.bind_some]
        rw [w0 (i := 1 + pk l p (mn 3 x1)) (by omega) (by omega), w0 (i := x1 - (1 + pk l p (mn 3 x1))) (by omega) (by omega), w0 (i := x6 + pk l (p + 1) 5) (by omega) (by omega), w0 (i := x6 + pk l (p + 1) 5 - 2) (by omega) (by omega)]
        exact hq k (by omega)
    · obtain ⟨out, q, ho, q0, q1, hq⟩ := part_end l h acc x1 x6 p (by omega) hp (by omega)
      refine ⟨out, q, ho, q0, by omega, fun k hk => ?_⟩
      obtain ⟨k, rfl⟩ : ∃ m, k = m + 1 := ⟨k - 1, by omega⟩
      rw [spec_l92Part.l0, if_neg hx1]
      exact hq k (by omega)
theorem part_d (l : List Int) (h : Rdr l) (p a : Int) (h0 : 0 ≤ a) (h1 : a ≤ 1000) (hp : 0 ≤ p) (hp' : p ≤ 9000) : ∃ out q, out.length ≤ 12 ∧ p ≤ q ∧ q ≤ p + 40 ∧ ∀ k, 40 ≤ k → spec_l92Part.f k l p a = some (out, q) := by
  obtain ⟨v0, v1⟩ := pk_bd h p 6 (by omega) (by omega) (by omega) (by omega)
  obtain ⟨out, q, ho, q0, q1, hq⟩ := part_l0 l h 12 [] a (5 + pk l p 6) (p + 1) rfl h0 h1 (by omega) (by omega) (by omega) (by simp; omega)
  refine ⟨out, q, ho, by omega, by omega, fun k hk => ?_⟩
  unfold spec_l92Part.f
  rw [pk_f h p 6 k (by omega) (by omega) (by omega) (by omega) (by omega)]
  simp only [Option.bind_some]
  rw [w0 (i := 5 + pk l p 6) (by omega) (by omega)]
  exact hq k (by omega)
theorem disc_l0 (l : List Int) (h : Rdr l) (a : List S61) : ∀ (d i : Nat) (b : List S61) (p : Int), i + d = b.length → b.length ≤ 12 → 0 ≤ p → p ≤ 10000 + i → ∃ c q, c.length ≤ 12 ∧ ∀ k, d + 2 ≤ k → spec_l92Discant.l0 k a b (i : Int) l p = some (a, c, q) := by
  intro d
  induction d with
  | zero =>
    intro i b p hi hb hp hp'
    refine ⟨b, p, hb, fun k hk => ?_⟩
    obtain ⟨k, rfl⟩ : ∃ m, k = m + 1 := ⟨k - 1, by omega⟩
    simp only [spec_l92Discant.l0]
    rw [if_neg (by omega)]
  | succ d ih =>
    intro i b p hi hb hp hp'
    obtain ⟨v0, v1⟩ := pk_bd h p 6 (by omega) (by omega) (by omega) (by omega)
    obtain ⟨c, q, hc, hq⟩ := ih (i + 1) (b.set ((i : Int)).toNat (⟨(⟨mn 20 (wrap64 ((mx 0 ((rd_T61 b (i : Int)).f0.f0)) + (rd ([4, 4, 3, 7, 0, 2] : List Int) (pk l p 6)))), false⟩ : S43), (rd_T61 b (i : Int)).f1⟩ : S61)) (p + 1) (by simp; omega) (by simpa using hb) (by omega) (by omega)
    refine ⟨c, q, hc, fun k hk => ?_⟩
    obtain ⟨k, rfl⟩ : ∃ m, k = m + 1 := ⟨k - 1, by omega⟩
    simp only [spec_l92Discant.l0, Option.bind_some]
    rw [if_pos (by omega), pk_f h p 6 k (by omega) (by omega) (by omega) (by omega) (by omega)]
    simp only [Option.bind_some]
    rw [if_pos v0, if_pos (by simpa using v1), if_pos (by omega), w1 (by omega)]
    exact hq k (by omega)
theorem disc_d (l : List Int) (h : Rdr l) (p : Int) (hp : 0 ≤ p) (hp' : p ≤ 4000) : ∃ a b q, a.length ≤ 12 ∧ b.length ≤ 12 ∧ ∀ k, 60 ≤ k → spec_l92Discant.f k l p = some (a, b, q) := by
  obtain ⟨n0, n1⟩ := pk_bd h p 12 (by omega) (by omega) (by omega) (by omega)
  obtain ⟨a, q, ha, q0, q1, hq⟩ := part_d l h (p + 1) (pk l p 12) n0 (by omega) (by omega) (by omega)
  by_cases h0 : pk l q 2 = 0
  · obtain ⟨c, q', hc, hd⟩ := disc_l0 l h a a.length 0 a (q + 1) (by omega) ha (by omega) (by omega)
    refine ⟨a, c, q', ha, hc, fun k hk => ?_⟩
    unfold spec_l92Discant.f
    rw [pk_f h p 12 k (by omega) (by omega) (by omega) (by omega) (by omega)]
    simp only [Option.bind_some]
    rw [hq k (by omega)]
    simp only [Option.bind_some]
    rw [pk_f h q 2 k (by omega) (by omega) (by omega) (by omega) (by omega)]
    simp only [Option.bind_some]
    rw [if_pos h0, if_pos (by simp; omega), List.nil_append]
    exact hd k (by omega)
  · by_cases h1 : pk l (q + 1) 8 = 0
    · obtain ⟨b, q', hb, r0, r1, hr⟩ := part_d l h (q + 1 + 1) (pk l p 12 + 1) (by omega) (by omega) (by omega) (by omega)
      refine ⟨a, b, q', ha, hb, fun k hk => ?_⟩
      unfold spec_l92Discant.f
      rw [pk_f h p 12 k (by omega) (by omega) (by omega) (by omega) (by omega)]
      simp only [Option.bind_some]
      rw [hq k (by omega)]
      simp only [Option.bind_some]
      rw [pk_f h q 2 k (by omega) (by omega) (by omega) (by omega) (by omega)]
      simp only [Option.bind_some]
      rw [if_neg h0, pk_f h (q + 1) 8 k (by omega) (by omega) (by omega) (by omega) (by omega)]
      simp only [Option.bind_some]
      rw [if_pos h1, w0 (i := pk l p 12 + 1) (by omega) (by omega), hr k (by omega)]
      rfl
    · obtain ⟨b, q', hb, r0, r1, hr⟩ := part_d l h (q + 1 + 1) (pk l p 12) (by omega) (by omega) (by omega) (by omega)
      refine ⟨a, b, q', ha, hb, fun k hk => ?_⟩
      unfold spec_l92Discant.f
      rw [pk_f h p 12 k (by omega) (by omega) (by omega) (by omega) (by omega)]
      simp only [Option.bind_some]
      rw [hq k (by omega)]
      simp only [Option.bind_some]
      rw [pk_f h q 2 k (by omega) (by omega) (by omega) (by omega) (by omega)]
      simp only [Option.bind_some]
      rw [if_neg h0, pk_f h (q + 1) 8 k (by omega) (by omega) (by omega) (by omega) (by omega)]
      simp only [Option.bind_some]
      rw [if_neg h1, hr k (by omega)]
      rfl
def swp (p : S72) : S72 := ⟨p.f1, p.f0⟩
theorem pairs_swap (xs : List S43) : ∀ ys : List S43, pairs ys xs = (pairs xs ys).map swp := by
  induction xs with
  | nil => intro ys; cases ys <;> rfl
  | cons x xs ih =>
    intro ys
    cases ys with
    | nil => rfl
    | cons y ys =>
      have := ih ys
      unfold pairs at this ⊢
      rw [List.zipWith_cons_cons, List.zipWith_cons_cons, this]
      rfl
theorem opp_swap (p q : S72) : opp (swp p) (swp q) = opp p q := by
  unfold opp swp
  rw [Int.mul_comm]
theorem adj_swap : ∀ ps : List S72, adj (ps.map swp) = adj ps
  | [] => rfl
  | [_] => rfl
  | p :: q :: r => by
    have := adj_swap (q :: r)
    simp only [List.map_cons, adj] at this ⊢
    rw [this, opp_swap]
theorem CN_swap (a b : List S61) (h : TG a b = true) : CN b a = CN a b := by
  have h' : TG b a = true := by
    unfold TG
    rw [TG_0 h, TG_1 h, TG_2 h]
    simp
  unfold CN
  rw [if_pos h, if_pos h']
  unfold PS
  rw [pairs_swap, adj_swap]
theorem exp_tone {a : List S61} (h : PV a = true) : ∀ t ∈ expand a, 0 ≤ t.f0 ∧ t.f0 ≤ 20 := by
  intro t ht
  obtain ⟨v, hv, hr⟩ := List.mem_flatMap.1 (show t ∈ a.flatMap fun v => List.replicate v.f1.toNat v.f0 by simpa [expand] using ht)
  have e := List.eq_of_mem_replicate hr
  have hvv := List.all_eq_true.1 (PV_all h) v hv
  unfold vv tv at hvv
  simp only [Bool.and_eq_true, decide_eq_true_eq] at hvv
  rw [e]
  exact ⟨hvv.1.1, hvv.1.2.1⟩
theorem adj_self : ∀ xs : List S43, (∀ t ∈ xs, 0 ≤ t.f0 ∧ t.f0 ≤ 20) → adj (pairs xs xs) = 0
  | [], _ => rfl
  | [_], _ => rfl
  | x :: y :: r, h => by
    have ih := adj_self (y :: r) (fun t ht => h t (List.mem_cons_of_mem _ ht))
    have hx := h x (List.mem_cons_self ..)
    have hy := h y (List.mem_cons_of_mem _ (List.mem_cons_self ..))
    have e : pairs (x :: y :: r) (x :: y :: r) = ⟨x, x⟩ :: ⟨y, y⟩ :: pairs r r := rfl
    have e2 : pairs (y :: r) (y :: r) = ⟨y, y⟩ :: pairs r r := rfl
    rw [e2] at ih
    rw [e, adj, ih]
    have hd : opp (⟨x, x⟩ : S72) ⟨y, y⟩ = false := by
      unfold opp
      show decide (wrap64 (wrap64 (y.f0 - x.f0) * wrap64 (y.f0 - x.f0)) < 0) = false
      rw [w0 (i := y.f0 - x.f0) (by omega) (by omega)]
      have h1 : -20 ≤ y.f0 - x.f0 := by omega
      have h2 : y.f0 - x.f0 ≤ 20 := by omega
      generalize y.f0 - x.f0 = z at h1 h2
      have hz : 0 ≤ z * z ∧ z * z ≤ 400 := by
        by_cases hs : 0 ≤ z
        · exact ⟨Int.mul_nonneg hs hs, Int.mul_le_mul h2 h2 hs (by omega)⟩
        · have e : z * z = (-z) * (-z) := by rw [Int.neg_mul_neg]
          rw [e]
          exact ⟨Int.mul_nonneg (show 0 ≤ -z by omega) (show 0 ≤ -z by omega), Int.mul_le_mul (show -z ≤ 20 by omega) (show -z ≤ 20 by omega) (show 0 ≤ -z by omega) (show (0 : Int) ≤ 20 by omega)⟩
      rw [w0 (by omega) (by omega)]
      exact decide_eq_false (by omega)
    rw [hd]
    rfl
theorem CN_self (a : List S61) (h : PV a = true) : CN a a = 0 := by
  have h' : TG a a = true := by
    unfold TG
    rw [h]
    simp
  unfold CN
  rw [if_pos h']
  unfold PS
  rw [adj_self _ (exp_tone h)]
  rfl
theorem CN_slow (a b : List S61) (h : TG a b = true) : CN (a.foldl slowStep []) (b.foldl slowStep []) = CN a b := by
  obtain ⟨p0, s0⟩ := slow_all (TG_0 h)
  obtain ⟨p1, s1⟩ := slow_all (TG_1 h)
  have h' : TG (a.foldl slowStep []) (b.foldl slowStep []) = true := by
    unfold TG
    rw [p0, p1, s0.sum, s1.sum, TG_2 h]
    simp
  unfold CN
  rw [if_pos h, if_pos h']
  unfold PS
  rw [s0.exp, s1.exp]
theorem FnContrary : ∀ (l0 : List Int), l0.length ≤ maxLen → l0.length * 1 ≤ 140737488351232 → (∀ n ∈ l0, (Lit.int .u8 n).wf = true) → ∃ k, laws_FnContrary.f k l0 = some true := by
  intro l0 z1 z2 hw
  refine ⟨203, ?_⟩
  unfold laws_FnContrary.f
  by_cases h : (l0.length : Int) > 1048576
  · rw [if_pos h]
  · rw [if_neg h]
    obtain ⟨o, ho, hR⟩ := open_f l0 (bytes_of hw)
    obtain ⟨a, b, q, ha, hb, hq⟩ := disc_d o hR 0 (by omega) (by omega)
    have hd : spec_DrawDiscantContrary.f 203 l0 = some (a, b) := by
      unfold spec_DrawDiscantContrary.f
      rw [ho]
      simp only [Option.bind_some]
      rw [hq 203 (by omega)]
      rfl
    rw [hd]
    simp only [Option.bind_some]
    rw [cni_f a b 203 (by omega), Option.bind_some, cns_f a b (by omega) (by omega) 203 (by omega), Option.bind_some, if_pos rfl, laws_FnContrary.j0]
    by_cases hT : TG a b = true
    · have hnn : ¬ CN a b < 0 := by
        unfold CN
        rw [if_pos hT]
        omega
      have ea : PSl a = (a.foldl slowStep [], true) := by unfold PSl; rw [if_pos (TG_0 hT)]
      have eb : PSl b = (b.foldl slowStep [], true) := by unfold PSl; rw [if_pos (TG_1 hT)]
      rw [decide_eq_false hnn, if_neg (by decide), sli_f a 202 (by omega), Option.bind_some, sli_f b 202 (by omega), Option.bind_some, ea, eb]
      simp only [if_true]
      rw [cni_f b a 202 (by omega), Option.bind_some, CN_swap a b hT, if_pos rfl, cni_f a a 202 (by omega), Option.bind_some, CN_self a (TG_0 hT), if_pos rfl, cni_f _ _ 202 (by omega), Option.bind_some, CN_slow a b hT]
      simp
    · have e : CN a b = -1 := by
        unfold CN
        rw [if_neg hT]
      rw [e]
      rfl

end Go.Proofs.Ytgiobmceippanaa.PureFnContrary
