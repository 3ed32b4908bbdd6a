/- FnCross: for every list of at most 1048576 bytes, the law of DiscantCross and DiscantMove holds of what the reference draws from it, and the list reads as before (longer lists the statement lets pass). The table letterHeights is tied to the program's text. No condition beyond the statement's own. -/
import Derived.Test.YtgiobmceippanaaDoorGXx0
import Derived.Test.YtgiobmceippanaaDoorGXx3
import Derived.Test.YtgiobmceippanaaDoorGXx1
import Derived.Test.YtgiobmceippanaaDoorGXx2
import Derived.Test.YtgiobmceippanaaDoorGXx5
import Derived.Test.YtgiobmceippanaaDoorGXx6
import Derived.Laws.Bits64
namespace Go.Proofs.YtgiobmceippanaaDoor.PureFnCross
open Go.RowKit Go.Proofs.YtgiobmceippanaaDoor.GX Go.Proofs.YtgiobmceippanaaDoorW.PrintWords Go.Proofs.YtgiobmceippanaaDoorW.PrintLast Go.Proofs.YtgiobmceippanaaDoorW.PrintMore 
set_option linter.unusedVariables false
set_option linter.unusedSimpArgs false
theorem w1 {i : Nat} (h : i < 4611686018427387904) : wrap64 ((i : Int) + 1) = ((i + 1 : Nat) : Int) := by
  unfold wrap64
  omega
theorem w0 {i : Int} (h : -9223372036854775808 ≤ i) (h' : i ≤ 9223372036854775807) : wrap64 i = i := by
  unfold wrap64
  omega
theorem rd_at (xs : List Int) (i : Nat) (h : i < xs.length) : rd xs (i : Int) = xs[i] := by
  simp [rd, List.getD_eq_getElem?_getD, h]
/-- A tone of the gamut. -/
def tv (a : Int) (b : Bool) : Bool := decide (0 ≤ a) && (decide (a ≤ 20) && (!b || decide (Int.tmod a 7 = 2)))
theorem tv_spec (a : Int) (b : Bool) : spec_ToneValid.f a b = some (tv a b) := by
  unfold spec_ToneValid.f spec_l6In.f spec_l1Letter.f tv
  by_cases h0 : a ≥ 0
  · rw [if_pos h0, decide_eq_true (show 0 ≤ a from h0)]
    by_cases h1 : a ≤ 20
    · simp only [h1, decide_true, Option.bind_some, if_true, Bool.true_and]
      cases b
      · rfl
      · simp
        rfl
    · simp [h1]
  · rw [if_neg h0, decide_eq_false (show ¬ 0 ≤ a from h0)]
    rfl
theorem tv_impl (a : Int) (b : Bool) : impl_Tone_valid.f a b = some (tv a b) := by
  unfold impl_Tone_valid.f tv
  by_cases h0 : a ≥ 0
  · rw [if_pos h0, decide_eq_true (show 0 ≤ a from h0)]
    by_cases h1 : a ≤ 20
    · rw [if_pos h1, decide_eq_true h1]
      cases b
      · rfl
      · simp
        rfl
    · rw [if_neg h1, decide_eq_false h1]
      rfl
  · rw [if_neg h0, decide_eq_false (show ¬ 0 ≤ a from h0)]
    rfl
theorem in_spec (a b c : Int) : spec_l6In.f a b c = some (decide (b ≤ a) && decide (a ≤ c)) := by
  unfold spec_l6In.f
  by_cases h0 : a ≥ b
  · rw [if_pos h0, decide_eq_true (show b ≤ a from h0)]; rfl
  · rw [if_neg h0, decide_eq_false (show ¬ b ≤ a from h0)]; rfl
def vv (v : S56) : Bool := tv v.f0.f0 v.f0.f1 && (decide (1 ≤ v.f1) && decide (v.f1 ≤ 3))
theorem rdv_at (xs : List S56) (i : Nat) (h : i < xs.length) : rd_T56 xs (i : Int) = xs[i] := by
  simp [rd_T56, List.getD_eq_getElem?_getD, h]
def sumB (l : List S56) : Int := (l.map (·.f1)).sum
theorem sumB_cons (v : S56) (l : List S56) : sumB (v :: l) = v.f1 + sumB l := by simp [sumB]
theorem vv_bd {v : S56} (h : vv v = true) : 1 ≤ v.f1 ∧ v.f1 ≤ 3 := by
  unfold vv at h
  simp only [Bool.and_eq_true, decide_eq_true_eq] at h
  exact h.2
theorem sumB_bd (l : List S56) (h : l.all vv = true) : 0 ≤ sumB l ∧ sumB l ≤ 3 * l.length := by
  induction l with
  | nil => simp [sumB]
  | cons v l ih =>
    simp only [List.all_cons, Bool.and_eq_true] at h
    have h1 := vv_bd h.1
    have h2 := ih h.2
    rw [sumB_cons, List.length_cons]
    omega
def PV (l : List S56) : Bool := decide (l.length ≤ 12) && (l.all vv && decide (sumB l ≤ 24))
theorem PV_len {l : List S56} (h : PV l = true) : l.length ≤ 12 := by
  unfold PV at h
  simp only [Bool.and_eq_true, decide_eq_true_eq] at h
  exact h.1
theorem PV_all {l : List S56} (h : PV l = true) : l.all vv = true := by
  unfold PV at h
  simp only [Bool.and_eq_true, decide_eq_true_eq] at h
  exact h.2.1
theorem PV_sum {l : List S56} (h : PV l = true) : sumB l ≤ 24 := by
  unfold PV at h
  simp only [Bool.and_eq_true, decide_eq_true_eq] at h
  exact h.2.2
theorem beats_l0 (l : List S56) (hl : l.length ≤ 12) (hv : l.all vv = true) : ∀ (d i k : Nat) (a : Int), i + d = l.length → d < k → 0 ≤ a → a ≤ 3 * i → spec_l8Beats.l0 k l a (i : Int) = some (a + sumB (l.drop i)) := by
  intro d
  induction d with
  | zero =>
    intro i k a hi hk h0 h1
    obtain ⟨k, rfl⟩ : ∃ m, k = m + 1 := ⟨k - 1, by omega⟩
    simp only [spec_l8Beats.l0]
    rw [if_neg (by omega), List.drop_eq_nil_of_le (by omega)]
    simp [sumB]
  | succ d ih =>
    intro i k a hi hk h0 h1
    obtain ⟨k, rfl⟩ : ∃ m, k = m + 1 := ⟨k - 1, by omega⟩
    have hx : i < l.length := by omega
    have hb := vv_bd (List.all_eq_true.1 hv _ (List.getElem_mem hx))
    simp only [spec_l8Beats.l0]
    rw [if_pos (by omega), if_pos (by omega), rdv_at l i hx, w1 (by omega), w0 (by omega) (by omega), ih (i + 1) k _ (by omega) (by omega) (by omega) (by omega), List.drop_eq_getElem_cons hx, sumB_cons]
    congr 1
    omega
theorem beats_f (l : List S56) (hl : l.length ≤ 12) (hv : l.all vv = true) (k : Nat) (hk : 13 ≤ k) : spec_l8Beats.f k l = some (sumB l) := by
  unfold spec_l8Beats.f
  simpa using beats_l0 l hl hv l.length 0 k 0 (by omega) (by omega) (by omega) (by omega)
theorem pvs_l0 (l : List S56) (hb : l.length < 4611686018427387904) : ∀ (d i k : Nat), i + d = l.length → d + 14 < k → (l.take i).all vv = true → spec_PartValid.l0 k l (i : Int) = some (PV l) := by
  intro d
  induction d with
  | zero =>
    intro i k hi hk hv
    obtain ⟨k, rfl⟩ : ∃ m, k = m + 1 := ⟨k - 1, by omega⟩
    rw [List.take_of_length_le (by omega)] at hv
    simp only [spec_PartValid.l0]
    rw [if_neg (by omega)]
    unfold PV
    rw [hv]
    by_cases hl : l.length ≤ 12
    · rw [if_pos (by omega), beats_f l hl hv k (by omega), decide_eq_true hl]
      rfl
    · rw [if_neg (by omega), decide_eq_false hl]
      rfl
  | succ d ih =>
    intro i k hi hk hv
    obtain ⟨k, rfl⟩ : ∃ m, k = m + 1 := ⟨k - 1, by omega⟩
    have hx : i < l.length := by omega
    simp only [spec_PartValid.l0]
    rw [if_pos (by omega), if_pos (by omega), rdv_at l i hx, tv_spec, in_spec]
    simp only [Option.bind_some]
    by_cases hvi : vv l[i] = true
    · have hvi2 := hvi
      unfold vv at hvi2
      simp only [Bool.and_eq_true] at hvi2
      rw [if_pos hvi2.1, if_pos (by simpa using hvi2.2), w1 (by omega)]
      refine ih (i + 1) k (by omega) (by omega) ?_
      rw [List.take_succ_eq_append_getElem hx, List.all_append, hv]
      simp [hvi]
    · have hF : PV l = false := by
        have : l.all vv = false := by
          rw [Bool.eq_false_iff]
          intro h
          exact hvi (List.all_eq_true.1 h _ (List.getElem_mem hx))
        unfold PV
        rw [this]
        simp
      rw [hF]
      unfold vv at hvi
      by_cases h1 : tv l[i].f0.f0 l[i].f0.f1 = true
      · rw [if_pos h1]
        rw [h1, Bool.true_and] at hvi
        rw [if_neg hvi]
      · rw [if_neg h1]
theorem pvs_f (l : List S56) (hb : l.length ≤ 1048576) (k : Nat) (hk : l.length + 15 < k) : spec_PartValid.f k l = some (PV l) := by
  unfold spec_PartValid.f
  simpa using pvs_l0 l (by omega) l.length 0 k (by omega) (by omega) (by simp)
theorem pvi_l0 (l : List S56) (hl : l.length ≤ 12) : ∀ (d i k : Nat) (a : Int), i + d = l.length → d < k → 0 ≤ a → a ≤ 3 * i → impl_PartValid.l0 k a l (l.length : Int) (i : Int) = some ((l.drop i).all vv && decide (a + sumB (l.drop i) ≤ 24)) := by
  intro d
  induction d with
  | zero =>
    intro i k a hi hk h0 h1
    obtain ⟨k, rfl⟩ : ∃ m, k = m + 1 := ⟨k - 1, by omega⟩
    simp only [impl_PartValid.l0]
    rw [if_neg (by omega), List.drop_eq_nil_of_le (by omega)]
    simp [sumB]
  | succ d ih =>
    intro i k a hi hk h0 h1
    obtain ⟨k, rfl⟩ : ∃ m, k = m + 1 := ⟨k - 1, by omega⟩
    have hx : i < l.length := by omega
    simp only [impl_PartValid.l0]
    rw [if_pos (by omega), if_pos (by omega), if_pos (by omega), rdv_at l i hx, tv_impl, List.drop_eq_getElem_cons hx, sumB_cons, List.all_cons]
    simp only [Option.bind_some]
    by_cases ht : tv l[i].f0.f0 l[i].f0.f1 = true
    · rw [if_pos ht]
      by_cases h3 : l[i].f1 < 1
      · rw [if_pos h3]
        have : vv l[i] = false := by unfold vv; rw [decide_eq_false (show ¬ 1 ≤ l[i].f1 by omega)]; simp
        rw [this]
        rfl
      · rw [if_neg h3]
        by_cases h4 : l[i].f1 > 3
        · rw [if_pos h4]
          have : vv l[i] = false := by unfold vv; rw [decide_eq_false (show ¬ l[i].f1 ≤ 3 by omega)]; simp
          rw [this]
          rfl
        · have : vv l[i] = true := by unfold vv; rw [ht, decide_eq_true (show 1 ≤ l[i].f1 by omega), decide_eq_true (show l[i].f1 ≤ 3 by omega)]; rfl
          rw [if_neg h4, w1 (by omega), w0 (by omega) (by omega), ih (i + 1) k _ (by omega) (by omega) (by omega) (by omega), this, Bool.true_and, Int.add_assoc]
    · rw [if_neg ht]
      have : vv l[i] = false := by unfold vv; rw [Bool.eq_false_iff.mpr ht]; rfl
      rw [this]
      rfl
theorem pvi_f (l : List S56) (k : Nat) (hk : 13 ≤ k) : impl_PartValid.f k l = some (PV l) := by
  unfold impl_PartValid.f PV
  by_cases hl : l.length ≤ 12
  · rw [if_neg (by omega), decide_eq_true hl, Bool.true_and]
    simpa using pvi_l0 l hl l.length 0 k 0 (by omega) (by omega) (by omega) (by omega)
  · rw [if_pos (by omega), decide_eq_false hl]
    rfl

theorem expand_cons (v : S56) (l : List S56) : expand (v :: l) = List.replicate v.f1.toNat v.f0 ++ expand l := by simp [expand]
theorem expand_sum (l : List S56) (h : l.all vv = true) : ((expand l).length : Int) = sumB l := by
  induction l with
  | nil => rfl
  | cons v l ih =>
    simp only [List.all_cons, Bool.and_eq_true] at h
    have h1 := vv_bd h.1
    have h2 := ih h.2
    rw [expand_cons, sumB_cons, List.length_append, List.length_replicate]
    omega
theorem at_l0 (l : List S56) (hv : l.all vv = true) (hl : l.length ≤ 12) : ∀ (d i k : Nat) (b : Int), i + d = l.length → d ≤ k → 0 ≤ b → b < ((expand (l.drop i)).length : Int) → spec_l8At.l0 k l b (i : Int) = some (((expand (l.drop i)).getD b.toNat z49).f0, ((expand (l.drop i)).getD b.toNat z49).f1) := by
  intro d
  induction d with
  | zero =>
    intro i k b hi hk h0 h1
    rw [List.drop_eq_nil_of_le (by omega)] at h1
    simp [expand] at h1
    omega
  | succ d ih =>
    intro i k b hi hk h0 h1
    obtain ⟨k, rfl⟩ : ∃ m, k = m + 1 := ⟨k - 1, by omega⟩
    have hx : i < l.length := by omega
    have hb := vv_bd (List.all_eq_true.1 hv _ (List.getElem_mem hx))
    rw [List.drop_eq_getElem_cons hx, expand_cons] at h1 ⊢
    rw [List.length_append, List.length_replicate] at h1
    simp only [spec_l8At.l0]
    rw [if_pos (by omega), if_pos (by omega), rdv_at l i hx]
    by_cases hge : b ≥ l[i].f1
    · have hlen := expand_len (l.drop (i + 1)) (fun v hv' => (vv_bd (List.all_eq_true.1 hv v (List.mem_of_mem_drop hv'))).2)
      rw [List.length_drop] at hlen
      rw [if_pos hge, w1 (by omega), w0 (by omega) (by omega), ih (i + 1) k _ (by omega) (by omega) (by omega) (by omega)]
      rw [List.getD_eq_getElem?_getD, List.getD_eq_getElem?_getD, List.getElem?_append_right (by rw [List.length_replicate]; omega), List.length_replicate, show (b - l[i].f1).toNat = b.toNat - l[i].f1.toNat by omega]
    · rw [if_neg hge]
      rw [List.getD_eq_getElem?_getD, List.getElem?_append_left (by rw [List.length_replicate]; omega), List.getElem?_replicate, if_pos (by omega)]
      rfl
theorem at_f (l : List S56) (hv : l.all vv = true) (hl : l.length ≤ 12) (b : Int) (k : Nat) (hk : 12 ≤ k) (h0 : 0 ≤ b) (h1 : b < ((expand l).length : Int)) : spec_l8At.f k l b = some (((expand l).getD b.toNat z49).f0, ((expand l).getD b.toNat z49).f1) := by
  unfold spec_l8At.f
  simpa using at_l0 l hv hl l.length 0 k b (by omega) (by omega) h0 (by simpa using h1)
def PB (l : List S56) : Int := if PV l = true then sumB l else -1
theorem pbs_f (l : List S56) (hb : l.length ≤ 1048576) (k : Nat) (hk : l.length + 15 < k) : spec_PartBeats.f k l = some (PB l) := by
  unfold spec_PartBeats.f PB
  rw [pvs_f l hb k hk]
  simp only [Option.bind_some]
  by_cases h : PV l = true
  · rw [if_pos h, if_pos h, beats_f l (PV_len h) (PV_all h) k (by omega)]
    rfl
  · rw [if_neg h, if_neg h]
def TG (l0 l1 : List S56) : Bool := PV l0 && (PV l1 && decide (sumB l0 = sumB l1))
theorem TG_0 {l0 l1 : List S56} (h : TG l0 l1 = true) : PV l0 = true := by
  unfold TG at h
  simp only [Bool.and_eq_true] at h
  exact h.1
theorem TG_1 {l0 l1 : List S56} (h : TG l0 l1 = true) : PV l1 = true := by
  unfold TG at h
  simp only [Bool.and_eq_true] at h
  exact h.2.1
theorem TG_2 {l0 l1 : List S56} (h : TG l0 l1 = true) : sumB l0 = sumB l1 := by
  unfold TG at h
  simp only [Bool.and_eq_true, decide_eq_true_eq] at h
  exact h.2.2
def PS (l0 l1 : List S56) : List S51 := pairs (expand l0) (expand l1)
theorem so_f (l0 l1 : List S56) (k : Nat) (hk : 13 ≤ k) : impl_soundsOf.f k l0 l1 = some (if TG l0 l1 = true then (PS l0 l1, true) else ([], false)) := by
  unfold impl_soundsOf.f
  rw [pvi_f l0 k hk, pvi_f l1 k hk]
  simp only [Option.bind_some]
  congr 1
  by_cases h0 : PV l0 = true
  · by_cases h1 : PV l1 = true
    · have e0 := expand_sum l0 (PV_all h0)
      have e1 := expand_sum l1 (PV_all h1)
      by_cases h2 : sumB l0 = sumB l1
      · rw [if_pos ⟨h0, h1, by omega⟩, if_pos (by unfold TG; rw [h0, h1, decide_eq_true h2]; rfl)]
        rfl
      · rw [if_neg (fun z => h2 (by omega)), if_neg (by unfold TG; rw [h0, h1, decide_eq_false h2]; simp)]
    · rw [if_neg (fun z => h1 z.2.1), if_neg (fun z => h1 (TG_1 z))]
  · rw [if_neg (fun z => h0 z.1), if_neg (fun z => h0 (TG_0 z))]
theorem tg_f (l0 l1 : List S56) (hb0 : l0.length ≤ 1048576) (hb1 : l1.length ≤ 1048576) (k : Nat) (hk : l0.length + l1.length + 15 < k) : spec_DiscantTogether.f k l0 l1 = some (TG l0 l1) := by
  unfold spec_DiscantTogether.f
  rw [pbs_f l0 hb0 k (by omega), pbs_f l1 hb1 k (by omega)]
  simp only [Option.bind_some]
  unfold PB TG
  by_cases h0 : PV l0 = true
  · have b0 := (sumB_bd l0 (PV_all h0)).1
    rw [if_pos h0, if_pos (by omega), h0, Bool.true_and]
    by_cases h1 : PV l1 = true
    · rw [if_pos h1, h1, Bool.true_and]
      rfl
    · rw [if_neg h1, Bool.eq_false_iff.mpr h1, Bool.false_and]
      congr 1
      rw [beq_eq_false_iff_ne]
      omega
  · rw [if_neg h0, if_neg (by omega), Bool.eq_false_iff.mpr h0]
    rfl
theorem PS_len {l0 l1 : List S56} (h : TG l0 l1 = true) : ((PS l0 l1).length : Int) = sumB l0 := by
  have e0 := expand_sum l0 (PV_all (TG_0 h))
  have e1 := expand_sum l1 (PV_all (TG_1 h))
  have e2 := TG_2 h
  unfold PS pairs
  rw [List.length_zipWith]
  omega
theorem PS_bd {l0 l1 : List S56} (h : TG l0 l1 = true) : (PS l0 l1).length ≤ 24 := by
  have e0 := PS_len h
  have := PV_sum (TG_0 h)
  omega
theorem rdp_at (xs : List S51) (i : Nat) (h : i < xs.length) : rd_T51 xs (i : Int) = xs[i] := by
  simp [rd_T51, List.getD_eq_getElem?_getD, h]
theorem PS_at {l0 l1 : List S56} (h : TG l0 l1 = true) (b : Nat) (hb : b < (PS l0 l1).length) (k : Nat) (hk : 12 ≤ k) : spec_l8At.f k l0 (b : Int) = some ((PS l0 l1)[b].f0.f0, (PS l0 l1)[b].f0.f1) ∧ spec_l8At.f k l1 (b : Int) = some ((PS l0 l1)[b].f1.f0, (PS l0 l1)[b].f1.f1) := by
  have e0 := expand_sum l0 (PV_all (TG_0 h))
  have e1 := expand_sum l1 (PV_all (TG_1 h))
  have e2 := TG_2 h
  have e3 := PS_len h
  have h0 : b < (expand l0).length := by omega
  have h1 : b < (expand l1).length := by omega
  rw [at_f l0 (PV_all (TG_0 h)) (PV_len (TG_0 h)) b k hk (by omega) (by omega), at_f l1 (PV_all (TG_1 h)) (PV_len (TG_1 h)) b k hk (by omega) (by omega)]
  have g0 : (PS l0 l1)[b].f0 = (expand l0)[b] := by simp [PS, pairs]
  have g1 : (PS l0 l1)[b].f1 = (expand l1)[b] := by simp [PS, pairs]
  rw [g0, g1]
  simp [List.getD_eq_getElem?_getD, h0, h1]
theorem beats_tg {l0 l1 : List S56} (h : TG l0 l1 = true) (k : Nat) (hk : 13 ≤ k) : spec_l8Beats.f k l0 = some ((PS l0 l1).length : Int) := by
  rw [beats_f l0 (PV_len (TG_0 h)) (PV_all (TG_0 h)) k hk, PS_len h]
def crossed (p : S51) : Bool := decide (p.f0.f0 > p.f1.f0)
theorem cross_i (ps : List S51) (hn : ps.length ≤ 24) : ∀ (d i k : Nat) (a : Int), i + d = ps.length → d < k → 0 ≤ a → a ≤ i → impl_DiscantCross.l0 k a ps (ps.length : Int) (i : Int) = some (a + ((ps.drop i).countP crossed : Nat)) := by
  intro d
  induction d with
  | zero =>
    intro i k a hi hk h0 h1
    obtain ⟨k, rfl⟩ : ∃ m, k = m + 1 := ⟨k - 1, by omega⟩
    simp only [impl_DiscantCross.l0]
    rw [if_neg (by omega), List.drop_eq_nil_of_le (by omega)]
    simp
  | succ d ih =>
    intro i k a hi hk h0 h1
    obtain ⟨k, rfl⟩ : ∃ m, k = m + 1 := ⟨k - 1, by omega⟩
    have hx : i < ps.length := by omega
    simp only [impl_DiscantCross.l0]
    rw [if_pos (by omega), if_pos (by omega), if_pos (by omega), rdp_at ps i hx, List.drop_eq_getElem_cons hx, List.countP_cons, w1 (by omega)]
    by_cases c : ps[i].f0.f0 > ps[i].f1.f0
    · have e : crossed ps[i] = true := decide_eq_true c
      rw [if_pos c, w0 (by omega) (by omega), ih (i + 1) k _ (by omega) (by omega) (by omega) (by omega), if_pos e]
      congr 1
      omega
    · have e : ¬ crossed ps[i] = true := by unfold crossed; rw [decide_eq_false c]; simp
      rw [if_neg c, ih (i + 1) k _ (by omega) (by omega) (by omega) (by omega), if_neg e]
      rfl
theorem cross_s {l0 l1 : List S56} (h : TG l0 l1 = true) : ∀ (d i k : Nat) (a : Int), i + d = (PS l0 l1).length → d + 14 < k → 0 ≤ a → a ≤ i → spec_DiscantCross.l0 k l0 l1 a (i : Int) = some (a + (((PS l0 l1).drop i).countP crossed : Nat)) := by
  have hn := PS_bd h
  intro d
  induction d with
  | zero =>
    intro i k a hi hk h0 h1
    obtain ⟨k, rfl⟩ : ∃ m, k = m + 1 := ⟨k - 1, by omega⟩
    simp only [spec_DiscantCross.l0]
    rw [beats_tg h k (by omega)]
    simp only [Option.bind_some]
    rw [if_neg (by omega), List.drop_eq_nil_of_le (by omega)]
    simp
  | succ d ih =>
    intro i k a hi hk h0 h1
    obtain ⟨k, rfl⟩ : ∃ m, k = m + 1 := ⟨k - 1, by omega⟩
    have hx : i < (PS l0 l1).length := by omega
    obtain ⟨a0, a1⟩ := PS_at h i hx k (by omega)
    simp only [spec_DiscantCross.l0]
    rw [beats_tg h k (by omega)]
    simp only [Option.bind_some]
    rw [if_pos (by omega), a0, a1]
    simp only [Option.bind_some]
    rw [List.drop_eq_getElem_cons hx, List.countP_cons, w1 (by omega)]
    by_cases c : (PS l0 l1)[i].f0.f0 > (PS l0 l1)[i].f1.f0
    · have e : crossed (PS l0 l1)[i] = true := decide_eq_true c
      rw [if_pos c, w0 (by omega) (by omega), ih (i + 1) k _ (by omega) (by omega) (by omega) (by omega), if_pos e]
      congr 1
      omega
    · have e : ¬ crossed (PS l0 l1)[i] = true := by unfold crossed; rw [decide_eq_false c]; simp
      rw [if_neg c, ih (i + 1) k _ (by omega) (by omega) (by omega) (by omega), if_neg e]
      rfl
def CR (l0 l1 : List S56) : Int := if TG l0 l1 = true then (((PS l0 l1).countP crossed : Nat) : Int) else -1
theorem cri_f (l0 l1 : List S56) (k : Nat) (hk : 40 ≤ k) : impl_DiscantCross.f k l0 l1 = some (CR l0 l1) := by
  unfold impl_DiscantCross.f CR
  rw [so_f l0 l1 k (by omega)]
  simp only [Option.bind_some]
  by_cases h : TG l0 l1 = true
  · rw [if_pos h, if_pos h, if_pos rfl]
    simpa using cross_i (PS l0 l1) (PS_bd h) (PS l0 l1).length 0 k 0 (by omega) (by have := PS_bd h; omega) (by omega) (by omega)
  · rw [if_neg h, if_neg h]
    rfl
theorem crs_f (l0 l1 : List S56) (hb0 : l0.length ≤ 1048576) (hb1 : l1.length ≤ 1048576) (k : Nat) (hk : l0.length + l1.length + 40 < k) : spec_DiscantCross.f k l0 l1 = some (CR l0 l1) := by
  unfold spec_DiscantCross.f CR
  rw [tg_f l0 l1 hb0 hb1 k (by omega)]
  simp only [Option.bind_some]
  by_cases h : TG l0 l1 = true
  · rw [if_pos h, if_pos h]
    simpa using cross_s h (PS l0 l1).length 0 k 0 (by omega) (by have := PS_bd h; omega) (by omega) (by omega)
  · rw [if_neg h, if_neg h]
def tvv (t : S49) : Bool := tv t.f0 t.f1
theorem rdt_at (xs : List S49) (i : Nat) (h : i < xs.length) : rd_T49 xs (i : Int) = xs[i] := by
  simp [rd_T49, List.getD_eq_getElem?_getD, h]
def MV (l : List S49) : Bool := decide (l.length ≤ 24) && l.all tvv
theorem mvi_l0 (l : List S49) (hb : l.length < 4611686018427387904) : ∀ (d i k : Nat), i + d = l.length → d < k → impl_MelodyValid.l0 k l (l.length : Int) (i : Int) = some ((l.drop i).all tvv) := by
  intro d
  induction d with
  | zero =>
    intro i k hi hk
    obtain ⟨k, rfl⟩ : ∃ m, k = m + 1 := ⟨k - 1, by omega⟩
    simp only [impl_MelodyValid.l0]
    rw [if_neg (by omega), List.drop_eq_nil_of_le (by omega)]
    rfl
  | succ d ih =>
    intro i k hi hk
    obtain ⟨k, rfl⟩ : ∃ m, k = m + 1 := ⟨k - 1, by omega⟩
    have hx : i < l.length := by omega
    simp only [impl_MelodyValid.l0]
    rw [if_pos (by omega), if_pos (by omega), if_pos (by omega), rdt_at l i hx, tv_impl, List.drop_eq_getElem_cons hx, List.all_cons]
    simp only [Option.bind_some]
    by_cases ht : tv l[i].f0 l[i].f1 = true
    · rw [if_pos ht, w1 (by omega), ih (i + 1) k (by omega) (by omega), show tvv l[i] = true from ht, Bool.true_and]
    · rw [if_neg ht, show tvv l[i] = false from Bool.eq_false_iff.mpr ht, Bool.false_and]
theorem mvi_f (l : List S49) (k : Nat) (hk : 25 ≤ k) : impl_MelodyValid.f k l = some (MV l) := by
  unfold impl_MelodyValid.f MV
  by_cases h : l.length ≤ 24
  · rw [if_neg (by omega), decide_eq_true h, Bool.true_and]
    simpa using mvi_l0 l (by omega) l.length 0 k (by omega) (by omega)
  · rw [if_pos (by omega), decide_eq_false h, Bool.false_and]

def mkv (t : S49) (b : Int) : S56 := ⟨⟨t.f0, t.f1⟩, b⟩
theorem tv_ok (a : Int) (b : Bool) : tv a b = toneOk a b := by
  unfold tv toneOk
  by_cases h : 0 ≤ a
  · rw [Int.tmod_eq_emod_of_nonneg h]
  · simp [h]
theorem MV_ok {l : List S49} (h : MV l = true) : ∀ t ∈ l, toneOk t.f0 t.f1 = true := by
  unfold MV at h
  simp only [Bool.and_eq_true, decide_eq_true_eq] at h
  intro t ht
  rw [← tv_ok]
  exact List.all_eq_true.1 h.2 t ht
def SM (l : List S49) (a : Int) : List S49 × Bool := if MV l = true then mvMove a l else ([], false)
theorem MV_len {l : List S49} (h : MV l = true) : l.length ≤ 24 := by
  unfold MV at h
  simp only [Bool.and_eq_true, decide_eq_true_eq] at h
  exact h.1
theorem mmi_f (l : List S49) (a : Int) (k : Nat) (hk : 25 ≤ k) : impl_MelodyMove.f k l a = some (SM l a) := by
  unfold impl_MelodyMove.f SM
  rw [mvi_f l k hk, Option.bind_some]
theorem mvd_ok {t x : S49} {a s : Int} (h : mvd t a s = some x) : toneOk x.f0 x.f1 = true ∧ x.f0 = t.f0 + a ∧ htI x.f0 x.f1 - htI t.f0 t.f1 = s := by
  unfold mvd mvOk at h
  split at h
  · rename_i h1
    rw [← Option.some.inj h]
    simp only [Bool.and_eq_true, decide_eq_true_eq] at h1
    exact ⟨h1.1, rfl, h1.2⟩
  · split at h
    · rename_i h1
      rw [← Option.some.inj h]
      simp only [Bool.and_eq_true, decide_eq_true_eq] at h1
      exact ⟨h1.1, rfl, h1.2⟩
    · exact absurd h (by simp)
theorem mvAll_at (a s : Int) : ∀ (l xs : List S49), mvAll a s l = some xs → ∀ (i : Nat) (h : i < l.length) (h' : i < xs.length), mvd l[i] a s = some xs[i]
  | [], xs, _, i, h, _ => by simp at h
  | t :: ts, xs, hx, i, h, h' => by
    simp only [mvAll] at hx
    obtain ⟨y, h1, hx⟩ := Option.bind_eq_some_iff.mp hx
    obtain ⟨ys, h2, hx⟩ := Option.bind_eq_some_iff.mp hx
    obtain rfl := Option.some.inj hx
    cases i with
    | zero => exact h1
    | succ i => exact mvAll_at a s ts ys h2 i (by simpa using h) (by simpa using h')
/-- A moved melody: as long as the melody, each tone moved by the same steps and semitones. -/
theorem mvMove_ok {a : Int} {l xs : List S49} (h : mvMove a l = (xs, true)) : xs.length = l.length ∧ ∃ s, ∀ (i : Nat) (h : i < l.length) (h' : i < xs.length), toneOk xs[i].f0 xs[i].f1 = true ∧ xs[i].f0 = l[i].f0 + a ∧ htI xs[i].f0 xs[i].f1 - htI l[i].f0 l[i].f1 = s := by
  have key : ∀ s, mvAll a s l = some xs → xs.length = l.length ∧ ∃ s, ∀ (i : Nat) (h : i < l.length) (h' : i < xs.length), toneOk xs[i].f0 xs[i].f1 = true ∧ xs[i].f0 = l[i].f0 + a ∧ htI xs[i].f0 xs[i].f1 - htI l[i].f0 l[i].f1 = s :=
    fun s hs => ⟨mvAll_len a s l xs hs, s, fun i h1 h2 => mvd_ok (mvAll_at a s l xs hs i h1 h2)⟩
  cases l with
  | nil =>
    have := (Prod.mk.inj (show (([] : List S49), true) = (xs, true) from h)).1
    subst this
    exact ⟨rfl, 0, fun i h1 _ => by simp at h1⟩
  | cons t ts =>
    unfold mvMove at h
    dsimp only at h
    split at h
    · split at h
      · rename_i ys hy
        have := (Prod.mk.inj h).1
        subst this
        unfold mvTry at hy
        split at hy
        · exact key _ hy
        · exact absurd hy (by simp)
      · split at h
        · rename_i ys hy
          have := (Prod.mk.inj h).1
          subst this
          unfold mvTry at hy
          split at hy
          · exact key _ hy
          · exact absurd hy (by simp)
        · exact absurd (Prod.mk.inj h).2 (by decide)
    · exact absurd (Prod.mk.inj h).2 (by decide)
def tones (l : List S56) : List S49 := l.map (·.f0)
def beatsOf (l : List S56) : List Int := l.map (·.f1)
def DMV (l : List S56) (a : Int) : List S56 × Bool := if PV l = true then (if (mvMove a (tones l)).2 = true then (List.zipWith mkv (mvMove a (tones l)).1 (beatsOf l), true) else ([], false)) else ([], false)
theorem tones_MV {l : List S56} (h : PV l = true) : MV (tones l) = true := by
  have h1 := PV_len h
  have h2 := PV_all h
  unfold MV tones
  rw [decide_eq_true (by simp; omega), Bool.true_and, List.all_map]
  rw [List.all_eq_true] at h2 ⊢
  intro v hv
  have := h2 v hv
  unfold vv at this
  rw [Bool.and_eq_true] at this
  exact this.1
theorem zip_beats (b : List Int) : ∀ (xs : List S49), xs.length = b.length → beatsOf (List.zipWith mkv xs b) = b := by
  induction b with
  | nil => intro xs h; cases xs with
    | nil => rfl
    | cons x xs => simp at h
  | cons y b ih => intro xs h; cases xs with
    | nil => simp at h
    | cons x xs =>
      have := ih xs (by simpa using h)
      unfold beatsOf at this ⊢
      rw [List.zipWith_cons_cons, List.map_cons, this]
      rfl
theorem zip_tones (xs : List S49) : ∀ (b : List Int), xs.length = b.length → tones (List.zipWith mkv xs b) = xs := by
  induction xs with
  | nil => intro b h; rfl
  | cons x xs ih => intro b h; cases b with
    | nil => simp at h
    | cons y b =>
      have := ih b (by simpa using h)
      unfold tones at this ⊢
      rw [List.zipWith_cons_cons, List.map_cons, this]
      rfl
theorem zip_PV {l : List S56} (h : PV l = true) {xs : List S49} (hn : xs.length = l.length) (hx : ∀ t ∈ xs, tv t.f0 t.f1 = true) : PV (List.zipWith mkv xs (beatsOf l)) = true := by
  have hlen : (beatsOf l).length = l.length := by simp [beatsOf]
  have hb := zip_beats (beatsOf l) xs (by omega)
  have ht := zip_tones xs (beatsOf l) (by omega)
  have hz : (List.zipWith mkv xs (beatsOf l)).length = l.length := by rw [List.length_zipWith]; omega
  have h1 := PV_len h
  have h2 := PV_all h
  have h3 := PV_sum h
  have hs : sumB (List.zipWith mkv xs (beatsOf l)) = sumB l := by
    unfold sumB
    unfold beatsOf at hb
    rw [beatsOf, hb]
  unfold PV
  rw [hz, hs, decide_eq_true h1, decide_eq_true h3, Bool.and_true, Bool.true_and, List.all_eq_true]
  intro v hv
  unfold vv
  rw [Bool.and_eq_true]
  constructor
  · refine hx v.f0 ?_
    rw [← ht]
    exact List.mem_map_of_mem hv
  · have hm : v.f1 ∈ beatsOf l := by
      rw [← hb]
      exact List.mem_map_of_mem hv
    obtain ⟨u, hu, e⟩ := List.mem_map.1 hm
    have := List.all_eq_true.1 h2 u hu
    unfold vv at this
    rw [Bool.and_eq_true, e] at this
    exact this.2
theorem moved_tones {a : Int} {l xs : List S49} (h : mvMove a l = (xs, true)) : ∀ t ∈ xs, tv t.f0 t.f1 = true := by
  obtain ⟨hn, s, hs⟩ := mvMove_ok h
  intro t ht
  obtain ⟨i, hi, e⟩ := List.mem_iff_getElem.1 ht
  rw [tv_ok, ← e]
  exact (hs i (by omega) hi).1
theorem moved_MV {a : Int} {l xs : List S49} (hl : l.length ≤ 24) (h : mvMove a l = (xs, true)) : MV xs = true := by
  have hn := (mvMove_ok h).1
  unfold MV
  rw [decide_eq_true (by omega), Bool.true_and, List.all_eq_true]
  exact moved_tones h
theorem dmi_l0 (l : List S56) (a : Int) (hl : l.length ≤ 12) : ∀ (d i k : Nat) (acc : List S49), i + d = l.length → acc.length ≤ i → d < k →
    impl_DiscantMove.l0 k l a acc l (l.length : Int) (i : Int) = (impl_MelodyMove.f (k - d - 1) (acc ++ tones (l.drop i)) a).bind fun bt => if bt.2 = true then impl_DiscantMove.l1 (k - d - 1) bt.1 [] l (l.length : Int) 0 else some ([], false) := by
  intro d
  induction d with
  | zero =>
    intro i k acc hi ha hk
    obtain ⟨k, rfl⟩ : ∃ m, k = m + 1 := ⟨k - 1, by omega⟩
    simp only [impl_DiscantMove.l0]
    rw [if_neg (by omega), List.drop_eq_nil_of_le (by omega)]
    simp [tones]
  | succ d ih =>
    intro i k acc hi ha hk
    obtain ⟨k, rfl⟩ : ∃ m, k = m + 1 := ⟨k - 1, by omega⟩
    have hx : i < l.length := by omega
    simp only [impl_DiscantMove.l0]
    rw [if_pos (by omega), if_pos (by omega), if_pos (by omega), if_pos (by omega), rdv_at l i hx, w1 (by omega), ih (i + 1) k _ (by omega) (by simp; omega) (by omega), List.drop_eq_getElem_cons hx]
    have e : acc ++ [(⟨l[i].f0.f0, l[i].f0.f1⟩ : S49)] ++ tones (l.drop (i + 1)) = acc ++ tones (l[i] :: l.drop (i + 1)) := by
      rw [List.append_assoc]
      rfl
    rw [e, show k + 1 - (d + 1) - 1 = k - d - 1 by omega]
theorem dmi_l1 (xs : List S49) (l : List S56) (hl : l.length ≤ 12) (hn : xs.length = l.length) : ∀ (d i k : Nat) (acc : List S56), i + d = l.length → acc.length ≤ i → d < k →
    impl_DiscantMove.l1 k xs acc l (l.length : Int) (i : Int) = some (acc ++ List.zipWith mkv (xs.drop i) (beatsOf (l.drop i)), true) := by
  intro d
  induction d with
  | zero =>
    intro i k acc hi ha hk
    obtain ⟨k, rfl⟩ : ∃ m, k = m + 1 := ⟨k - 1, by omega⟩
    simp only [impl_DiscantMove.l1]
    rw [if_neg (by omega), List.drop_eq_nil_of_le (by omega), List.zipWith_nil_left, List.append_nil]
  | succ d ih =>
    intro i k acc hi ha hk
    obtain ⟨k, rfl⟩ : ∃ m, k = m + 1 := ⟨k - 1, by omega⟩
    have hx : i < l.length := by omega
    have hy : i < xs.length := by omega
    simp only [impl_DiscantMove.l1]
    rw [if_pos (by omega), if_pos (by omega), if_pos (by omega), if_pos (by omega), if_pos (by omega), rdv_at l i hx, rdt_at xs i hy, w1 (by omega), ih (i + 1) k _ (by omega) (by simp; omega) (by omega), List.drop_eq_getElem_cons hx, List.drop_eq_getElem_cons hy]
    rw [List.append_assoc]
    rfl
theorem dmi_f (l : List S56) (a : Int) (k : Nat) (hk : 60 ≤ k) : impl_DiscantMove.f k l a = some (DMV l a) := by
  unfold impl_DiscantMove.f DMV
  rw [pvi_f l k (by omega), Option.bind_some]
  by_cases h : PV l = true
  · have hl := PV_len h
    have h0 := dmi_l0 l a hl l.length 0 k [] (by omega) (by simp) (by omega)
    rw [if_pos h, if_pos h]
    rw [show (([] : List S49) ++ tones (l.drop 0)) = tones l by simp] at h0
    rw [show ((0 : Nat) : Int) = 0 from rfl] at h0
    rw [h0, mmi_f (tones l) a _ (by omega), Option.bind_some]
    unfold SM
    rw [if_pos (tones_MV h)]
    obtain ⟨xs, b, hm⟩ : ∃ xs b, mvMove a (tones l) = (xs, b) := ⟨_, _, rfl⟩
    rw [hm]
    dsimp only
    cases b with
    | false => rw [if_neg (by decide), if_neg (by decide)]
    | true =>
      have hn : xs.length = l.length := by rw [(mvMove_ok hm).1]; simp [tones]
      rw [if_pos rfl, if_pos rfl]
      simpa using dmi_l1 xs l hl hn l.length 0 (k - l.length - 1) [] (by omega) (by simp) (by omega)
  · rw [if_neg h, if_neg h]
def swp (p : S51) : S51 := ⟨p.f1, p.f0⟩
theorem pairs_swap (xs : List S49) : ∀ ys : List S49, pairs ys xs = (pairs xs ys).map swp := by
  induction xs with
  | nil => intro ys; cases ys <;> rfl
  | cons x xs ih =>
    intro ys
    cases ys with
    | nil => rfl
    | cons y ys =>
      have := ih ys
      unfold pairs at this ⊢
      rw [List.zipWith_cons_cons, List.zipWith_cons_cons, this]
      rfl
theorem TG_swap {a b : List S56} (h : TG a b = true) : TG b a = true := by
  unfold TG
  rw [TG_0 h, TG_1 h, TG_2 h]
  simp
theorem TG_refl {a : List S56} (h : PV a = true) : TG a a = true := by
  unfold TG
  rw [h]
  simp
theorem cross_both : ∀ ps : List S51, ps.countP crossed + (ps.map swp).countP crossed ≤ ps.length
  | [] => by simp
  | p :: ps => by
    have ih := cross_both ps
    rw [List.map_cons, List.countP_cons, List.countP_cons, List.length_cons]
    by_cases c : p.f0.f0 > p.f1.f0
    · have e1 : crossed p = true := decide_eq_true c
      have e2 : ¬ crossed (swp p) = true := by
        unfold crossed swp
        rw [decide_eq_false (show ¬ p.f1.f0 > p.f0.f0 by omega)]
        decide
      rw [if_pos e1, if_neg e2]
      omega
    · have e1 : ¬ crossed p = true := by
        unfold crossed
        rw [decide_eq_false c]
        decide
      rw [if_neg e1]
      split <;> omega
theorem CR_both {a b : List S56} (h : TG a b = true) : CR a b + CR b a ≤ sumB a := by
  have h1 := cross_both (PS a b)
  have h2 := PS_len h
  unfold CR
  rw [if_pos h, if_pos (TG_swap h)]
  have e : PS b a = (PS a b).map swp := by unfold PS; rw [pairs_swap]
  rw [e]
  omega
theorem cross_self : ∀ xs : List S49, (pairs xs xs).countP crossed = 0
  | [] => rfl
  | x :: xs => by
    have e : pairs (x :: xs) (x :: xs) = ⟨x, x⟩ :: pairs xs xs := rfl
    rw [e, List.countP_cons, cross_self xs, if_neg (by unfold crossed; simp)]
theorem CR_self {a : List S56} (h : PV a = true) : CR a a = 0 := by
  unfold CR PS
  rw [if_pos (TG_refl h), cross_self]
  rfl
theorem cross_up (xs : List S49) : ∀ ys zs : List S49, ys.map (·.f0) = (zs.map (·.f0)).map (· + 7) → (pairs xs ys).countP crossed ≤ (pairs xs zs).countP crossed := by
  induction xs with
  | nil => intro ys zs _; simp [pairs]
  | cons x xs ih =>
    intro ys zs h
    cases ys with
    | nil => simp [pairs]
    | cons y ys =>
      cases zs with
      | nil => simp at h
      | cons z zs =>
        simp only [List.map_cons, List.cons.injEq] at h
        have := ih ys zs h.2
        have e1 : pairs (x :: xs) (y :: ys) = ⟨x, y⟩ :: pairs xs ys := rfl
        have e2 : pairs (x :: xs) (z :: zs) = ⟨x, z⟩ :: pairs xs zs := rfl
        rw [e1, e2, List.countP_cons, List.countP_cons]
        by_cases c : x.f0 > y.f0
        · have q1 : crossed (⟨x, y⟩ : S51) = true := decide_eq_true c
          have q2 : crossed (⟨x, z⟩ : S51) = true := decide_eq_true (show x.f0 > z.f0 by omega)
          rw [if_pos q1, if_pos q2]
          omega
        · have q1 : ¬ crossed (⟨x, y⟩ : S51) = true := by
            unfold crossed
            rw [decide_eq_false c]
            decide
          rw [if_neg q1]
          omega
theorem exp_steps (a : Int) : ∀ (l : List S56) (xs : List S49), xs.map (·.f0) = (tones l).map (fun t => t.f0 + a) → (expand (List.zipWith mkv xs (beatsOf l))).map (·.f0) = ((expand l).map (·.f0)).map (· + a)
  | [], xs, h => by
    have : xs = [] := by simpa [tones] using h
    subst this
    rfl
  | v :: l, [], h => by simp [tones] at h
  | v :: l, x :: xs, h => by
    have h2 : x.f0 = v.f0.f0 + a ∧ xs.map (·.f0) = (tones l).map (fun t => t.f0 + a) := by simpa [tones] using h
    have ih := exp_steps a l xs h2.2
    have e : List.zipWith mkv (x :: xs) (beatsOf (v :: l)) = mkv x v.f1 :: List.zipWith mkv xs (beatsOf l) := rfl
    rw [e, expand_cons, expand_cons, List.map_append, List.map_append, List.map_append, ih]
    congr 1
    rw [List.map_replicate, List.map_replicate, List.map_replicate]
    show List.replicate v.f1.toNat x.f0 = _
    rw [h2.1]
theorem moved_steps {a : Int} {l xs : List S49} (h : mvMove a l = (xs, true)) : xs.map (·.f0) = l.map (fun t => t.f0 + a) := by
  obtain ⟨hn, s, hs⟩ := mvMove_ok h
  refine List.ext_getElem (by simp [hn]) (fun i h1 h2 => ?_)
  rw [List.getElem_map, List.getElem_map]
  exact (hs i (by simpa using h2) (by simpa using h1)).2.1
/-- A moved part: valid, with the same beats. -/
theorem DMV_ok {l up : List S56} {a : Int} (h : DMV l a = (up, true)) : PV l = true ∧ PV up = true ∧ sumB up = sumB l ∧ beatsOf up = beatsOf l ∧ ∃ xs, mvMove a (tones l) = (xs, true) ∧ xs.length = l.length ∧ up = List.zipWith mkv xs (beatsOf l) := by
  unfold DMV at h
  split at h
  · rename_i hP
    split at h
    · rename_i hM
      obtain ⟨xs, b, hm⟩ : ∃ xs b, mvMove a (tones l) = (xs, b) := ⟨_, _, rfl⟩
      rw [hm] at hM h
      have hb : b = true := hM
      subst hb
      have hn : xs.length = l.length := by rw [(mvMove_ok hm).1]; simp [tones]
      have hz := zip_beats (beatsOf l) xs (by simp [beatsOf, hn])
      have hu := (Prod.mk.inj h).1
      refine ⟨hP, ?_, ?_, ?_, xs, hm, hn, hu.symm⟩
      · rw [← hu]
        exact zip_PV hP hn (moved_tones hm)
      · rw [← hu]
        unfold sumB
        have : (List.zipWith mkv xs (beatsOf l)).map (·.f1) = l.map (·.f1) := hz
        rw [this]
      · rw [← hu]
        exact hz
    · exact absurd (Prod.mk.inj h).2 (by decide)
  · exact absurd (Prod.mk.inj h).2 (by decide)
theorem CR_up {a b up : List S56} (h : TG a b = true) (hd : DMV b 7 = (up, true)) : CR a up ≤ CR a b := by
  obtain ⟨h1, h2, h3, h4, xs, h5, h6, h7⟩ := DMV_ok hd
  have hT : TG a up = true := by
    unfold TG
    rw [TG_0 h, h2, h3, TG_2 h]
    simp
  unfold CR
  rw [if_pos h, if_pos hT]
  have := cross_up (expand a) (expand up) (expand b) (by rw [h7]; exact exp_steps 7 b xs (moved_steps h5))
  unfold PS
  omega
theorem pbi_f (l : List S56) (k : Nat) (hk : 13 ≤ k) : impl_PartBeats.f k l = some (PB l) := by
  unfold impl_PartBeats.f PB
  rw [pvi_f l k hk]
  simp only [Option.bind_some]
  by_cases h : PV l = true
  · rw [if_pos h, if_pos h, expand_sum l (PV_all h)]
  · rw [if_neg h, if_neg h]
theorem xor_nn (a b : Int) (ha : 0 ≤ a) (ha' : a < 4611686018427387904) (hb : 0 ≤ b) (hb' : b < 4611686018427387904) : 0 ≤ Go.bits .xor .i64 a b := by
  obtain ⟨x, rfl⟩ := Int.eq_ofNat_of_zero_le ha
  obtain ⟨y, rfl⟩ := Int.eq_ofNat_of_zero_le hb
  have hx : x ^^^ y < 2 ^ 62 := Nat.xor_lt_two_pow (by omega) (by omega)
  have h1 : (BitVec.ofInt 64 (x : Int)).toNat = x := by
    rw [BitVec.ofInt_natCast, BitVec.toNat_ofNat]; exact Nat.mod_eq_of_lt (by omega)
  have h2 : (BitVec.ofInt 64 (y : Int)).toNat = y := by
    rw [BitVec.ofInt_natCast, BitVec.toNat_ofNat]; exact Nat.mod_eq_of_lt (by omega)
  have e : Go.bits .xor .i64 (x : Int) (y : Int) = IntKind.i64.wrap (((x ^^^ y : Nat)) : Int) := by
    show IntKind.i64.wrap ((BitVec.ofInt 64 (x : Int) ^^^ BitVec.ofInt 64 (y : Int)).toNat : Int) = _
    rw [BitVec.toNat_xor, h1, h2]
  rw [e, IntWalk.i64_in _ (by omega)]
  omega
/-- A list of bytes. -/
def Bytes (l : List Int) : Prop := ∀ n ∈ l, 0 ≤ n ∧ n ≤ 255
theorem rd_byte {l : List Int} (h : Bytes l) (i : Int) (h0 : 0 ≤ i) (h1 : i < (l.length : Int)) : 0 ≤ rd l i ∧ rd l i ≤ 255 := by
  obtain ⟨n, rfl⟩ := Int.eq_ofNat_of_zero_le h0
  have hn : n < l.length := by omega
  rw [rd_at l n hn]
  exact h _ (List.getElem_mem hn)
theorem tm_bd (a n : Int) (ha : 0 ≤ a) (hn : 0 < n) : 0 ≤ Int.tmod a n ∧ Int.tmod a n < n := by
  rw [Int.tmod_eq_emod_of_nonneg ha]
  exact ⟨Int.emod_nonneg _ (by omega), Int.emod_lt_of_pos _ hn⟩
theorem td_bd (a n : Int) (ha : 0 ≤ a) (hn : 0 < n) : 0 ≤ Int.tdiv a n ∧ Int.tdiv a n ≤ a := by
  rw [Int.tdiv_eq_ediv_of_nonneg ha]
  exact ⟨Int.ediv_nonneg ha (by omega), Int.ediv_le_self _ ha⟩
theorem pick_some (l : List Int) (hl : Bytes l) (hn : l.length ≤ 2000) (p n : Int) (hp : 0 ≤ p) (hp' : p ≤ 1000000) (h1 : 1 ≤ n) (h2 : n ≤ 1000000) :
    ∃ v, 0 ≤ v ∧ v < n ∧ ∀ k, spec_l6Rd_pick.f (k + 1) l p n = some (v, p + 1) := by
  unfold spec_l6Rd_pick.f
  simp only [spec_l6Rd_pick.j0]
  rw [if_neg (show ¬ n < 1 by omega), w0 (i := p + 1) (by omega) (by omega), show p + 1 - 1 = p by omega, w0 (i := p) (by omega) (by omega)]
  by_cases hl0 : l.length = 0
  · refine ⟨0, by omega, by omega, fun k => ?_⟩
    rw [if_pos (show ((l.length : Int) == 0) = true by rw [hl0]; rfl)]
  · rw [if_neg (show ¬ (((l.length : Int) == 0) = true) from fun h => hl0 (by have := beq_iff_eq.1 h; omega))]
    have hlp : (0 : Int) < (l.length : Int) := by omega
    by_cases hpl : p < (l.length : Int)
    · obtain ⟨b0, b1⟩ := rd_byte hl p hp hpl
      rw [if_pos hpl, if_pos hp, if_neg (show ¬ n = 0 by omega), w0 (i := rd l p) (by omega) (by omega)]
      obtain ⟨t0, t1⟩ := tm_bd (rd l p) n b0 (by omega)
      exact ⟨_, t0, t1, fun _ => rfl⟩
    · rw [if_neg hpl, if_neg (show ¬ (l.length : Int) = 0 by omega), w0 (i := p * 7) (by omega) (by omega), w0 (i := p * 7 + 3) (by omega) (by omega)]
      obtain ⟨i0, i1⟩ := tm_bd p (l.length : Int) hp hlp
      obtain ⟨j0, j1⟩ := tm_bd (p * 7 + 3) (l.length : Int) (by omega) hlp
      obtain ⟨q0, q1⟩ := td_bd p (l.length : Int) hp hlp
      rw [if_pos i0, if_pos i1, if_pos j0, if_pos j1, if_neg (show ¬ n = 0 by omega)]
      obtain ⟨a0, a1⟩ := rd_byte hl _ i0 i1
      obtain ⟨b0, b1⟩ := rd_byte hl _ j0 j1
      generalize rd l (Int.tmod p (l.length : Int)) = a at a0 a1 ⊢
      generalize rd l (Int.tmod (p * 7 + 3) (l.length : Int)) = b at b0 b1 ⊢
      generalize Int.tdiv p (l.length : Int) = q at q0 q1 ⊢
      simp (disch := omega) only [w0]
      have x0 : 0 ≤ a * 131 + b * 1117 + p * 29 + q * 53 := by omega
      obtain ⟨d0, d1⟩ := td_bd (a * 131 + b * 1117 + p * 29 + q * 53) 64 x0 (by omega)
      rw [w0 (i := Int.tdiv (a * 131 + b * 1117 + p * 29 + q * 53) 64) (by omega) (by omega)]
      obtain ⟨t0, t1⟩ := tm_bd (Go.bits .xor .i64 (a * 131 + b * 1117 + p * 29 + q * 53) (Int.tdiv (a * 131 + b * 1117 + p * 29 + q * 53) 64)) n (xor_nn _ _ x0 (by omega) d0 (by omega)) (by omega)
      exact ⟨_, t0, t1, fun _ => rfl⟩
/-- What a reader's pick answers. -/
def pk (l : List Int) (p n : Int) : Int := ((spec_l6Rd_pick.f 1 l p n).getD (0, 0)).1
structure Rdr (l : List Int) : Prop where
  bytes : Bytes l
  len : l.length ≤ 2000
theorem pk_f {l : List Int} (h : Rdr l) (p n : Int) (k : Nat) (hp : 0 ≤ p) (hp' : p ≤ 1000000) (h1 : 1 ≤ n) (h2 : n ≤ 1000000) (hk : 1 ≤ k) : spec_l6Rd_pick.f k l p n = some (pk l p n, p + 1) := by
  obtain ⟨v, _, _, hv⟩ := pick_some l h.bytes h.len p n hp hp' h1 h2
  unfold pk
  rw [hv 0]
  obtain ⟨k, rfl⟩ : ∃ m, k = m + 1 := ⟨k - 1, by omega⟩
  rw [hv k]
  rfl
theorem pk_bd {l : List Int} (h : Rdr l) (p n : Int) (hp : 0 ≤ p) (hp' : p ≤ 1000000) (h1 : 1 ≤ n) (h2 : n ≤ 1000000) : 0 ≤ pk l p n ∧ pk l p n < n := by
  obtain ⟨v, h3, h4, hv⟩ := pick_some l h.bytes h.len p n hp hp' h1 h2
  unfold pk
  rw [hv 0]
  exact ⟨h3, h4⟩
theorem open_f (l : List Int) (hl : Bytes l) : ∃ s, spec_l6Open.f l = some (s, 0) ∧ Rdr s := by
  unfold spec_l6Open.f
  by_cases h : (l.length : Int) > 2000
  · rw [if_pos h, if_pos (by omega)]
    exact ⟨_, rfl, ⟨fun n hn => hl n (List.mem_of_mem_take hn), by simp; omega⟩⟩
  · rw [if_neg h]
    exact ⟨_, rfl, ⟨hl, by omega⟩⟩
theorem bytes_of {l : List Int} (h : ∀ n ∈ l, (Lit.int .u8 n).wf = true) : Bytes l := fun n hn => by
  have := h n hn
  simp [Lit.wf, IntKind.min, IntKind.max, IntKind.signed, IntKind.bits] at this
  omega
theorem letter_f (a : Int) : spec_l1Letter.f a = some (Int.tmod a 7) := rfl
theorem clamp_bd (a b x : Int) (h : a ≤ b) : a ≤ mx a (mn b x) ∧ mx a (mn b x) ≤ b := by
  unfold mx mn
  constructor <;> (repeat' split) <;> omega
theorem part_end (l : List Int) (h : Rdr l) (acc : List S56) (x1 x6 p : Int) (ha : acc.length ≤ 12) (hp : 0 ≤ p) (hp' : p ≤ 100000) :
    ∃ out q, out.length ≤ 12 ∧ p ≤ q ∧ q ≤ p + 2 ∧ ∀ k, 2 ≤ k → spec_l92Part.j1 k x1 acc x6 false l p = some (out, q) := by
  by_cases h0 : acc.length = 0
  · refine ⟨acc, p, ha, by omega, by omega, fun k hk => ?_⟩
    obtain ⟨k, rfl⟩ : ∃ m, k = m + 1 := ⟨k - 1, by omega⟩
    rw [spec_l92Part.j1, if_neg (by decide), if_neg (by omega)]
  · by_cases h1 : pk l p 50 = 0
    · obtain ⟨v0, v1⟩ := pk_bd h (p + 1) 2 (by omega) (by omega) (by omega) (by omega)
      refine ⟨acc.set (0 : Int).toNat ⟨⟨(rd_T56 acc 0).f0.f0, (rd_T56 acc 0).f0.f1⟩, rd ([0, 4] : List Int) (pk l (p + 1) 2)⟩, p + 1 + 1, by simp; omega, by omega, by omega, fun k hk => ?_⟩
      obtain ⟨k, rfl⟩ : ∃ m, k = m + 1 := ⟨k - 1, by omega⟩
      rw [spec_l92Part.j1, if_neg (by decide), if_pos (by omega), pk_f h p 50 k (by omega) (by omega) (by omega) (by omega) (by omega)]
      simp only [Option.bind_some]
      rw [if_pos h1, pk_f h (p + 1) 2 k (by omega) (by omega) (by omega) (by omega) (by omega)]
      simp only [Option.bind_some]
      rw [if_pos v0, if_pos (by simpa using v1), if_pos (by omega)]
    · by_cases h2 : pk l p 50 = 1
      · refine ⟨acc.set (0 : Int).toNat ⟨⟨21, (rd_T56 acc 0).f0.f1⟩, (rd_T56 acc 0).f1⟩, p + 1, by simp; omega, by omega, by omega, fun k hk => ?_⟩
        obtain ⟨k, rfl⟩ : ∃ m, k = m + 1 := ⟨k - 1, by omega⟩
        rw [spec_l92Part.j1, if_neg (by decide), if_pos (by omega), pk_f h p 50 k (by omega) (by omega) (by omega) (by omega) (by omega)]
        simp only [Option.bind_some]
        rw [if_neg h1, if_pos h2, if_pos (by omega)]
      · refine ⟨acc, p + 1, ha, by omega, by omega, fun k hk => ?_⟩
        obtain ⟨k, rfl⟩ : ∃ m, k = m + 1 := ⟨k - 1, by omega⟩
        rw [spec_l92Part.j1, if_neg (by decide), if_pos (by omega), pk_f h p 50 k (by omega) (by omega) (by omega) (by omega) (by omega)]
        simp only [Option.bind_some]
        rw [if_neg h1, if_neg h2]
theorem part_l0 (l : List Int) (h : Rdr l) : ∀ (d : Nat) (acc : List S56) (x1 x6 p : Int), acc.length + d = 12 → 0 ≤ x1 → x1 ≤ 1000 → 0 ≤ x6 → x6 ≤ 20 → 0 ≤ p → p ≤ 10000 + 3 * acc.length →
    ∃ out q, out.length ≤ 12 ∧ p ≤ q ∧ q ≤ p + 3 * d + 2 ∧ ∀ k, 2 * d + 4 ≤ k → spec_l92Part.l0 k x1 acc x6 l p = some (out, q) := by
  intro d
  induction d with
  | zero =>
    intro acc x1 x6 p ha h0 h1 h2 h3 hp hp'
    obtain ⟨out, q, ho, q0, q1, hq⟩ := part_end l h acc x1 x6 p (by omega) hp (by omega)
    refine ⟨out, q, ho, q0, by omega, fun k hk => ?_⟩
    obtain ⟨k, rfl⟩ : ∃ m, k = m + 1 := ⟨k - 1, by omega⟩
    rw [spec_l92Part.l0, decide_eq_false (show ¬ (acc.length : Int) < 12 by omega)]
    split
    · exact hq k (by omega)
    · exact hq k (by omega)
  | succ d ih =>
    intro acc x1 x6 p ha h0 h1 h2 h3 hp hp'
    by_cases hx1 : x1 > 0
    · have hmn : 1 ≤ mn 3 x1 ∧ mn 3 x1 ≤ 3 ∧ mn 3 x1 ≤ x1 := by
        unfold mn
        split <;> omega
      obtain ⟨n0, n1⟩ := pk_bd h p (mn 3 x1) (by omega) (by omega) (by omega) (by omega)
      have hn := fun k (hk : 1 ≤ k) => pk_f h p (mn 3 x1) k (by omega) (by omega) (by omega) (by omega) hk
      by_cases hx : Int.tmod x6 7 = 2
      · obtain ⟨v0, v1⟩ := pk_bd h (p + 1 + 1) 5 (by omega) (by omega) (by omega) (by omega)
        obtain ⟨c0, c1⟩ := clamp_bd 1 16 (x6 + pk l (p + 1 + 1) 5 - 2) (by omega)
        obtain ⟨out, q, ho, q0, q1, hq⟩ := ih (acc ++ [⟨⟨x6, pk l (p + 1) 3 == 0⟩, 1 + pk l p (mn 3 x1)⟩]) (x1 - (1 + pk l p (mn 3 x1))) (mx 1 (mn 16 (x6 + pk l (p + 1 + 1) 5 - 2))) (p + 1 + 1 + 1) (by simp; omega) (by omega) (by omega) (by omega) (by omega) (by omega) (by simp; omega)
        refine ⟨out, q, ho, by omega, by omega, fun k hk => ?_⟩
        obtain ⟨k, rfl⟩ : ∃ m, k = m + 2 := ⟨k - 2, by omega⟩
        rw [spec_l92Part.l0, if_pos hx1, decide_eq_true (show (acc.length : Int) < 12 by omega), spec_l92Part.j1, if_pos rfl, hn k (by omega)]
        simp only [Option.bind_some]
        rw [letter_f]
        simp only [Option.bind_some]
        rw [if_pos hx, pk_f h (p + 1) 3 k (by omega) (by omega) (by omega) (by omega) (by omega)]
        simp only [Option.bind_some]
        rw [if_pos (by omega), pk_f h (p + 1 + 1) 5 k (by omega) (by omega) (by omega) (by omega) (by omega)]
        simp only [Option.bind_some]
        rw [w0 (i := 1 + pk l p (mn 3 x1)) (by omega) (by omega), w0 (i := x1 - (1 + pk l p (mn 3 x1))) (by omega) (by omega), w0 (i := x6 + pk l (p + 1 + 1) 5) (by omega) (by omega), w0 (i := x6 + pk l (p + 1 + 1) 5 - 2) (by omega) (by omega)]
        exact hq k (by omega)
      · obtain ⟨v0, v1⟩ := pk_bd h (p + 1) 5 (by omega) (by omega) (by omega) (by omega)
        obtain ⟨c0, c1⟩ := clamp_bd 1 16 (x6 + pk l (p + 1) 5 - 2) (by omega)
        obtain ⟨out, q, ho, q0, q1, hq⟩ := ih (acc ++ [⟨⟨x6, false⟩, 1 + pk l p (mn 3 x1)⟩]) (x1 - (1 + pk l p (mn 3 x1))) (mx 1 (mn 16 (x6 + pk l (p + 1) 5 - 2))) (p + 1 + 1) (by simp; omega) (by omega) (by omega) (by omega) (by omega) (by omega) (by simp; omega)
        refine ⟨out, q, ho, by omega, by omega, fun k hk => ?_⟩
        obtain ⟨k, rfl⟩ : ∃ m, k = m + 2 := ⟨k - 2, by omega⟩
        rw [spec_l92Part.l0, if_pos hx1, decide_eq_true (show (acc.length : Int) < 12 by omega), spec_l92Part.j1, if_pos rfl, hn k (by omega)]
        simp only [Option.bind_some]
        rw [letter_f]
        simp only [Option.bind_some]
        rw [if_neg hx, if_pos (by omega), pk_f h (p + 1) 5 k (by omega) (by omega) (by omega) (by omega) (by omega)]
        simp only [Option.bind_some]
        rw [w0 (i := 1 + pk l p (mn 3 x1)) (by omega) (by omega), w0 (i := x1 - (1 + pk l p (mn 3 x1))) (by omega) (by omega), w0 (i := x6 + pk l (p + 1) 5) (by omega) (by omega), w0 (i := x6 + pk l (p + 1) 5 - 2) (by omega) (by omega)]
        exact hq k (by omega)
    · obtain ⟨out, q, ho, q0, q1, hq⟩ := part_end l h acc x1 x6 p (by omega) hp (by omega)
      refine ⟨out, q, ho, q0, by omega, fun k hk => ?_⟩
      obtain ⟨k, rfl⟩ : ∃ m, k = m + 1 := ⟨k - 1, by omega⟩
      rw [spec_l92Part.l0, if_neg hx1]
      exact hq k (by omega)
theorem part_d (l : List Int) (h : Rdr l) (p a : Int) (h0 : 0 ≤ a) (h1 : a ≤ 1000) (hp : 0 ≤ p) (hp' : p ≤ 9000) : ∃ out q, out.length ≤ 12 ∧ p ≤ q ∧ q ≤ p + 40 ∧ ∀ k, 40 ≤ k → spec_l92Part.f k l p a = some (out, q) := by
  obtain ⟨v0, v1⟩ := pk_bd h p 6 (by omega) (by omega) (by omega) (by omega)
  obtain ⟨out, q, ho, q0, q1, hq⟩ := part_l0 l h 12 [] a (5 + pk l p 6) (p + 1) rfl h0 h1 (by omega) (by omega) (by omega) (by simp; omega)
  refine ⟨out, q, ho, by omega, by omega, fun k hk => ?_⟩
  unfold spec_l92Part.f
  rw [pk_f h p 6 k (by omega) (by omega) (by omega) (by omega) (by omega)]
  simp only [Option.bind_some]
  rw [w0 (i := 5 + pk l p 6) (by omega) (by omega)]
  exact hq k (by omega)
theorem disc_l0 (l : List Int) (h : Rdr l) (a : List S56) : ∀ (d i : Nat) (b : List S56) (p : Int), i + d = b.length → b.length ≤ 12 → 0 ≤ p → p ≤ 10000 + i → ∃ c q, c.length ≤ 12 ∧ ∀ k, d + 2 ≤ k → spec_l92Discant.l0 k a b (i : Int) l p = some (a, c, q) := by
  intro d
  induction d with
  | zero =>
    intro i b p hi hb hp hp'
    refine ⟨b, p, hb, fun k hk => ?_⟩
    obtain ⟨k, rfl⟩ : ∃ m, k = m + 1 := ⟨k - 1, by omega⟩
    simp only [spec_l92Discant.l0]
    rw [if_neg (by omega)]
  | succ d ih =>
    intro i b p hi hb hp hp'
    obtain ⟨v0, v1⟩ := pk_bd h p 6 (by omega) (by omega) (by omega) (by omega)
    obtain ⟨c, q, hc, hq⟩ := ih (i + 1) (b.set ((i : Int)).toNat (⟨(⟨mn 20 (wrap64 ((mx 0 ((rd_T56 b (i : Int)).f0.f0)) + (rd ([4, 4, 3, 7, 0, 2] : List Int) (pk l p 6)))), false⟩ : S49), (rd_T56 b (i : Int)).f1⟩ : S56)) (p + 1) (by simp; omega) (by simpa using hb) (by omega) (by omega)
    refine ⟨c, q, hc, fun k hk => ?_⟩
    obtain ⟨k, rfl⟩ : ∃ m, k = m + 1 := ⟨k - 1, by omega⟩
    simp only [spec_l92Discant.l0, Option.bind_some]
    rw [if_pos (by omega), pk_f h p 6 k (by omega) (by omega) (by omega) (by omega) (by omega)]
    simp only [Option.bind_some]
    rw [if_pos v0, if_pos (by simpa using v1), if_pos (by omega), w1 (by omega)]
    exact hq k (by omega)
theorem disc_d (l : List Int) (h : Rdr l) (p : Int) (hp : 0 ≤ p) (hp' : p ≤ 4000) : ∃ a b q, a.length ≤ 12 ∧ b.length ≤ 12 ∧ ∀ k, 60 ≤ k → spec_l92Discant.f k l p = some (a, b, q) := by
  obtain ⟨n0, n1⟩ := pk_bd h p 12 (by omega) (by omega) (by omega) (by omega)
  obtain ⟨a, q, ha, q0, q1, hq⟩ := part_d l h (p + 1) (pk l p 12) n0 (by omega) (by omega) (by omega)
  by_cases h0 : pk l q 2 = 0
  · obtain ⟨c, q', hc, hd⟩ := disc_l0 l h a a.length 0 a (q + 1) (by omega) ha (by omega) (by omega)
    refine ⟨a, c, q', ha, hc, fun k hk => ?_⟩
    unfold spec_l92Discant.f
    rw [pk_f h p 12 k (by omega) (by omega) (by omega) (by omega) (by omega)]
    simp only [Option.bind_some]
    rw [hq k (by omega)]
    simp only [Option.bind_some]
    rw [pk_f h q 2 k (by omega) (by omega) (by omega) (by omega) (by omega)]
    simp only [Option.bind_some]
    rw [if_pos h0, if_pos (by simp; omega), List.nil_append]
    exact hd k (by omega)
  · by_cases h1 : pk l (q + 1) 8 = 0
    · obtain ⟨b, q', hb, r0, r1, hr⟩ := part_d l h (q + 1 + 1) (pk l p 12 + 1) (by omega) (by omega) (by omega) (by omega)
      refine ⟨a, b, q', ha, hb, fun k hk => ?_⟩
      unfold spec_l92Discant.f
      rw [pk_f h p 12 k (by omega) (by omega) (by omega) (by omega) (by omega)]
      simp only [Option.bind_some]
      rw [hq k (by omega)]
      simp only [Option.bind_some]
      rw [pk_f h q 2 k (by omega) (by omega) (by omega) (by omega) (by omega)]
      simp only [Option.bind_some]
      rw [if_neg h0, pk_f h (q + 1) 8 k (by omega) (by omega) (by omega) (by omega) (by omega)]
      simp only [Option.bind_some]
      rw [if_pos h1, w0 (i := pk l p 12 + 1) (by omega) (by omega), hr k (by omega)]
      rfl
    · obtain ⟨b, q', hb, r0, r1, hr⟩ := part_d l h (q + 1 + 1) (pk l p 12) (by omega) (by omega) (by omega) (by omega)
      refine ⟨a, b, q', ha, hb, fun k hk => ?_⟩
      unfold spec_l92Discant.f
      rw [pk_f h p 12 k (by omega) (by omega) (by omega) (by omega) (by omega)]
      simp only [Option.bind_some]
      rw [hq k (by omega)]
      simp only [Option.bind_some]
      rw [pk_f h q 2 k (by omega) (by omega) (by omega) (by omega) (by omega)]
      simp only [Option.bind_some]
      rw [if_neg h0, pk_f h (q + 1) 8 k (by omega) (by omega) (by omega) (by omega) (by omega)]
      simp only [Option.bind_some]
      rw [if_neg h1, hr k (by omega)]
      rfl
theorem FnCross : ∀ (l0 : List Int), l0.length ≤ maxLen → l0.length * 1 ≤ 140737488351232 → (∀ n ∈ l0, (Lit.int .u8 n).wf = true) → ∃ k, laws_FnCross.f k l0 = some true := by
  intro l0 z1 z2 hw
  refine ⟨203, ?_⟩
  unfold laws_FnCross.f
  by_cases h : (l0.length : Int) > 1048576
  · rw [if_pos h]
  · rw [if_neg h]
    obtain ⟨o, ho, hR⟩ := open_f l0 (bytes_of hw)
    obtain ⟨a, b, q, ha, hb, hq⟩ := disc_d o hR 0 (by omega) (by omega)
    have hd : spec_DrawDiscantCross.f 203 l0 = some (a, b) := by
      unfold spec_DrawDiscantCross.f
      rw [ho]
      simp only [Option.bind_some]
      rw [hq 203 (by omega)]
      rfl
    rw [hd]
    simp only [Option.bind_some]
    rw [cri_f a b 203 (by omega), Option.bind_some, crs_f a b (by omega) (by omega) 203 (by omega), Option.bind_some, if_pos rfl, laws_FnCross.j0]
    by_cases hT : TG a b = true
    · have hnn : ¬ CR a b < 0 := by
        unfold CR
        rw [if_pos hT]
        omega
      have hn2 : ¬ CR b a < 0 := by
        unfold CR
        rw [if_pos (TG_swap hT)]
        omega
      have hbo := CR_both hT
      have hsb := sumB_bd a (PV_all (TG_0 hT))
      have hsl := PV_sum (TG_0 hT)
      rw [decide_eq_false hnn, if_neg (by decide), dmi_f b 7 202 (by omega), Option.bind_some, cri_f b a 202 (by omega), Option.bind_some, pbi_f a 202 (by omega), Option.bind_some]
      unfold PB
      rw [if_pos (TG_0 hT), w0 (i := CR a b + CR b a) (by omega) (by omega), if_pos hbo, cri_f a a 202 (by omega), Option.bind_some, CR_self (TG_0 hT), if_pos rfl]
      obtain ⟨up, p, hd2⟩ : ∃ up p, DMV b 7 = (up, p) := ⟨_, _, rfl⟩
      rw [hd2]
      dsimp only
      cases p with
      | false => rw [if_neg (by decide)]
      | true =>
        have hup := CR_up hT hd2
        rw [if_pos rfl, cri_f _ _ 202 (by omega), Option.bind_some]
        exact congrArg some (decide_eq_true hup)
    · have e : CR a b = -1 := by
        unfold CR
        rw [if_neg hT]
      rw [e]
      rfl

end Go.Proofs.YtgiobmceippanaaDoor.PureFnCross
