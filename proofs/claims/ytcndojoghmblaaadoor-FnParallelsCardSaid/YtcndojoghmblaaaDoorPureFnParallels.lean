/- FnParallels: for every list of at most 1048576 bytes, the law of DiscantParallels holds of what the reference draws from it, and the list reads as before (longer lists the statement lets pass). The tables letterHeights and leastSemis are tied to the program's text. No condition beyond the statement's own. -/
import Derived.Test.YtcndojoghmblaaaDoorGBx0
import Derived.Test.YtcndojoghmblaaaDoorGBx6
import Derived.Test.YtcndojoghmblaaaDoorGBx7
import Derived.Test.YtcndojoghmblaaaDoorGBx1
import Derived.Test.YtcndojoghmblaaaDoorGBx9
import Derived.Test.YtcndojoghmblaaaDoorGBx2
import Derived.Test.YtcndojoghmblaaaDoorGBx5
import Derived.Test.YtcndojoghmblaaaDoorGBx8
import Derived.Test.YtcndojoghmblaaaDoorGBx4
import Derived.Test.YtcndojoghmblaaaDoorGBx10
import Derived.Laws.Bits64
namespace Go.Proofs.YtcndojoghmblaaaDoor.PureFnParallels
open Go.RowKit Go.Proofs.YtcndojoghmblaaaDoor.GB Go.Proofs.YtcndojoghmblaaaDoorW.PrintWords Go.Proofs.YtcndojoghmblaaaDoorW.PrintLast Go.Proofs.YtcndojoghmblaaaDoorW.PrintMore 
set_option linter.unusedVariables false
set_option linter.unusedSimpArgs false
theorem w1 {i : Nat} (h : i < 4611686018427387904) : wrap64 ((i : Int) + 1) = ((i + 1 : Nat) : Int) := by
  unfold wrap64
  omega
theorem w0 {i : Int} (h : -9223372036854775808 ≤ i) (h' : i ≤ 9223372036854775807) : wrap64 i = i := by
  unfold wrap64
  omega
theorem rd_at (xs : List Int) (i : Nat) (h : i < xs.length) : rd xs (i : Int) = xs[i] := by
  simp [rd, List.getD_eq_getElem?_getD, h]
/-- A tone of the gamut. -/
def tv (a : Int) (b : Bool) : Bool := decide (0 ≤ a) && (decide (a ≤ 20) && (!b || decide (Int.tmod a 7 = 2)))
theorem tv_spec (a : Int) (b : Bool) : spec_ToneValid.f a b = some (tv a b) := by
  unfold spec_ToneValid.f spec_l6In.f spec_l1Letter.f tv
  by_cases h0 : a ≥ 0
  · rw [if_pos h0, decide_eq_true (show 0 ≤ a from h0)]
    by_cases h1 : a ≤ 20
    · simp only [h1, decide_true, Option.bind_some, if_true, Bool.true_and]
      cases b
      · rfl
      · simp
        rfl
    · simp [h1]
  · rw [if_neg h0, decide_eq_false (show ¬ 0 ≤ a from h0)]
    rfl
theorem tv_impl (a : Int) (b : Bool) : impl_Tone_valid.f a b = some (tv a b) := by
  unfold impl_Tone_valid.f tv
  by_cases h0 : a ≥ 0
  · rw [if_pos h0, decide_eq_true (show 0 ≤ a from h0)]
    by_cases h1 : a ≤ 20
    · rw [if_pos h1, decide_eq_true h1]
      cases b
      · rfl
      · simp
        rfl
    · rw [if_neg h1, decide_eq_false h1]
      rfl
  · rw [if_neg h0, decide_eq_false (show ¬ 0 ≤ a from h0)]
    rfl
theorem in_spec (a b c : Int) : spec_l6In.f a b c = some (decide (b ≤ a) && decide (a ≤ c)) := by
  unfold spec_l6In.f
  by_cases h0 : a ≥ b
  · rw [if_pos h0, decide_eq_true (show b ≤ a from h0)]; rfl
  · rw [if_neg h0, decide_eq_false (show ¬ b ≤ a from h0)]; rfl
def vv (v : S44) : Bool := tv v.f0.f0 v.f0.f1 && (decide (1 ≤ v.f1) && decide (v.f1 ≤ 3))
theorem rdv_at (xs : List S44) (i : Nat) (h : i < xs.length) : rd_T44 xs (i : Int) = xs[i] := by
  simp [rd_T44, List.getD_eq_getElem?_getD, h]
def sumB (l : List S44) : Int := (l.map (·.f1)).sum
theorem sumB_cons (v : S44) (l : List S44) : sumB (v :: l) = v.f1 + sumB l := by simp [sumB]
theorem vv_bd {v : S44} (h : vv v = true) : 1 ≤ v.f1 ∧ v.f1 ≤ 3 := by
  unfold vv at h
  simp only [Bool.and_eq_true, decide_eq_true_eq] at h
  exact h.2
theorem sumB_bd (l : List S44) (h : l.all vv = true) : 0 ≤ sumB l ∧ sumB l ≤ 3 * l.length := by
  induction l with
  | nil => simp [sumB]
  | cons v l ih =>
    simp only [List.all_cons, Bool.and_eq_true] at h
    have h1 := vv_bd h.1
    have h2 := ih h.2
    rw [sumB_cons, List.length_cons]
    omega
def PV (l : List S44) : Bool := decide (l.length ≤ 12) && (l.all vv && decide (sumB l ≤ 24))
theorem PV_len {l : List S44} (h : PV l = true) : l.length ≤ 12 := by
  unfold PV at h
  simp only [Bool.and_eq_true, decide_eq_true_eq] at h
  exact h.1
theorem PV_all {l : List S44} (h : PV l = true) : l.all vv = true := by
  unfold PV at h
  simp only [Bool.and_eq_true, decide_eq_true_eq] at h
  exact h.2.1
theorem PV_sum {l : List S44} (h : PV l = true) : sumB l ≤ 24 := by
  unfold PV at h
  simp only [Bool.and_eq_true, decide_eq_true_eq] at h
  exact h.2.2
theorem beats_l0 (l : List S44) (hl : l.length ≤ 12) (hv : l.all vv = true) : ∀ (d i k : Nat) (a : Int), i + d = l.length → d < k → 0 ≤ a → a ≤ 3 * i → spec_l8Beats.l0 k l a (i : Int) = some (a + sumB (l.drop i)) := by
  intro d
  induction d with
  | zero =>
    intro i k a hi hk h0 h1
    obtain ⟨k, rfl⟩ : ∃ m, k = m + 1 := ⟨k - 1, by omega⟩
    simp only [spec_l8Beats.l0]
    rw [if_neg (by omega), List.drop_eq_nil_of_le (by omega)]
    simp [sumB]
  | succ d ih =>
    intro i k a hi hk h0 h1
    obtain ⟨k, rfl⟩ : ∃ m, k = m + 1 := ⟨k - 1, by omega⟩
    have hx : i < l.length := by omega
    have hb := vv_bd (List.all_eq_true.1 hv _ (List.getElem_mem hx))
    simp only [spec_l8Beats.l0]
    rw [if_pos (by omega), if_pos (by omega), rdv_at l i hx, w1 (by omega), w0 (by omega) (by omega), ih (i + 1) k _ (by omega) (by omega) (by omega) (by omega), List.drop_eq_getElem_cons hx, sumB_cons]
    congr 1
    omega
theorem beats_f (l : List S44) (hl : l.length ≤ 12) (hv : l.all vv = true) (k : Nat) (hk : 13 ≤ k) : spec_l8Beats.f k l = some (sumB l) := by
  unfold spec_l8Beats.f
  simpa using beats_l0 l hl hv l.length 0 k 0 (by omega) (by omega) (by omega) (by omega)
theorem pvs_l0 (l : List S44) (hb : l.length < 4611686018427387904) : ∀ (d i k : Nat), i + d = l.length → d + 14 < k → (l.take i).all vv = true → spec_PartValid.l0 k l (i : Int) = some (PV l) := by
  intro d
  induction d with
  | zero =>
    intro i k hi hk hv
    obtain ⟨k, rfl⟩ : ∃ m, k = m + 1 := ⟨k - 1, by omega⟩
    rw [List.take_of_length_le (by omega)] at hv
    simp only [spec_PartValid.l0]
    rw [if_neg (by omega)]
    unfold PV
    rw [hv]
    by_cases hl : l.length ≤ 12
    · rw [if_pos (by omega), beats_f l hl hv k (by omega), decide_eq_true hl]
      rfl
    · rw [if_neg (by omega), decide_eq_false hl]
      rfl
  | succ d ih =>
    intro i k hi hk hv
    obtain ⟨k, rfl⟩ : ∃ m, k = m + 1 := ⟨k - 1, by omega⟩
    have hx : i < l.length := by omega
    simp only [spec_PartValid.l0]
    rw [if_pos (by omega), if_pos (by omega), rdv_at l i hx, tv_spec, in_spec]
    simp only [Option.bind_some]
    by_cases hvi : vv l[i] = true
    · have hvi2 := hvi
      unfold vv at hvi2
      simp only [Bool.and_eq_true] at hvi2
      rw [if_pos hvi2.1, if_pos (by simpa using hvi2.2), w1 (by omega)]
      refine ih (i + 1) k (by omega) (by omega) ?_
      rw [List.take_succ_eq_append_getElem hx, List.all_append, hv]
      simp [hvi]
    · have hF : PV l = false := by
        have : l.all vv = false := by
          rw [Bool.eq_false_iff]
          intro h
          exact hvi (List.all_eq_true.1 h _ (List.getElem_mem hx))
        unfold PV
        rw [this]
        simp
      rw [hF]
      unfold vv at hvi
      by_cases h1 : tv l[i].f0.f0 l[i].f0.f1 = true
      · rw [if_pos h1]
        rw [h1, Bool.true_and] at hvi
        rw [if_neg hvi]
      · rw [if_neg h1]
theorem pvs_f (l : List S44) (hb : l.length ≤ 1048576) (k : Nat) (hk : l.length + 15 < k) : spec_PartValid.f k l = some (PV l) := by
  unfold spec_PartValid.f
  simpa using pvs_l0 l (by omega) l.length 0 k (by omega) (by omega) (by simp)
theorem pvi_l0 (l : List S44) (hl : l.length ≤ 12) : ∀ (d i k : Nat) (a : Int), i + d = l.length → d < k → 0 ≤ a → a ≤ 3 * i → impl_PartValid.l0 k a l (l.length : Int) (i : Int) = some ((l.drop i).all vv && decide (a + sumB (l.drop i) ≤ 24)) := by
  intro d
  induction d with
  | zero =>
    intro i k a hi hk h0 h1
    obtain ⟨k, rfl⟩ : ∃ m, k = m + 1 := ⟨k - 1, by omega⟩
    simp only [impl_PartValid.l0]
    rw [if_neg (by omega), List.drop_eq_nil_of_le (by omega)]
    simp [sumB]
  | succ d ih =>
    intro i k a hi hk h0 h1
    obtain ⟨k, rfl⟩ : ∃ m, k = m + 1 := ⟨k - 1, by omega⟩
    have hx : i < l.length := by omega
    simp only [impl_PartValid.l0]
    rw [if_pos (by omega), if_pos (by omega), if_pos (by omega), rdv_at l i hx, tv_impl, List.drop_eq_getElem_cons hx, sumB_cons, List.all_cons]
    simp only [Option.bind_some]
    by_cases ht : tv l[i].f0.f0 l[i].f0.f1 = true
    · rw [if_pos ht]
      by_cases h3 : l[i].f1 < 1
      · rw [if_pos h3]
        have : vv l[i] = false := by unfold vv; rw [decide_eq_false (show ¬ 1 ≤ l[i].f1 by omega)]; simp
        rw [this]
        rfl
      · rw [if_neg h3]
        by_cases h4 : l[i].f1 > 3
        · rw [if_pos h4]
          have : vv l[i] = false := by unfold vv; rw [decide_eq_false (show ¬ l[i].f1 ≤ 3 by omega)]; simp
          rw [this]
          rfl
        · have : vv l[i] = true := by unfold vv; rw [ht, decide_eq_true (show 1 ≤ l[i].f1 by omega), decide_eq_true (show l[i].f1 ≤ 3 by omega)]; rfl
          rw [if_neg h4, w1 (by omega), w0 (by omega) (by omega), ih (i + 1) k _ (by omega) (by omega) (by omega) (by omega), this, Bool.true_and, Int.add_assoc]
    · rw [if_neg ht]
      have : vv l[i] = false := by unfold vv; rw [Bool.eq_false_iff.mpr ht]; rfl
      rw [this]
      rfl
theorem pvi_f (l : List S44) (k : Nat) (hk : 13 ≤ k) : impl_PartValid.f k l = some (PV l) := by
  unfold impl_PartValid.f PV
  by_cases hl : l.length ≤ 12
  · rw [if_neg (by omega), decide_eq_true hl, Bool.true_and]
    simpa using pvi_l0 l hl l.length 0 k 0 (by omega) (by omega) (by omega) (by omega)
  · rw [if_pos (by omega), decide_eq_false hl]
    rfl

theorem expand_cons (v : S44) (l : List S44) : expand (v :: l) = List.replicate v.f1.toNat v.f0 ++ expand l := by simp [expand]
theorem expand_sum (l : List S44) (h : l.all vv = true) : ((expand l).length : Int) = sumB l := by
  induction l with
  | nil => rfl
  | cons v l ih =>
    simp only [List.all_cons, Bool.and_eq_true] at h
    have h1 := vv_bd h.1
    have h2 := ih h.2
    rw [expand_cons, sumB_cons, List.length_append, List.length_replicate]
    omega
theorem at_l0 (l : List S44) (hv : l.all vv = true) (hl : l.length ≤ 12) : ∀ (d i k : Nat) (b : Int), i + d = l.length → d ≤ k → 0 ≤ b → b < ((expand (l.drop i)).length : Int) → spec_l8At.l0 k l b (i : Int) = some (((expand (l.drop i)).getD b.toNat z30).f0, ((expand (l.drop i)).getD b.toNat z30).f1) := by
  intro d
  induction d with
  | zero =>
    intro i k b hi hk h0 h1
    rw [List.drop_eq_nil_of_le (by omega)] at h1
    simp [expand] at h1
    omega
  | succ d ih =>
    intro i k b hi hk h0 h1
    obtain ⟨k, rfl⟩ : ∃ m, k = m + 1 := ⟨k - 1, by omega⟩
    have hx : i < l.length := by omega
    have hb := vv_bd (List.all_eq_true.1 hv _ (List.getElem_mem hx))
    rw [List.drop_eq_getElem_cons hx, expand_cons] at h1 ⊢
    rw [List.length_append, List.length_replicate] at h1
    simp only [spec_l8At.l0]
    rw [if_pos (by omega), if_pos (by omega), rdv_at l i hx]
    by_cases hge : b ≥ l[i].f1
    · have hlen := expand_len (l.drop (i + 1)) (fun v hv' => (vv_bd (List.all_eq_true.1 hv v (List.mem_of_mem_drop hv'))).2)
      rw [List.length_drop] at hlen
      rw [if_pos hge, w1 (by omega), w0 (by omega) (by omega), ih (i + 1) k _ (by omega) (by omega) (by omega) (by omega)]
      rw [List.getD_eq_getElem?_getD, List.getD_eq_getElem?_getD, List.getElem?_append_right (by rw [List.length_replicate]; omega), List.length_replicate, show (b - l[i].f1).toNat = b.toNat - l[i].f1.toNat by omega]
    · rw [if_neg hge]
      rw [List.getD_eq_getElem?_getD, List.getElem?_append_left (by rw [List.length_replicate]; omega), List.getElem?_replicate, if_pos (by omega)]
      rfl
theorem at_f (l : List S44) (hv : l.all vv = true) (hl : l.length ≤ 12) (b : Int) (k : Nat) (hk : 12 ≤ k) (h0 : 0 ≤ b) (h1 : b < ((expand l).length : Int)) : spec_l8At.f k l b = some (((expand l).getD b.toNat z30).f0, ((expand l).getD b.toNat z30).f1) := by
  unfold spec_l8At.f
  simpa using at_l0 l hv hl l.length 0 k b (by omega) (by omega) h0 (by simpa using h1)
def PB (l : List S44) : Int := if PV l = true then sumB l else -1
theorem pbs_f (l : List S44) (hb : l.length ≤ 1048576) (k : Nat) (hk : l.length + 15 < k) : spec_PartBeats.f k l = some (PB l) := by
  unfold spec_PartBeats.f PB
  rw [pvs_f l hb k hk]
  simp only [Option.bind_some]
  by_cases h : PV l = true
  · rw [if_pos h, if_pos h, beats_f l (PV_len h) (PV_all h) k (by omega)]
    rfl
  · rw [if_neg h, if_neg h]
def TG (l0 l1 : List S44) : Bool := PV l0 && (PV l1 && decide (sumB l0 = sumB l1))
theorem TG_0 {l0 l1 : List S44} (h : TG l0 l1 = true) : PV l0 = true := by
  unfold TG at h
  simp only [Bool.and_eq_true] at h
  exact h.1
theorem TG_1 {l0 l1 : List S44} (h : TG l0 l1 = true) : PV l1 = true := by
  unfold TG at h
  simp only [Bool.and_eq_true] at h
  exact h.2.1
theorem TG_2 {l0 l1 : List S44} (h : TG l0 l1 = true) : sumB l0 = sumB l1 := by
  unfold TG at h
  simp only [Bool.and_eq_true, decide_eq_true_eq] at h
  exact h.2.2
def PS (l0 l1 : List S44) : List S85 := pairs (expand l0) (expand l1)
theorem so_f (l0 l1 : List S44) (k : Nat) (hk : 13 ≤ k) : impl_soundsOf.f k l0 l1 = some (if TG l0 l1 = true then (PS l0 l1, true) else ([], false)) := by
  unfold impl_soundsOf.f
  rw [pvi_f l0 k hk, pvi_f l1 k hk]
  simp only [Option.bind_some]
  congr 1
  by_cases h0 : PV l0 = true
  · by_cases h1 : PV l1 = true
    · have e0 := expand_sum l0 (PV_all h0)
      have e1 := expand_sum l1 (PV_all h1)
      by_cases h2 : sumB l0 = sumB l1
      · rw [if_pos ⟨h0, h1, by omega⟩, if_pos (by unfold TG; rw [h0, h1, decide_eq_true h2]; rfl)]
        rfl
      · rw [if_neg (fun z => h2 (by omega)), if_neg (by unfold TG; rw [h0, h1, decide_eq_false h2]; simp)]
    · rw [if_neg (fun z => h1 z.2.1), if_neg (fun z => h1 (TG_1 z))]
  · rw [if_neg (fun z => h0 z.1), if_neg (fun z => h0 (TG_0 z))]
theorem tg_f (l0 l1 : List S44) (hb0 : l0.length ≤ 1048576) (hb1 : l1.length ≤ 1048576) (k : Nat) (hk : l0.length + l1.length + 15 < k) : spec_DiscantTogether.f k l0 l1 = some (TG l0 l1) := by
  unfold spec_DiscantTogether.f
  rw [pbs_f l0 hb0 k (by omega), pbs_f l1 hb1 k (by omega)]
  simp only [Option.bind_some]
  unfold PB TG
  by_cases h0 : PV l0 = true
  · have b0 := (sumB_bd l0 (PV_all h0)).1
    rw [if_pos h0, if_pos (by omega), h0, Bool.true_and]
    by_cases h1 : PV l1 = true
    · rw [if_pos h1, h1, Bool.true_and]
      rfl
    · rw [if_neg h1, Bool.eq_false_iff.mpr h1, Bool.false_and]
      congr 1
      rw [beq_eq_false_iff_ne]
      omega
  · rw [if_neg h0, if_neg (by omega), Bool.eq_false_iff.mpr h0]
    rfl
theorem PS_len {l0 l1 : List S44} (h : TG l0 l1 = true) : ((PS l0 l1).length : Int) = sumB l0 := by
  have e0 := expand_sum l0 (PV_all (TG_0 h))
  have e1 := expand_sum l1 (PV_all (TG_1 h))
  have e2 := TG_2 h
  unfold PS pairs
  rw [List.length_zipWith]
  omega
theorem PS_bd {l0 l1 : List S44} (h : TG l0 l1 = true) : (PS l0 l1).length ≤ 24 := by
  have e0 := PS_len h
  have := PV_sum (TG_0 h)
  omega
theorem rdp_at (xs : List S85) (i : Nat) (h : i < xs.length) : rd_T85 xs (i : Int) = xs[i] := by
  simp [rd_T85, List.getD_eq_getElem?_getD, h]
theorem PS_at {l0 l1 : List S44} (h : TG l0 l1 = true) (b : Nat) (hb : b < (PS l0 l1).length) (k : Nat) (hk : 12 ≤ k) : spec_l8At.f k l0 (b : Int) = some ((PS l0 l1)[b].f0.f0, (PS l0 l1)[b].f0.f1) ∧ spec_l8At.f k l1 (b : Int) = some ((PS l0 l1)[b].f1.f0, (PS l0 l1)[b].f1.f1) := by
  have e0 := expand_sum l0 (PV_all (TG_0 h))
  have e1 := expand_sum l1 (PV_all (TG_1 h))
  have e2 := TG_2 h
  have e3 := PS_len h
  have h0 : b < (expand l0).length := by omega
  have h1 : b < (expand l1).length := by omega
  rw [at_f l0 (PV_all (TG_0 h)) (PV_len (TG_0 h)) b k hk (by omega) (by omega), at_f l1 (PV_all (TG_1 h)) (PV_len (TG_1 h)) b k hk (by omega) (by omega)]
  have g0 : (PS l0 l1)[b].f0 = (expand l0)[b] := by simp [PS, pairs]
  have g1 : (PS l0 l1)[b].f1 = (expand l1)[b] := by simp [PS, pairs]
  rw [g0, g1]
  simp [List.getD_eq_getElem?_getD, h0, h1]
theorem beats_tg {l0 l1 : List S44} (h : TG l0 l1 = true) (k : Nat) (hk : 13 ≤ k) : spec_l8Beats.f k l0 = some ((PS l0 l1).length : Int) := by
  rw [beats_f l0 (PV_len (TG_0 h)) (PV_all (TG_0 h)) k hk, PS_len h]
def CC (a : Int) (b : Bool) (c : Int) (d : Bool) : Bool := (spec_l8Concord.f 14 a b c d).getD false
theorem cc_fin : ∀ b d : Bool, ∀ n : Nat, n < 21 → ∀ m : Nat, m < 21 → (if (tv (n : Int) b && tv (m : Int) d) = true then decide (spec_l8Concord.f 14 (n : Int) b (m : Int) d = some (CC (n : Int) b (m : Int) d) ∧ impl_soundPair_concord.f 14 (n : Int) b (m : Int) d = some (CC (n : Int) b (m : Int) d)) else true) = true := by decide +kernel
theorem cc_both (a : Int) (b : Bool) (c : Int) (d : Bool) (h1 : tv a b = true) (h2 : tv c d = true) : spec_l8Concord.f 14 a b c d = some (CC a b c d) ∧ impl_soundPair_concord.f 14 a b c d = some (CC a b c d) := by
  have g1 := h1
  have g2 := h2
  unfold tv at g1 g2
  simp only [Bool.and_eq_true, decide_eq_true_eq] at g1 g2
  obtain ⟨n, rfl⟩ := Int.eq_ofNat_of_zero_le g1.1
  obtain ⟨m, rfl⟩ := Int.eq_ofNat_of_zero_le g2.1
  have := cc_fin b d n (by omega) m (by omega)
  rw [h1, h2, if_pos (by rfl)] at this
  exact of_decide_eq_true this
theorem cci_f (a : Int) (b : Bool) (c : Int) (d : Bool) (h1 : tv a b = true) (h2 : tv c d = true) (k : Nat) (hk : 14 ≤ k) : impl_soundPair_concord.f k a b c d = some (CC a b c d) :=
  at_rounds (impl_soundPair_concord.mono _ _ _ _) hk (cc_both a b c d h1 h2).2
theorem ccs_f (a : Int) (b : Bool) (c : Int) (d : Bool) (h1 : tv a b = true) (h2 : tv c d = true) (k : Nat) (hk : 14 ≤ k) : spec_l8Concord.f k a b c d = some (CC a b c d) :=
  at_rounds (spec_l8Concord.mono _ _ _ _) hk (cc_both a b c d h1 h2).1
/-- Both tones are valid. -/
def pv (p : S85) : Prop := tv p.f0.f0 p.f0.f1 = true ∧ tv p.f1.f0 p.f1.f1 = true
def cp (p : S85) : Bool := CC p.f0.f0 p.f0.f1 p.f1.f0 p.f1.f1
def pvs (ps : List S85) : Prop := ∀ p ∈ ps, pv p
theorem exp_tv {a : List S44} (h : PV a = true) : ∀ t ∈ expand a, tv t.f0 t.f1 = true := by
  intro t ht
  obtain ⟨v, hv, hr⟩ := List.mem_flatMap.1 (show t ∈ a.flatMap fun v => List.replicate v.f1.toNat v.f0 by simpa [expand] using ht)
  have e := List.eq_of_mem_replicate hr
  have hvv := List.all_eq_true.1 (PV_all h) v hv
  unfold vv at hvv
  rw [Bool.and_eq_true] at hvv
  rw [e]
  exact hvv.1
theorem pairs_mem {xs : List S30} : ∀ {ys : List S30} {p : S85}, p ∈ pairs xs ys → p.f0 ∈ xs ∧ p.f1 ∈ ys := by
  induction xs with
  | nil => intro ys p hp; simp [pairs] at hp
  | cons x xs ih =>
    intro ys p hp
    cases ys with
    | nil => simp [pairs] at hp
    | cons y ys =>
      have hp' : p = ⟨x, y⟩ ∨ p ∈ pairs xs ys := by simpa [pairs] using hp
      rcases hp' with rfl | hp'
      · exact ⟨List.mem_cons_self .., List.mem_cons_self ..⟩
      · have := ih hp'
        exact ⟨List.mem_cons_of_mem _ this.1, List.mem_cons_of_mem _ this.2⟩
theorem PS_pv {l0 l1 : List S44} (h : TG l0 l1 = true) : pvs (PS l0 l1) := fun p hp => by
  have := pairs_mem (show p ∈ pairs (expand l0) (expand l1) from hp)
  exact ⟨exp_tv (TG_0 h) _ this.1, exp_tv (TG_1 h) _ this.2⟩
def cAt (ps : List S85) (i : Nat) : Bool := (ps[i]?.map cp).getD false
theorem cAt_eq {ps : List S85} {i : Nat} (h : i < ps.length) : cAt ps i = cp ps[i] := by
  unfold cAt
  rw [List.getElem?_eq_getElem h]
  rfl
theorem ic_at {ps : List S85} (h : pvs ps) (i : Nat) (hi : i < ps.length) (k : Nat) (hk : 14 ≤ k) : impl_soundPair_concord.f k ps[i].f0.f0 ps[i].f0.f1 ps[i].f1.f0 ps[i].f1.f1 = some (cAt ps i) := by
  have := h ps[i] (List.getElem_mem hi)
  rw [cAt_eq hi]
  exact cci_f _ _ _ _ this.1 this.2 k hk
theorem sc_at {l0 l1 : List S44} (h : TG l0 l1 = true) (i : Nat) (hi : i < (PS l0 l1).length) (k : Nat) (hk : 14 ≤ k) : spec_l8Concord.f k (PS l0 l1)[i].f0.f0 (PS l0 l1)[i].f0.f1 (PS l0 l1)[i].f1.f0 (PS l0 l1)[i].f1.f1 = some (cAt (PS l0 l1) i) := by
  have := PS_pv h (PS l0 l1)[i] (List.getElem_mem hi)
  rw [cAt_eq hi]
  exact ccs_f _ _ _ _ this.1 this.2 k hk
theorem moves_f {l0 l1 : List S44} (h : TG l0 l1 = true) (b : Nat) (hb : b + 1 < (PS l0 l1).length) (k : Nat) (hk : 12 ≤ k) : spec_l8Moves.f k l0 l1 (b : Int) = some (wrap64 ((PS l0 l1)[b + 1].f0.f0 - (PS l0 l1)[b].f0.f0), wrap64 ((PS l0 l1)[b + 1].f1.f0 - (PS l0 l1)[b].f1.f0)) := by
  have hn := PS_bd h
  obtain ⟨a0, a1⟩ := PS_at h b (by omega) k hk
  obtain ⟨b0, b1⟩ := PS_at h (b + 1) hb k hk
  unfold spec_l8Moves.f
  rw [w1 (by omega), a0, a1, b0, b1]
  simp only [Option.bind_some]
/-- Two concords, to which both parts move by the same steps. -/
def par (p q : S85) : Bool := decide (¬ wrap64 (q.f0.f0 - p.f0.f0) = 0) && (decide (wrap64 (q.f0.f0 - p.f0.f0) = wrap64 (q.f1.f0 - p.f1.f0)) && (cp p && cp q))
def padj : List S85 → Nat
  | [] => 0
  | [_] => 0
  | p :: q :: r => (if par p q = true then 1 else 0) + padj (q :: r)
theorem padj_drop (ps : List S85) (i : Nat) (h : i + 1 < ps.length) : padj (ps.drop i) = (if par ps[i] ps[i + 1] = true then 1 else 0) + padj (ps.drop (i + 1)) := by
  rw [List.drop_eq_getElem_cons (show i < ps.length by omega), List.drop_eq_getElem_cons h]
  rfl
theorem padj_end (ps : List S85) (i : Nat) (h : ¬ i + 1 < ps.length) : padj (ps.drop i) = 0 := by
  by_cases hi : i < ps.length
  · rw [List.drop_eq_getElem_cons hi, List.drop_eq_nil_of_le (by omega)]
    rfl
  · rw [List.drop_eq_nil_of_le (by omega)]
    rfl
theorem par_i (ps : List S85) (hv : pvs ps) (hn : ps.length ≤ 24) : ∀ (d i k : Nat) (a : Int), i + 1 + d = ps.length → d + 20 ≤ k → 0 ≤ a → a ≤ i → impl_DiscantParallels.l0 k ps a ((i + 1 : Nat) : Int) = some (a + (padj (ps.drop i) : Nat)) := by
  intro d
  induction d with
  | zero =>
    intro i k a hi hk h0 h1
    obtain ⟨k, rfl⟩ : ∃ m, k = m + 1 := ⟨k - 1, by omega⟩
    simp only [impl_DiscantParallels.l0]
    rw [if_neg (by omega), padj_end ps i (by omega)]
    simp
  | succ d ih =>
    intro i k a hi hk h0 h1
    obtain ⟨k, rfl⟩ : ∃ m, k = m + 1 := ⟨k - 1, by omega⟩
    have hx : i + 1 < ps.length := by omega
    have e1 : wrap64 (((i + 1 : Nat) : Int) - 1) = (i : Int) := by rw [w0 (by omega) (by omega)]; omega
    have hyes := ih (i + 1) k (a + 1) (by omega) (by omega) (by omega) (by omega)
    have hno := ih (i + 1) k a (by omega) (by omega) (by omega) (by omega)
    simp only [impl_DiscantParallels.l0]
    rw [if_pos (by omega), e1, if_pos (by omega), if_pos (by omega), if_pos (by omega), rdp_at ps i (by omega), rdp_at ps (i + 1) hx, padj_drop ps i hx, w1 (by omega)]
    simp only [impl_soundPair_changesTo.f, Option.bind_some]
    rw [ic_at hv i (by omega) k (by omega), ic_at hv (i + 1) hx k (by omega), cAt_eq (show i < ps.length by omega), cAt_eq hx, w0 (i := a + 1) (by omega) (by omega), hyes, hno]
    simp only [Option.bind_some]
    unfold par
    by_cases c1 : wrap64 (ps[i + 1].f0.f0 - ps[i].f0.f0) = 0
    · rw [if_pos c1]
      simp [c1]
    · rw [if_neg c1]
      by_cases c2 : wrap64 (ps[i + 1].f0.f0 - ps[i].f0.f0) = wrap64 (ps[i + 1].f1.f0 - ps[i].f1.f0)
      · rw [if_pos c2, decide_eq_true c1, decide_eq_true c2]
        cases cp ps[i] <;> cases cp ps[i + 1] <;> simp <;> omega
      · rw [if_neg c2, decide_eq_false c2]
        simp
theorem par_s' (l0 l1 : List S44) (ps : List S85) (hn : ps.length ≤ 24) (hB : ∀ k, 13 ≤ k → spec_l8Beats.f k l0 = some (ps.length : Int)) (hM : ∀ (b : Nat) (hb : b + 1 < ps.length) (k : Nat), 12 ≤ k → spec_l8Moves.f k l0 l1 (b : Int) = some (wrap64 (ps[b + 1].f0.f0 - ps[b].f0.f0), wrap64 (ps[b + 1].f1.f0 - ps[b].f1.f0)))
    (hA : ∀ (b : Nat) (hb : b < ps.length) (k : Nat), 12 ≤ k → spec_l8At.f k l0 (b : Int) = some (ps[b].f0.f0, ps[b].f0.f1) ∧ spec_l8At.f k l1 (b : Int) = some (ps[b].f1.f0, ps[b].f1.f1))
    (hC : ∀ (b : Nat) (hb : b < ps.length) (k : Nat), 14 ≤ k → spec_l8Concord.f k ps[b].f0.f0 ps[b].f0.f1 ps[b].f1.f0 ps[b].f1.f1 = some (cp ps[b])) :
    ∀ (d i k : Nat) (a : Int), i + d = ps.length → d + 20 ≤ k → 0 ≤ a → a ≤ i → spec_DiscantParallels.l0 k l0 l1 a (i : Int) = some (a + (padj (ps.drop i) : Nat)) := by
  intro d
  induction d with
  | zero =>
    intro i k a hi hk h0 h1
    obtain ⟨k, rfl⟩ : ∃ m, k = m + 1 := ⟨k - 1, by omega⟩
    simp only [spec_DiscantParallels.l0]
    rw [hB k (by omega), Option.bind_some, w1 (by omega), if_neg (by omega), padj_end _ i (by omega)]
    simp
  | succ d ih =>
    intro i k a hi hk h0 h1
    obtain ⟨k, rfl⟩ : ∃ m, k = m + 1 := ⟨k - 1, by omega⟩
    simp only [spec_DiscantParallels.l0]
    rw [hB k (by omega), Option.bind_some, w1 (by omega)]
    by_cases hx : i + 1 < ps.length
    · have hyes := ih (i + 1) k (a + 1) (by omega) (by omega) (by omega) (by omega)
      have hno := ih (i + 1) k a (by omega) (by omega) (by omega) (by omega)
      obtain ⟨a0, a1⟩ := hA i (by omega) k (by omega)
      obtain ⟨b0, b1⟩ := hA (i + 1) hx k (by omega)
      rw [if_pos (by omega), hM i hx k (by omega), padj_drop _ i hx, Option.bind_some]
      dsimp only
      rw [a0, a1, b0, b1]
      simp only [Option.bind_some]
      rw [hC i (by omega) k (by omega), hC (i + 1) hx k (by omega), w0 (i := a + 1) (by omega) (by omega), hyes, hno]
      simp only [Option.bind_some]
      unfold par
      by_cases c1 : wrap64 (ps[i + 1].f0.f0 - ps[i].f0.f0) = 0
      · rw [if_pos c1]
        simp [c1]
      · rw [if_neg c1]
        by_cases c2 : wrap64 (ps[i + 1].f0.f0 - ps[i].f0.f0) = wrap64 (ps[i + 1].f1.f0 - ps[i].f1.f0)
        · rw [if_pos c2, decide_eq_true c1, decide_eq_true c2]
          cases cp ps[i] <;> cases cp ps[i + 1] <;> simp <;> omega
        · rw [if_neg c2, decide_eq_false c2]
          simp
    · rw [if_neg (by omega), padj_end _ i hx]
      simp
def PN (l0 l1 : List S44) : Int := if TG l0 l1 = true then (padj (PS l0 l1) : Nat) else -1
theorem pni_f (l0 l1 : List S44) (k : Nat) (hk : 60 ≤ k) : impl_DiscantParallels.f k l0 l1 = some (PN l0 l1) := by
  unfold impl_DiscantParallels.f PN
  rw [so_f l0 l1 k (by omega)]
  simp only [Option.bind_some]
  by_cases h : TG l0 l1 = true
  · rw [if_pos h, if_pos h, if_pos rfl]
    by_cases hz : (PS l0 l1).length = 0
    · have e : PS l0 l1 = [] := List.length_eq_zero_iff.mp hz
      obtain ⟨k, rfl⟩ : ∃ m, k = m + 1 := ⟨k - 1, by omega⟩
      simp only [impl_DiscantParallels.l0, e]
      rfl
    · have hn := PS_bd h
      simpa using par_i (PS l0 l1) (PS_pv h) hn ((PS l0 l1).length - 1) 0 k 0 (by omega) (by omega) (by omega) (by omega)
  · rw [if_neg h, if_neg h]
    rfl
theorem pns_f (l0 l1 : List S44) (hb0 : l0.length ≤ 1048576) (hb1 : l1.length ≤ 1048576) (k : Nat) (hk : l0.length + l1.length + 60 < k) : spec_DiscantParallels.f k l0 l1 = some (PN l0 l1) := by
  unfold spec_DiscantParallels.f PN
  rw [tg_f l0 l1 hb0 hb1 k (by omega)]
  simp only [Option.bind_some]
  by_cases h : TG l0 l1 = true
  · rw [if_pos h, if_pos h]
    have hn := PS_bd h
    have := par_s' l0 l1 (PS l0 l1) hn (fun k hk => beats_tg h k hk) (fun b hb k hk => moves_f h b hb k hk) (fun b hb k hk => PS_at h b hb k hk) (fun b hb k hk => by rw [sc_at h b hb k hk, cAt_eq hb]) (PS l0 l1).length 0 k 0 (by omega) (by omega) (by omega) (by omega)
    simpa using this
  · rw [if_neg h, if_neg h]
def opp (p q : S85) : Bool := decide (wrap64 (wrap64 (q.f0.f0 - p.f0.f0) * wrap64 (q.f1.f0 - p.f1.f0)) < 0)
def adj : List S85 → Nat
  | [] => 0
  | [_] => 0
  | p :: q :: r => (if opp p q = true then 1 else 0) + adj (q :: r)
theorem adj_drop (ps : List S85) (i : Nat) (h : i + 1 < ps.length) : adj (ps.drop i) = (if opp ps[i] ps[i + 1] = true then 1 else 0) + adj (ps.drop (i + 1)) := by
  rw [List.drop_eq_getElem_cons (show i < ps.length by omega), List.drop_eq_getElem_cons h]
  rfl
theorem adj_end (ps : List S85) (i : Nat) (h : ¬ i + 1 < ps.length) : adj (ps.drop i) = 0 := by
  by_cases hi : i < ps.length
  · rw [List.drop_eq_getElem_cons hi, List.drop_eq_nil_of_le (by omega)]
    rfl
  · rw [List.drop_eq_nil_of_le (by omega)]
    rfl
theorem contr_i (ps : List S85) (hn : ps.length ≤ 24) : ∀ (d i k : Nat) (a : Int), i + 1 + d = ps.length → d < k → 0 ≤ a → a ≤ i → impl_DiscantContrary.l0 k ps a ((i + 1 : Nat) : Int) = some (a + (adj (ps.drop i) : Nat)) := by
  intro d
  induction d with
  | zero =>
    intro i k a hi hk h0 h1
    obtain ⟨k, rfl⟩ : ∃ m, k = m + 1 := ⟨k - 1, by omega⟩
    simp only [impl_DiscantContrary.l0]
    rw [if_neg (by omega), adj_end ps i (by omega)]
    simp
  | succ d ih =>
    intro i k a hi hk h0 h1
    obtain ⟨k, rfl⟩ : ∃ m, k = m + 1 := ⟨k - 1, by omega⟩
    have hx : i + 1 < ps.length := by omega
    have e1 : wrap64 (((i + 1 : Nat) : Int) - 1) = (i : Int) := by rw [w0 (by omega) (by omega)]; omega
    simp only [impl_DiscantContrary.l0]
    rw [if_pos (by omega), e1, if_pos (by omega), if_pos (by omega), if_pos (by omega), rdp_at ps i (by omega), rdp_at ps (i + 1) hx, adj_drop ps i hx, w1 (by omega)]
    simp only [impl_soundPair_changesTo.f, Option.bind_some]
    by_cases c : wrap64 (wrap64 (ps[i + 1].f0.f0 - ps[i].f0.f0) * wrap64 (ps[i + 1].f1.f0 - ps[i].f1.f0)) < 0
    · have e : opp ps[i] ps[i + 1] = true := decide_eq_true c
      rw [if_pos c, w0 (by omega) (by omega), ih (i + 1) k _ (by omega) (by omega) (by omega) (by omega), if_pos e]
      congr 1
      omega
    · have e : ¬ opp ps[i] ps[i + 1] = true := by unfold opp; rw [decide_eq_false c]; simp
      rw [if_neg c, ih (i + 1) k _ (by omega) (by omega) (by omega) (by omega), if_neg e]
      simp
def CN (l0 l1 : List S44) : Int := if TG l0 l1 = true then (adj (PS l0 l1) : Nat) else -1
theorem cni_f (l0 l1 : List S44) (k : Nat) (hk : 40 ≤ k) : impl_DiscantContrary.f k l0 l1 = some (CN l0 l1) := by
  unfold impl_DiscantContrary.f CN
  rw [so_f l0 l1 k (by omega)]
  simp only [Option.bind_some]
  by_cases h : TG l0 l1 = true
  · rw [if_pos h, if_pos h, if_pos rfl]
    by_cases hz : (PS l0 l1).length = 0
    · have e : PS l0 l1 = [] := List.length_eq_zero_iff.mp hz
      obtain ⟨k, rfl⟩ : ∃ m, k = m + 1 := ⟨k - 1, by omega⟩
      simp only [impl_DiscantContrary.l0, e]
      rfl
    · simpa using contr_i (PS l0 l1) (PS_bd h) ((PS l0 l1).length - 1) 0 k 0 (by omega) (by have := PS_bd h; omega) (by omega) (by omega)
  · rw [if_neg h, if_neg h]
    rfl
def swp (p : S85) : S85 := ⟨p.f1, p.f0⟩
theorem pairs_swap (xs : List S30) : ∀ ys : List S30, pairs ys xs = (pairs xs ys).map swp := by
  induction xs with
  | nil => intro ys; cases ys <;> rfl
  | cons x xs ih =>
    intro ys
    cases ys with
    | nil => rfl
    | cons y ys =>
      have := ih ys
      unfold pairs at this ⊢
      rw [List.zipWith_cons_cons, List.zipWith_cons_cons, this]
      rfl
theorem TG_swap {a b : List S44} (h : TG a b = true) : TG b a = true := by
  unfold TG
  rw [TG_0 h, TG_1 h, TG_2 h]
  simp
theorem TG_refl {a : List S44} (h : PV a = true) : TG a a = true := by
  unfold TG
  rw [h]
  simp
theorem cc_sym_fin : ∀ b d : Bool, ∀ n : Nat, n < 21 → ∀ m : Nat, m < 21 → (if (tv (n : Int) b && tv (m : Int) d) = true then decide (CC (m : Int) d (n : Int) b = CC (n : Int) b (m : Int) d) else true) = true := by decide +kernel
theorem cc_self_fin : ∀ b : Bool, ∀ n : Nat, n < 21 → (if tv (n : Int) b = true then CC (n : Int) b (n : Int) b else true) = true := by decide +kernel
theorem cc_up_fin : ∀ b d : Bool, ∀ n : Nat, n < 21 → ∀ m : Nat, m < 14 → (if (tv (n : Int) b && tv (m : Int) d) = true then decide (CC (n : Int) b ((m + 7 : Nat) : Int) d = CC (n : Int) b (m : Int) d) else true) = true := by decide +kernel
theorem tv_nat {a : Int} {b : Bool} (h : tv a b = true) : ∃ n : Nat, a = (n : Int) ∧ n < 21 := by
  unfold tv at h
  simp only [Bool.and_eq_true, decide_eq_true_eq] at h
  obtain ⟨n, rfl⟩ := Int.eq_ofNat_of_zero_le h.1
  exact ⟨n, rfl, by omega⟩
theorem cc_sym {a c : Int} {b d : Bool} (h1 : tv a b = true) (h2 : tv c d = true) : CC c d a b = CC a b c d := by
  obtain ⟨n, rfl, hn⟩ := tv_nat h1
  obtain ⟨m, rfl, hm⟩ := tv_nat h2
  have := cc_sym_fin b d n hn m hm
  rw [h1, h2, if_pos (by rfl)] at this
  exact of_decide_eq_true this
theorem cc_self {a : Int} {b : Bool} (h1 : tv a b = true) : CC a b a b = true := by
  obtain ⟨n, rfl, hn⟩ := tv_nat h1
  have := cc_self_fin b n hn
  rw [h1, if_pos rfl] at this
  exact this
theorem cc_up {a c : Int} {b d : Bool} (h1 : tv a b = true) (h2 : tv c d = true) (h3 : c + 7 ≤ 20) : CC a b (c + 7) d = CC a b c d := by
  obtain ⟨n, rfl, hn⟩ := tv_nat h1
  obtain ⟨m, rfl, hm⟩ := tv_nat h2
  have := cc_up_fin b d n hn m (by omega)
  rw [h1, h2, if_pos (by rfl)] at this
  exact of_decide_eq_true this
theorem cp_swap {p : S85} (h : pv p) : cp (swp p) = cp p := cc_sym h.1 h.2
theorem pv_swap {p : S85} (h : pv p) : pv (swp p) := ⟨h.2, h.1⟩
theorem cAt_swap {a b : List S44} (h : TG a b = true) (i : Nat) (hi : i < (PS a b).length) : cAt (PS b a) i = cAt (PS a b) i := by
  have e : PS b a = (PS a b).map swp := by unfold PS; rw [pairs_swap]
  have hi2 : i < (PS b a).length := by rw [e]; simpa using hi
  rw [cAt_eq hi, cAt_eq hi2]
  have e2 : (PS b a)[i] = swp (PS a b)[i] := by simp [e]
  rw [e2, cp_swap (PS_pv h _ (List.getElem_mem hi))]
theorem PS_len_swap (a b : List S44) : (PS b a).length = (PS a b).length := by
  unfold PS
  rw [pairs_swap]
  simp
theorem cAt_self {a : List S44} (h : PV a = true) (i : Nat) (hi : i < (PS a a).length) : cAt (PS a a) i = true := by
  have hp := PS_pv (TG_refl h) _ (List.getElem_mem hi)
  rw [cAt_eq hi]
  have e : (PS a a)[i].f1 = (PS a a)[i].f0 := by simp [PS, pairs]
  unfold cp
  rw [e]
  exact cc_self hp.1
/-- How often a tone's step differs from the one ahead of it. -/
def chg : List S30 → Nat
  | [] => 0
  | [_] => 0
  | x :: y :: r => (if x.f0 = y.f0 then 0 else 1) + chg (y :: r)
theorem padj_le : ∀ ps : List S85, padj ps ≤ ps.length - 1
  | [] => by simp [padj]
  | [_] => by simp [padj]
  | p :: q :: r => by
    have := padj_le (q :: r)
    simp only [padj, List.length_cons] at this ⊢
    split <;> omega
theorem par_swap {p q : S85} (hp : pv p) (hq : pv q) : par (swp p) (swp q) = par p q := by
  unfold par
  rw [cp_swap hp, cp_swap hq]
  show (decide (¬ wrap64 (q.f1.f0 - p.f1.f0) = 0) && (decide (wrap64 (q.f1.f0 - p.f1.f0) = wrap64 (q.f0.f0 - p.f0.f0)) && (cp p && cp q))) = _
  generalize wrap64 (q.f1.f0 - p.f1.f0) = x
  generalize wrap64 (q.f0.f0 - p.f0.f0) = y
  by_cases h : x = y
  · rw [h]
  · rw [decide_eq_false h, decide_eq_false (show ¬ y = x from fun e => h e.symm)]
    simp
theorem padj_swap : ∀ ps : List S85, pvs ps → padj (ps.map swp) = padj ps
  | [], _ => rfl
  | [_], _ => rfl
  | p :: q :: r, h => by
    have ih := padj_swap (q :: r) (fun x hx => h x (List.mem_cons_of_mem _ hx))
    simp only [List.map_cons, padj] at ih ⊢
    rw [ih, par_swap (h p (List.mem_cons_self ..)) (h q (List.mem_cons_of_mem _ (List.mem_cons_self ..)))]
theorem PN_swap {a b : List S44} (h : TG a b = true) : PN b a = PN a b := by
  unfold PN
  rw [if_pos h, if_pos (TG_swap h)]
  have e : PS b a = (PS a b).map swp := by unfold PS; rw [pairs_swap]
  rw [e, padj_swap _ (PS_pv h)]
theorem tv_rng {a : Int} {b : Bool} (h : tv a b = true) : 0 ≤ a ∧ a ≤ 20 := by
  obtain ⟨n, rfl, hn⟩ := tv_nat h
  omega
theorem padj_self : ∀ xs : List S30, (∀ t ∈ xs, tv t.f0 t.f1 = true) → padj (pairs xs xs) = chg xs
  | [], _ => rfl
  | [_], _ => rfl
  | x :: y :: r, h => by
    have ih := padj_self (y :: r) (fun t ht => h t (List.mem_cons_of_mem _ ht))
    have hx := h x (List.mem_cons_self ..)
    have hy := h y (List.mem_cons_of_mem _ (List.mem_cons_self ..))
    have e : pairs (x :: y :: r) (x :: y :: r) = ⟨x, x⟩ :: ⟨y, y⟩ :: pairs r r := rfl
    have e2 : pairs (y :: r) (y :: r) = ⟨y, y⟩ :: pairs r r := rfl
    rw [e2] at ih
    rw [e, padj, ih, chg]
    have bx := tv_rng hx
    have by_ := tv_rng hy
    have hc : par (⟨x, x⟩ : S85) ⟨y, y⟩ = decide (¬ x.f0 = y.f0) := by
      unfold par cp
      show (decide (¬ wrap64 (y.f0 - x.f0) = 0) && (decide (wrap64 (y.f0 - x.f0) = wrap64 (y.f0 - x.f0)) && (CC x.f0 x.f1 x.f0 x.f1 && CC y.f0 y.f1 y.f0 y.f1))) = _
      rw [cc_self hx, cc_self hy, w0 (i := y.f0 - x.f0) (by omega) (by omega)]
      by_cases c : x.f0 = y.f0
      · have e0 : y.f0 - x.f0 = 0 := by omega
        simp [e0, c]
      · have e0 : ¬ y.f0 - x.f0 = 0 := by omega
        simp [e0, c]
    rw [hc]
    by_cases c : x.f0 = y.f0
    · rw [if_pos c, if_neg (by simp [c])]
    · rw [if_neg c, if_pos (decide_eq_true c)]
theorem sq_nn {z : Int} (h1 : -20 ≤ z) (h2 : z ≤ 20) : 0 ≤ z * z ∧ z * z ≤ 400 := by
  by_cases hs : 0 ≤ z
  · exact ⟨Int.mul_nonneg hs hs, Int.mul_le_mul h2 h2 hs (by omega)⟩
  · have e : z * z = (-z) * (-z) := by rw [Int.neg_mul_neg]
    rw [e]
    exact ⟨Int.mul_nonneg (show 0 ≤ -z by omega) (show 0 ≤ -z by omega), Int.mul_le_mul (show -z ≤ 20 by omega) (show -z ≤ 20 by omega) (show 0 ≤ -z by omega) (show (0 : Int) ≤ 20 by omega)⟩
/-- Parallel or contrary motion: the first part changes; never both. -/
theorem par_opp {p q : S85} (hp : pv p) (hq : pv q) : (if par p q = true then 1 else 0) + (if opp p q = true then 1 else 0) ≤ (if p.f0.f0 = q.f0.f0 then 0 else 1 : Nat) := by
  have b1 := tv_rng hp.1
  have b2 := tv_rng hp.2
  have b3 := tv_rng hq.1
  have b4 := tv_rng hq.2
  unfold par opp
  rw [w0 (i := q.f0.f0 - p.f0.f0) (by omega) (by omega), w0 (i := q.f1.f0 - p.f1.f0) (by omega) (by omega)]
  by_cases c : p.f0.f0 = q.f0.f0
  · have e : q.f0.f0 - p.f0.f0 = 0 := by omega
    rw [e, Int.zero_mul, if_pos c]
    simp [wrap64]
  · rw [if_neg c]
    by_cases d : q.f0.f0 - p.f0.f0 = q.f1.f0 - p.f1.f0
    · rw [← d]
      have := sq_nn (z := q.f0.f0 - p.f0.f0) (by omega) (by omega)
      rw [w0 (by omega) (by omega), if_neg (show ¬ decide ((q.f0.f0 - p.f0.f0) * (q.f0.f0 - p.f0.f0) < 0) = true by rw [decide_eq_false (by omega)]; decide)]
      split <;> omega
    · rw [decide_eq_false d]
      simp only [Bool.false_and, Bool.and_false, Bool.false_eq_true, if_false, Nat.zero_add]
      split <;> omega
theorem par_adj : ∀ xs ys : List S30, (∀ t ∈ xs, tv t.f0 t.f1 = true) → (∀ t ∈ ys, tv t.f0 t.f1 = true) → padj (pairs xs ys) + adj (pairs xs ys) ≤ chg xs
  | [], _, _, _ => by simp [pairs, padj, adj]
  | [_], [], _, _ => by simp [pairs, padj, adj]
  | [x], y :: r, _, _ => by
    have e : pairs [x] (y :: r) = [⟨x, y⟩] := by simp [pairs]
    rw [e]
    simp [padj, adj, chg]
  | _ :: _ :: _, [], _, _ => by simp [pairs, padj, adj]
  | x :: x' :: r, [y], _, _ => by
    have e : pairs (x :: x' :: r) [y] = [⟨x, y⟩] := by simp [pairs]
    rw [e]
    simp [padj, adj]
  | x :: x' :: r, y :: y' :: s, hx, hy => by
    have ih := par_adj (x' :: r) (y' :: s) (fun t ht => hx t (List.mem_cons_of_mem _ ht)) (fun t ht => hy t (List.mem_cons_of_mem _ ht))
    have e : pairs (x :: x' :: r) (y :: y' :: s) = ⟨x, y⟩ :: ⟨x', y'⟩ :: pairs r s := rfl
    have e2 : pairs (x' :: r) (y' :: s) = ⟨x', y'⟩ :: pairs r s := rfl
    have h1 := par_opp (p := ⟨x, y⟩) (q := ⟨x', y'⟩) ⟨hx x (List.mem_cons_self ..), hy y (List.mem_cons_self ..)⟩ ⟨hx x' (List.mem_cons_of_mem _ (List.mem_cons_self ..)), hy y' (List.mem_cons_of_mem _ (List.mem_cons_self ..))⟩
    rw [e2] at ih
    rw [e, padj, adj, chg]
    simp only at h1
    omega
def PA (l : List S44) (a : Int) : Int × Bool × Bool := if PV l = true then (if 0 ≤ a then (if a < ((expand l).length : Int) then (((expand l).getD a.toNat z30).f0, ((expand l).getD a.toNat z30).f1, true) else (0, false, false)) else (0, false, false)) else (0, false, false)
theorem pai_f (l : List S44) (a : Int) (k : Nat) (hk : 13 ≤ k) : impl_PartAt.f k l a = some (PA l a) := by
  unfold impl_PartAt.f PA
  rw [pvi_f l k hk]
  rfl
theorem PA_in' {a : List S44} (h : PV a = true) (j : Nat) (hj : j < (expand a).length) : PA a (j : Int) = ((expand a)[j].f0, (expand a)[j].f1, true) := by
  unfold PA
  rw [if_pos h, if_pos (by omega), if_pos (by omega)]
  simp [List.getD_eq_getElem?_getD, hj]
theorem pbi_f (l : List S44) (k : Nat) (hk : 13 ≤ k) : impl_PartBeats.f k l = some (PB l) := by
  unfold impl_PartBeats.f PB
  rw [pvi_f l k hk]
  simp only [Option.bind_some]
  by_cases h : PV l = true
  · rw [if_pos h, if_pos h, expand_sum l (PV_all h)]
  · rw [if_neg h, if_neg h]
theorem xor_nn (a b : Int) (ha : 0 ≤ a) (ha' : a < 4611686018427387904) (hb : 0 ≤ b) (hb' : b < 4611686018427387904) : 0 ≤ Go.bits .xor .i64 a b := by
  obtain ⟨x, rfl⟩ := Int.eq_ofNat_of_zero_le ha
  obtain ⟨y, rfl⟩ := Int.eq_ofNat_of_zero_le hb
  have hx : x ^^^ y < 2 ^ 62 := Nat.xor_lt_two_pow (by omega) (by omega)
  have h1 : (BitVec.ofInt 64 (x : Int)).toNat = x := by
    rw [BitVec.ofInt_natCast, BitVec.toNat_ofNat]; exact Nat.mod_eq_of_lt (by omega)
  have h2 : (BitVec.ofInt 64 (y : Int)).toNat = y := by
    rw [BitVec.ofInt_natCast, BitVec.toNat_ofNat]; exact Nat.mod_eq_of_lt (by omega)
  have e : Go.bits .xor .i64 (x : Int) (y : Int) = IntKind.i64.wrap (((x ^^^ y : Nat)) : Int) := by
    show IntKind.i64.wrap ((BitVec.ofInt 64 (x : Int) ^^^ BitVec.ofInt 64 (y : Int)).toNat : Int) = _
    rw [BitVec.toNat_xor, h1, h2]
  rw [e, IntWalk.i64_in _ (by omega)]
  omega
/-- A list of bytes. -/
def Bytes (l : List Int) : Prop := ∀ n ∈ l, 0 ≤ n ∧ n ≤ 255
theorem rd_byte {l : List Int} (h : Bytes l) (i : Int) (h0 : 0 ≤ i) (h1 : i < (l.length : Int)) : 0 ≤ rd l i ∧ rd l i ≤ 255 := by
  obtain ⟨n, rfl⟩ := Int.eq_ofNat_of_zero_le h0
  have hn : n < l.length := by omega
  rw [rd_at l n hn]
  exact h _ (List.getElem_mem hn)
theorem tm_bd (a n : Int) (ha : 0 ≤ a) (hn : 0 < n) : 0 ≤ Int.tmod a n ∧ Int.tmod a n < n := by
  rw [Int.tmod_eq_emod_of_nonneg ha]
  exact ⟨Int.emod_nonneg _ (by omega), Int.emod_lt_of_pos _ hn⟩
theorem td_bd (a n : Int) (ha : 0 ≤ a) (hn : 0 < n) : 0 ≤ Int.tdiv a n ∧ Int.tdiv a n ≤ a := by
  rw [Int.tdiv_eq_ediv_of_nonneg ha]
  exact ⟨Int.ediv_nonneg ha (by omega), Int.ediv_le_self _ ha⟩
theorem pick_some (l : List Int) (hl : Bytes l) (hn : l.length ≤ 2000) (p n : Int) (hp : 0 ≤ p) (hp' : p ≤ 1000000) (h1 : 1 ≤ n) (h2 : n ≤ 1000000) :
    ∃ v, 0 ≤ v ∧ v < n ∧ ∀ k, spec_l6Rd_pick.f (k + 1) l p n = some (v, p + 1) := by
  unfold spec_l6Rd_pick.f
  simp only [spec_l6Rd_pick.j0]
  rw [if_neg (show ¬ n < 1 by omega), w0 (i := p + 1) (by omega) (by omega), show p + 1 - 1 = p by omega, w0 (i := p) (by omega) (by omega)]
  by_cases hl0 : l.length = 0
  · refine ⟨0, by omega, by omega, fun k => ?_⟩
    rw [if_pos (show ((l.length : Int) == 0) = true by rw [hl0]; rfl)]
  · rw [if_neg (show ¬ (((l.length : Int) == 0) = true) from fun h => hl0 (by have := beq_iff_eq.1 h; omega))]
    have hlp : (0 : Int) < (l.length : Int) := by omega
    by_cases hpl : p < (l.length : Int)
    · obtain ⟨b0, b1⟩ := rd_byte hl p hp hpl
      rw [if_pos hpl, if_pos hp, if_neg (show ¬ n = 0 by omega), w0 (i := rd l p) (by omega) (by omega)]
      obtain ⟨t0, t1⟩ := tm_bd (rd l p) n b0 (by omega)
      exact ⟨_, t0, t1, fun _ => rfl⟩
    · rw [if_neg hpl, if_neg (show ¬ (l.length : Int) = 0 by omega), w0 (i := p * 7) (by omega) (by omega), w0 (i := p * 7 + 3) (by omega) (by omega)]
      obtain ⟨i0, i1⟩ := tm_bd p (l.length : Int) hp hlp
      obtain ⟨j0, j1⟩ := tm_bd (p * 7 + 3) (l.length : Int) (by omega) hlp
      obtain ⟨q0, q1⟩ := td_bd p (l.length : Int) hp hlp
      rw [if_pos i0, if_pos i1, if_pos j0, if_pos j1, if_neg (show ¬ n = 0 by omega)]
      obtain ⟨a0, a1⟩ := rd_byte hl _ i0 i1
      obtain ⟨b0, b1⟩ := rd_byte hl _ j0 j1
      generalize rd l (Int.tmod p (l.length : Int)) = a at a0 a1 ⊢
      generalize rd l (Int.tmod (p * 7 + 3) (l.length : Int)) = b at b0 b1 ⊢
      generalize Int.tdiv p (l.length : Int) = q at q0 q1 ⊢
      simp (disch := omega) only [w0]
      have x0 : 0 ≤ a * 131 + b * 1117 + p * 29 + q * 53 := by omega
      obtain ⟨d0, d1⟩ := td_bd (a * 131 + b * 1117 + p * 29 + q * 53) 64 x0 (by omega)
      rw [w0 (i := Int.tdiv (a * 131 + b * 1117 + p * 29 + q * 53) 64) (by omega) (by omega)]
      obtain ⟨t0, t1⟩ := tm_bd (Go.bits .xor .i64 (a * 131 + b * 1117 + p * 29 + q * 53) (Int.tdiv (a * 131 + b * 1117 + p * 29 + q * 53) 64)) n (xor_nn _ _ x0 (by omega) d0 (by omega)) (by omega)
      exact ⟨_, t0, t1, fun _ => rfl⟩
/-- What a reader's pick answers. -/
def pk (l : List Int) (p n : Int) : Int := ((spec_l6Rd_pick.f 1 l p n).getD (0, 0)).1
structure Rdr (l : List Int) : Prop where
  bytes : Bytes l
  len : l.length ≤ 2000
theorem pk_f {l : List Int} (h : Rdr l) (p n : Int) (k : Nat) (hp : 0 ≤ p) (hp' : p ≤ 1000000) (h1 : 1 ≤ n) (h2 : n ≤ 1000000) (hk : 1 ≤ k) : spec_l6Rd_pick.f k l p n = some (pk l p n, p + 1) := by
  obtain ⟨v, _, _, hv⟩ := pick_some l h.bytes h.len p n hp hp' h1 h2
  unfold pk
  rw [hv 0]
  obtain ⟨k, rfl⟩ : ∃ m, k = m + 1 := ⟨k - 1, by omega⟩
  rw [hv k]
  rfl
theorem pk_bd {l : List Int} (h : Rdr l) (p n : Int) (hp : 0 ≤ p) (hp' : p ≤ 1000000) (h1 : 1 ≤ n) (h2 : n ≤ 1000000) : 0 ≤ pk l p n ∧ pk l p n < n := by
  obtain ⟨v, h3, h4, hv⟩ := pick_some l h.bytes h.len p n hp hp' h1 h2
  unfold pk
  rw [hv 0]
  exact ⟨h3, h4⟩
theorem open_f (l : List Int) (hl : Bytes l) : ∃ s, spec_l6Open.f l = some (s, 0) ∧ Rdr s := by
  unfold spec_l6Open.f
  by_cases h : (l.length : Int) > 2000
  · rw [if_pos h, if_pos (by omega)]
    exact ⟨_, rfl, ⟨fun n hn => hl n (List.mem_of_mem_take hn), by simp; omega⟩⟩
  · rw [if_neg h]
    exact ⟨_, rfl, ⟨hl, by omega⟩⟩
theorem bytes_of {l : List Int} (h : ∀ n ∈ l, (Lit.int .u8 n).wf = true) : Bytes l := fun n hn => by
  have := h n hn
  simp [Lit.wf, IntKind.min, IntKind.max, IntKind.signed, IntKind.bits] at this
  omega
theorem letter_f (a : Int) : spec_l1Letter.f a = some (Int.tmod a 7) := rfl
theorem clamp_bd (a b x : Int) (h : a ≤ b) : a ≤ mx a (mn b x) ∧ mx a (mn b x) ≤ b := by
  unfold mx mn
  constructor <;> (repeat' split) <;> omega
theorem part_end (l : List Int) (h : Rdr l) (acc : List S44) (x1 x6 p : Int) (ha : acc.length ≤ 12) (hp : 0 ≤ p) (hp' : p ≤ 100000) :
    ∃ out q, out.length ≤ 12 ∧ p ≤ q ∧ q ≤ p + 2 ∧ ∀ k, 2 ≤ k → spec_l92Part.j1 k x1 acc x6 false l p = some (out, q) := by
  by_cases h0 : acc.length = 0
  · refine ⟨acc, p, ha, by omega, by omega, fun k hk => ?_⟩
    obtain ⟨k, rfl⟩ : ∃ m, k = m + 1 := ⟨k - 1, by omega⟩
    rw [spec_l92Part.j1, if_neg (by decide), if_neg (by omega)]
  · by_cases h1 : pk l p 50 = 0
    · obtain ⟨v0, v1⟩ := pk_bd h (p + 1) 2 (by omega) (by omega) (by omega) (by omega)
      refine ⟨acc.set (0 : Int).toNat ⟨⟨(rd_T44 acc 0).f0.f0, (rd_T44 acc 0).f0.f1⟩, rd ([0, 4] : List Int) (pk l (p + 1) 2)⟩, p + 1 + 1, by simp; omega, by omega, by omega, fun k hk => ?_⟩
      obtain ⟨k, rfl⟩ : ∃ m, k = m + 1 := ⟨k - 1, by omega⟩
      rw [spec_l92Part.j1, if_neg (by decide), if_pos (by omega), pk_f h p 50 k (by omega) (by omega) (by omega) (by omega) (by omega)]
      simp only [Option.bind_some]
      rw [if_pos h1, pk_f h (p + 1) 2 k (by omega) (by omega) (by omega) (by omega) (by omega)]
      simp only [Option.bind_some]
      rw [if_pos v0, if_pos (by simpa using v1), if_pos (by omega)]
    · by_cases h2 : pk l p 50 = 1
      · refine ⟨acc.set (0 : Int).toNat ⟨⟨21, (rd_T44 acc 0).f0.f1⟩, (rd_T44 acc 0).f1⟩, p + 1, by simp; omega, by omega, by omega, fun k hk => ?_⟩
        obtain ⟨k, rfl⟩ : ∃ m, k = m + 1 := ⟨k - 1, by omega⟩
        rw [spec_l92Part.j1, if_neg (by decide), if_pos (by omega), pk_f h p 50 k (by omega) (by omega) (by omega) (by omega) (by omega)]
        simp only [Option.bind_some]
        rw [if_neg h1, if_pos h2, if_pos (by omega)]
      · refine ⟨acc, p + 1, ha, by omega, by omega, fun k hk => ?_⟩
        obtain ⟨k, rfl⟩ : ∃ m, k = m + 1 := ⟨k - 1, by omega⟩
        rw [spec_l92Part.j1, if_neg (by decide), if_pos (by omega), pk_f h p 50 k (by omega) (by omega) (by omega) (by omega) (by omega)]
        simp only [Option.bind_some]
        rw [if_neg h1, if_neg h2]
theorem part_l0 (l : List Int) (h : Rdr l) : ∀ (d : Nat) (acc : List S44) (x1 x6 p : Int), acc.length + d = 12 → 0 ≤ x1 → x1 ≤ 1000 → 0 ≤ x6 → x6 ≤ 20 → 0 ≤ p → p ≤ 10000 + 3 * acc.length →
    ∃ out q, out.length ≤ 12 ∧ p ≤ q ∧ q ≤ p + 3 * d + 2 ∧ ∀ k, 2 * d + 4 ≤ k → spec_l92Part.l0 k x1 acc x6 l p = some (out, q) := by
  intro d
  induction d with
  | zero =>
    intro acc x1 x6 p ha h0 h1 h2 h3 hp hp'
    obtain ⟨out, q, ho, q0, q1, hq⟩ := part_end l h acc x1 x6 p (by omega) hp (by omega)
    refine ⟨out, q, ho, q0, by omega, fun k hk => ?_⟩
    obtain ⟨k, rfl⟩ : ∃ m, k = m + 1 := ⟨k - 1, by omega⟩
    rw [spec_l92Part.l0, decide_eq_false (show ¬ (acc.length : Int) < 12 by omega)]
    split
    · exact hq k (by omega)
    · exact hq k (by omega)
  | succ d ih =>
    intro acc x1 x6 p ha h0 h1 h2 h3 hp hp'
    by_cases hx1 : x1 > 0
    · have hmn : 1 ≤ mn 3 x1 ∧ mn 3 x1 ≤ 3 ∧ mn 3 x1 ≤ x1 := by
        unfold mn
        split <;> omega
      obtain ⟨n0, n1⟩ := pk_bd h p (mn 3 x1) (by omega) (by omega) (by omega) (by omega)
      have hn := fun k (hk : 1 ≤ k) => pk_f h p (mn 3 x1) k (by omega) (by omega) (by omega) (by omega) hk
      by_cases hx : Int.tmod x6 7 = 2
      · obtain ⟨v0, v1⟩ := pk_bd h (p + 1 + 1) 5 (by omega) (by omega) (by omega) (by omega)
        obtain ⟨c0, c1⟩ := clamp_bd 1 16 (x6 + pk l (p + 1 + 1) 5 - 2) (by omega)
        obtain ⟨out, q, ho, q0, q1, hq⟩ := ih (acc ++ [⟨⟨x6, pk l (p + 1) 3 == 0⟩, 1 + pk l p (mn 3 x1)⟩]) (x1 - (1 + pk l p (mn 3 x1))) (mx 1 (mn 16 (x6 + pk l (p + 1 + 1) 5 - 2))) (p + 1 + 1 + 1) (by simp; omega) (by omega) (by omega) (by omega) (by omega) (by omega) (by simp; omega)
        refine ⟨out, q, ho, by omega, by omega, fun k hk => ?_⟩
        obtain ⟨k, rfl⟩ : ∃ m, k = m + 2 := ⟨k - 2, by omega⟩
        rw [spec_l92Part.l0, if_pos hx1, decide_eq_true (show (acc.length : Int) < 12 by omega), spec_l92Part.j1, if_pos rfl, hn k (by omega)]
        simp only [Option.bind_some]
        rw [letter_f]
        simp only [Option.bind_some]
        rw [if_pos hx, pk_f h (p + 1) 3 k (by omega) (by omega) (by omega) (by omega) (by omega)]
        simp only [Option.bind_some]
        rw [if_pos (by omega), pk_f h (p + 1 + 1) 5 k (by omega) (by omega) (by omega) (by omega) (by omega)]
        simp only [Option.bind_some]
        rw [w0 (i := 1 + pk l p (mn 3 x1)) (by omega) (by omega), w0 (i := x1 - (1 + pk l p (mn 3 x1))) (by omega) (by omega), w0 (i := x6 + pk l (p + 1 + 1) 5) (by omega) (by omega), w0 (i := x6 + pk l (p + 1 + 1) 5 - 2) (by omega) (by omega)]
        exact hq k (by omega)
      · obtain ⟨v0, v1⟩ := pk_bd h (p + 1) 5 (by omega) (by omega) (by omega) (by omega)
        obtain ⟨c0, c1⟩ := clamp_bd 1 16 (x6 + pk l (p + 1) 5 - 2) (by omega)
        obtain ⟨out, q, ho, q0, q1, hq⟩ := ih (acc ++ [⟨⟨x6, false⟩, 1 + pk l p (mn 3 x1)⟩]) (x1 - (1 + pk l p (mn 3 x1))) (mx 1 (mn 16 (x6 + pk l (p + 1) 5 - 2))) (p + 1 + 1) (by simp; omega) (by omega) (by omega) (by omega) (by omega) (by omega) (by simp; omega)
        refine ⟨out, q, ho, by omega, by omega, fun k hk => ?_⟩
        obtain ⟨k, rfl⟩ : ∃ m, k = m + 2 := ⟨k - 2, by omega⟩
        rw [spec_l92Part.l0, if_pos hx1, decide_eq_true (show (acc.length : Int) < 12 by omega), spec_l92Part.j1, if_pos rfl, hn k (by omega)]
        simp only [Option.bind_some]
        rw [letter_f]
        simp only [Option.bind_some]
        rw [if_neg hx, if_pos (by omega), pk_f h (p + 1) 5 k (by omega) (by omega) (by omega) (by omega) (by omega)]
        simp only [Option.bind_some]
        rw [w0 (i := 1 + pk l p (mn 3 x1)) (by omega) (by omega), w0 (i := x1 - (1 + pk l p (mn 3 x1))) (by omega) (by omega), w0 (i := x6 + pk l (p + 1) 5) (by omega) (by omega), w0 (i := x6 + pk l (p + 1) 5 - 2) (by omega) (by omega)]
        exact hq k (by omega)
    · obtain ⟨out, q, ho, q0, q1, hq⟩ := part_end l h acc x1 x6 p (by omega) hp (by omega)
      refine ⟨out, q, ho, q0, by omega, fun k hk => ?_⟩
      obtain ⟨k, rfl⟩ : ∃ m, k = m + 1 := ⟨k - 1, by omega⟩
      rw [spec_l92Part.l0, if_neg hx1]
      exact hq k (by omega)
theorem part_d (l : List Int) (h : Rdr l) (p a : Int) (h0 : 0 ≤ a) (h1 : a ≤ 1000) (hp : 0 ≤ p) (hp' : p ≤ 9000) : ∃ out q, out.length ≤ 12 ∧ p ≤ q ∧ q ≤ p + 40 ∧ ∀ k, 40 ≤ k → spec_l92Part.f k l p a = some (out, q) := by
  obtain ⟨v0, v1⟩ := pk_bd h p 6 (by omega) (by omega) (by omega) (by omega)
  obtain ⟨out, q, ho, q0, q1, hq⟩ := part_l0 l h 12 [] a (5 + pk l p 6) (p + 1) rfl h0 h1 (by omega) (by omega) (by omega) (by simp; omega)
  refine ⟨out, q, ho, by omega, by omega, fun k hk => ?_⟩
  unfold spec_l92Part.f
  rw [pk_f h p 6 k (by omega) (by omega) (by omega) (by omega) (by omega)]
  simp only [Option.bind_some]
  rw [w0 (i := 5 + pk l p 6) (by omega) (by omega)]
  exact hq k (by omega)
theorem disc_l0 (l : List Int) (h : Rdr l) (a : List S44) : ∀ (d i : Nat) (b : List S44) (p : Int), i + d = b.length → b.length ≤ 12 → 0 ≤ p → p ≤ 10000 + i → ∃ c q, c.length ≤ 12 ∧ ∀ k, d + 2 ≤ k → spec_l92Discant.l0 k a b (i : Int) l p = some (a, c, q) := by
  intro d
  induction d with
  | zero =>
    intro i b p hi hb hp hp'
    refine ⟨b, p, hb, fun k hk => ?_⟩
    obtain ⟨k, rfl⟩ : ∃ m, k = m + 1 := ⟨k - 1, by omega⟩
    simp only [spec_l92Discant.l0]
    rw [if_neg (by omega)]
  | succ d ih =>
    intro i b p hi hb hp hp'
    obtain ⟨v0, v1⟩ := pk_bd h p 6 (by omega) (by omega) (by omega) (by omega)
    obtain ⟨c, q, hc, hq⟩ := ih (i + 1) (b.set ((i : Int)).toNat (⟨(⟨mn 20 (wrap64 ((mx 0 ((rd_T44 b (i : Int)).f0.f0)) + (rd ([4, 4, 3, 7, 0, 2] : List Int) (pk l p 6)))), false⟩ : S30), (rd_T44 b (i : Int)).f1⟩ : S44)) (p + 1) (by simp; omega) (by simpa using hb) (by omega) (by omega)
    refine ⟨c, q, hc, fun k hk => ?_⟩
    obtain ⟨k, rfl⟩ : ∃ m, k = m + 1 := ⟨k - 1, by omega⟩
    simp only [spec_l92Discant.l0, Option.bind_some]
    rw [if_pos (by omega), pk_f h p 6 k (by omega) (by omega) (by omega) (by omega) (by omega)]
    simp only [Option.bind_some]
    rw [if_pos v0, if_pos (by simpa using v1), if_pos (by omega), w1 (by omega)]
    exact hq k (by omega)
theorem disc_d (l : List Int) (h : Rdr l) (p : Int) (hp : 0 ≤ p) (hp' : p ≤ 4000) : ∃ a b q, a.length ≤ 12 ∧ b.length ≤ 12 ∧ ∀ k, 60 ≤ k → spec_l92Discant.f k l p = some (a, b, q) := by
  obtain ⟨n0, n1⟩ := pk_bd h p 12 (by omega) (by omega) (by omega) (by omega)
  obtain ⟨a, q, ha, q0, q1, hq⟩ := part_d l h (p + 1) (pk l p 12) n0 (by omega) (by omega) (by omega)
  by_cases h0 : pk l q 2 = 0
  · obtain ⟨c, q', hc, hd⟩ := disc_l0 l h a a.length 0 a (q + 1) (by omega) ha (by omega) (by omega)
    refine ⟨a, c, q', ha, hc, fun k hk => ?_⟩
    unfold spec_l92Discant.f
    rw [pk_f h p 12 k (by omega) (by omega) (by omega) (by omega) (by omega)]
    simp only [Option.bind_some]
    rw [hq k (by omega)]
    simp only [Option.bind_some]
    rw [pk_f h q 2 k (by omega) (by omega) (by omega) (by omega) (by omega)]
    simp only [Option.bind_some]
    rw [if_pos h0, if_pos (by simp; omega), List.nil_append]
    exact hd k (by omega)
  · by_cases h1 : pk l (q + 1) 8 = 0
    · obtain ⟨b, q', hb, r0, r1, hr⟩ := part_d l h (q + 1 + 1) (pk l p 12 + 1) (by omega) (by omega) (by omega) (by omega)
      refine ⟨a, b, q', ha, hb, fun k hk => ?_⟩
      unfold spec_l92Discant.f
      rw [pk_f h p 12 k (by omega) (by omega) (by omega) (by omega) (by omega)]
      simp only [Option.bind_some]
      rw [hq k (by omega)]
      simp only [Option.bind_some]
      rw [pk_f h q 2 k (by omega) (by omega) (by omega) (by omega) (by omega)]
      simp only [Option.bind_some]
      rw [if_neg h0, pk_f h (q + 1) 8 k (by omega) (by omega) (by omega) (by omega) (by omega)]
      simp only [Option.bind_some]
      rw [if_pos h1, w0 (i := pk l p 12 + 1) (by omega) (by omega), hr k (by omega)]
      rfl
    · obtain ⟨b, q', hb, r0, r1, hr⟩ := part_d l h (q + 1 + 1) (pk l p 12) (by omega) (by omega) (by omega) (by omega)
      refine ⟨a, b, q', ha, hb, fun k hk => ?_⟩
      unfold spec_l92Discant.f
      rw [pk_f h p 12 k (by omega) (by omega) (by omega) (by omega) (by omega)]
      simp only [Option.bind_some]
      rw [hq k (by omega)]
      simp only [Option.bind_some]
      rw [pk_f h q 2 k (by omega) (by omega) (by omega) (by omega) (by omega)]
      simp only [Option.bind_some]
      rw [if_neg h0, pk_f h (q + 1) 8 k (by omega) (by omega) (by omega) (by omega) (by omega)]
      simp only [Option.bind_some]
      rw [if_neg h1, hr k (by omega)]
      rfl
theorem chg_drop (xs : List S30) (i : Nat) (h : i + 1 < xs.length) : chg (xs.drop i) = (if xs[i].f0 = xs[i + 1].f0 then 0 else 1) + chg (xs.drop (i + 1)) := by
  rw [List.drop_eq_getElem_cons (show i < xs.length by omega), List.drop_eq_getElem_cons h]
  rfl
theorem chg_end (xs : List S30) (i : Nat) (h : ¬ i + 1 < xs.length) : chg (xs.drop i) = 0 := by
  by_cases hi : i < xs.length
  · rw [List.drop_eq_getElem_cons hi, List.drop_eq_nil_of_le (by omega)]
    rfl
  · rw [List.drop_eq_nil_of_le (by omega)]
    rfl
theorem chg_le : ∀ xs : List S30, chg xs ≤ xs.length
  | [] => by simp [chg]
  | [_] => by simp [chg]
  | x :: y :: r => by
    have := chg_le (y :: r)
    simp only [chg, List.length_cons] at this ⊢
    split <;> omega
theorem parl_l0 (a b : List S44) (h : TG a b = true) : ∀ (d i k : Nat) (c : Nat), (expand a).length - (i + 1) = d → 2 * d + 80 ≤ k → c ≤ i → c + chg ((expand a).drop i) = chg (expand a) →
    laws_FnParallels.l0 k a b (PN a b) ((expand a).length : Int) (c : Int) ((i + 1 : Nat) : Int) = some true := by
  have hn := PS_bd h
  have e0 := expand_sum a (PV_all (TG_0 h))
  have e3 := PS_len h
  have hp0 : PN a b = (padj (PS a b) : Nat) := by unfold PN; rw [if_pos h]
  have hc0 : CN a b = (adj (PS a b) : Nat) := by unfold CN; rw [if_pos h]
  have hself : PN a a = (chg (expand a) : Nat) := by
    unfold PN
    rw [if_pos (TG_refl (TG_0 h))]
    unfold PS
    rw [padj_self _ (exp_tv (TG_0 h))]
  have hpa : padj (PS a b) + adj (PS a b) ≤ chg (expand a) := par_adj _ _ (exp_tv (TG_0 h)) (exp_tv (TG_1 h))
  have hle := padj_le (PS a b)
  have hcl := chg_le (expand a)
  intro d
  induction d with
  | zero =>
    intro i k c hd hk hci hcc
    obtain ⟨k, rfl⟩ : ∃ m, k = m + 1 := ⟨k - 1, by omega⟩
    have hz : chg ((expand a).drop i) = 0 := chg_end _ _ (by omega)
    simp only [laws_FnParallels.l0]
    rw [if_neg (by omega), pni_f b a k (by omega), Option.bind_some, PN_swap h, if_pos rfl, w0 (i := ((expand a).length : Int) - 1) (by omega) (by omega), if_pos ?_, pni_f a a k (by omega), Option.bind_some, hself, if_pos (by omega), cni_f a b k (by omega), Option.bind_some, hc0, hp0, w0 (by omega) (by omega)]
    · exact congrArg some (decide_eq_true (by omega))
    · rw [hp0]
      unfold mx
      split <;> omega
  | succ d ih =>
    intro i k c hd hk hci hcc
    obtain ⟨k, rfl⟩ : ∃ m, k = m + 2 := ⟨k - 2, by omega⟩
    have hx : i + 1 < (expand a).length := by omega
    have ei : ((i + 1 : Nat) : Int) - 1 = (i : Int) := by omega
    rw [chg_drop _ i hx] at hcc
    simp only [laws_FnParallels.l0]
    rw [if_pos (by omega), ei, w0 (i := (i : Int)) (by omega) (by omega), pai_f a _ _ (by omega), pai_f a _ _ (by omega), PA_in' (TG_0 h) i (by omega), PA_in' (TG_0 h) (i + 1) hx, Option.bind_some, Option.bind_some]
    dsimp only
    rw [if_pos rfl]
    simp only [laws_FnParallels.j2]
    rw [if_neg (by decide), w1 (by omega), w0 (i := (c : Int) + 1) (by omega) (by omega)]
    by_cases hs : (expand a)[i].f0 = (expand a)[i + 1].f0
    · rw [if_pos hs] at hcc
      rw [if_pos hs]
      exact ih (i + 1) k c (by omega) (by omega) (by omega) (by omega)
    · rw [if_neg hs] at hcc
      rw [if_neg hs]
      exact ih (i + 1) k (c + 1) (by omega) (by omega) (by omega) (by omega)
theorem FnParallels : ∀ (l0 : List Int), l0.length ≤ maxLen → l0.length * 1 ≤ 140737488351232 → (∀ n ∈ l0, (Lit.int .u8 n).wf = true) → ∃ k, laws_FnParallels.f k l0 = some true := by
  intro l0 z1 z2 hw
  refine ⟨303, ?_⟩
  unfold laws_FnParallels.f
  by_cases h : (l0.length : Int) > 1048576
  · rw [if_pos h]
  · rw [if_neg h]
    obtain ⟨o, ho, hR⟩ := open_f l0 (bytes_of hw)
    obtain ⟨a, b, q, ha, hb, hq⟩ := disc_d o hR 0 (by omega) (by omega)
    have hd : spec_DrawDiscantParallels.f 303 l0 = some (a, b) := by
      unfold spec_DrawDiscantParallels.f
      rw [ho]
      simp only [Option.bind_some]
      rw [hq 303 (by omega)]
      rfl
    rw [hd, Option.bind_some]
    dsimp only
    rw [pni_f a b 303 (by omega), Option.bind_some, pns_f a b (by omega) (by omega) 303 (by omega), Option.bind_some, if_pos rfl, laws_FnParallels.j0]
    by_cases hT : TG a b = true
    · have hnn : ¬ PN a b < 0 := by
        unfold PN
        rw [if_pos hT]
        omega
      have e0 := expand_sum a (PV_all (TG_0 hT))
      have hn := PS_bd hT
      have e3 := PS_len hT
      rw [decide_eq_false hnn, if_neg (by decide), pbi_f a 302 (by omega), Option.bind_some]
      have e : PB a = ((expand a).length : Int) := by unfold PB; rw [if_pos (TG_0 hT)]; omega
      rw [e]
      exact parl_l0 a b hT _ 0 302 0 rfl (by omega) (by omega) (by simp)
    · have e : PN a b = -1 := by
        unfold PN
        rw [if_neg hT]
      rw [e]
      rfl

end Go.Proofs.YtcndojoghmblaaaDoor.PureFnParallels
