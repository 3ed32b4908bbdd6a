/- FnPart: for every list of at most 1048576 bytes, the law of PartMake, PartBeats and PartAt holds of what the reference draws from it, and the list reads as before (longer lists the statement lets pass). No condition beyond the statement's own. -/
import Derived.Test.YtgiobmceippanaaFPx0
import Derived.Test.YtgiobmceippanaaFPx4
import Derived.Test.YtgiobmceippanaaFPx3
import Derived.Test.YtgiobmceippanaaFPx5
import Derived.Test.YtgiobmceippanaaFPx6
import Derived.Laws.Bits64
namespace Go.Proofs.Ytgiobmceippanaa.PureFnPart
open Go.RowKit Go.Proofs.Ytgiobmceippanaa.FP Go.Proofs.YtgiobmceippanaaW.PrintWords Go.Proofs.YtgiobmceippanaaW.PrintLast Go.Proofs.YtgiobmceippanaaW.PrintMore 
set_option linter.unusedVariables false
set_option linter.unusedSimpArgs false
theorem w1 {i : Nat} (h : i < 4611686018427387904) : wrap64 ((i : Int) + 1) = ((i + 1 : Nat) : Int) := by
  unfold wrap64
  omega
theorem w0 {i : Int} (h : -9223372036854775808 ≤ i) (h' : i ≤ 9223372036854775807) : wrap64 i = i := by
  unfold wrap64
  omega
theorem rd_at (xs : List Int) (i : Nat) (h : i < xs.length) : rd xs (i : Int) = xs[i] := by
  simp [rd, List.getD_eq_getElem?_getD, h]
/-- A tone of the gamut. -/
def tv (a : Int) (b : Bool) : Bool := decide (0 ≤ a) && (decide (a ≤ 20) && (!b || decide (Int.tmod a 7 = 2)))
theorem tv_spec (a : Int) (b : Bool) : spec_ToneValid.f a b = some (tv a b) := by
  unfold spec_ToneValid.f spec_l6In.f spec_l1Letter.f tv
  by_cases h0 : a ≥ 0
  · rw [if_pos h0, decide_eq_true (show 0 ≤ a from h0)]
    by_cases h1 : a ≤ 20
    · simp only [h1, decide_true, Option.bind_some, if_true, Bool.true_and]
      cases b
      · rfl
      · simp
        rfl
    · simp [h1]
  · rw [if_neg h0, decide_eq_false (show ¬ 0 ≤ a from h0)]
    rfl
theorem tv_impl (a : Int) (b : Bool) : impl_Tone_valid.f a b = some (tv a b) := by
  unfold impl_Tone_valid.f tv
  by_cases h0 : a ≥ 0
  · rw [if_pos h0, decide_eq_true (show 0 ≤ a from h0)]
    by_cases h1 : a ≤ 20
    · rw [if_pos h1, decide_eq_true h1]
      cases b
      · rfl
      · simp
        rfl
    · rw [if_neg h1, decide_eq_false h1]
      rfl
  · rw [if_neg h0, decide_eq_false (show ¬ 0 ≤ a from h0)]
    rfl
theorem in_spec (a b c : Int) : spec_l6In.f a b c = some (decide (b ≤ a) && decide (a ≤ c)) := by
  unfold spec_l6In.f
  by_cases h0 : a ≥ b
  · rw [if_pos h0, decide_eq_true (show b ≤ a from h0)]; rfl
  · rw [if_neg h0, decide_eq_false (show ¬ b ≤ a from h0)]; rfl
def vv (v : S61) : Bool := tv v.f0.f0 v.f0.f1 && (decide (1 ≤ v.f1) && decide (v.f1 ≤ 3))
theorem rdv_at (xs : List S61) (i : Nat) (h : i < xs.length) : rd_T61 xs (i : Int) = xs[i] := by
  simp [rd_T61, List.getD_eq_getElem?_getD, h]
def sumB (l : List S61) : Int := (l.map (·.f1)).sum
theorem sumB_cons (v : S61) (l : List S61) : sumB (v :: l) = v.f1 + sumB l := by simp [sumB]
theorem vv_bd {v : S61} (h : vv v = true) : 1 ≤ v.f1 ∧ v.f1 ≤ 3 := by
  unfold vv at h
  simp only [Bool.and_eq_true, decide_eq_true_eq] at h
  exact h.2
theorem sumB_bd (l : List S61) (h : l.all vv = true) : 0 ≤ sumB l ∧ sumB l ≤ 3 * l.length := by
  induction l with
  | nil => simp [sumB]
  | cons v l ih =>
    simp only [List.all_cons, Bool.and_eq_true] at h
    have h1 := vv_bd h.1
    have h2 := ih h.2
    rw [sumB_cons, List.length_cons]
    omega
def PV (l : List S61) : Bool := decide (l.length ≤ 12) && (l.all vv && decide (sumB l ≤ 24))
theorem PV_len {l : List S61} (h : PV l = true) : l.length ≤ 12 := by
  unfold PV at h
  simp only [Bool.and_eq_true, decide_eq_true_eq] at h
  exact h.1
theorem PV_all {l : List S61} (h : PV l = true) : l.all vv = true := by
  unfold PV at h
  simp only [Bool.and_eq_true, decide_eq_true_eq] at h
  exact h.2.1
theorem PV_sum {l : List S61} (h : PV l = true) : sumB l ≤ 24 := by
  unfold PV at h
  simp only [Bool.and_eq_true, decide_eq_true_eq] at h
  exact h.2.2
theorem beats_l0 (l : List S61) (hl : l.length ≤ 12) (hv : l.all vv = true) : ∀ (d i k : Nat) (a : Int), i + d = l.length → d < k → 0 ≤ a → a ≤ 3 * i → spec_l8Beats.l0 k l a (i : Int) = some (a + sumB (l.drop i)) := by
  intro d
  induction d with
  | zero =>
    intro i k a hi hk h0 h1
    obtain ⟨k, rfl⟩ : ∃ m, k = m + 1 := ⟨k - 1, by omega⟩
    simp only [spec_l8Beats.l0]
    rw [if_neg (by omega), List.drop_eq_nil_of_le (by omega)]
    simp [sumB]
  | succ d ih =>
    intro i k a hi hk h0 h1
    obtain ⟨k, rfl⟩ : ∃ m, k = m + 1 := ⟨k - 1, by omega⟩
    have hx : i < l.length := by omega
    have hb := vv_bd (List.all_eq_true.1 hv _ (List.getElem_mem hx))
    simp only [spec_l8Beats.l0]
    rw [if_pos (by omega), if_pos (by omega), rdv_at l i hx, w1 (by omega), w0 (by omega) (by omega), ih (i + 1) k _ (by omega) (by omega) (by omega) (by omega), List.drop_eq_getElem_cons hx, sumB_cons]
    congr 1
    omega
theorem beats_f (l : List S61) (hl : l.length ≤ 12) (hv : l.all vv = true) (k : Nat) (hk : 13 ≤ k) : spec_l8Beats.f k l = some (sumB l) := by
  unfold spec_l8Beats.f
  simpa using beats_l0 l hl hv l.length 0 k 0 (by omega) (by omega) (by omega) (by omega)
theorem pvs_l0 (l : List S61) (hb : l.length < 4611686018427387904) : ∀ (d i k : Nat), i + d = l.length → d + 14 < k → (l.take i).all vv = true → spec_PartValid.l0 k l (i : Int) = some (PV l) := by
  intro d
  induction d with
  | zero =>
    intro i k hi hk hv
    obtain ⟨k, rfl⟩ : ∃ m, k = m + 1 := ⟨k - 1, by omega⟩
    rw [List.take_of_length_le (by omega)] at hv
    simp only [spec_PartValid.l0]
    rw [if_neg (by omega)]
    unfold PV
    rw [hv]
    by_cases hl : l.length ≤ 12
    · rw [if_pos (by omega), beats_f l hl hv k (by omega), decide_eq_true hl]
      rfl
    · rw [if_neg (by omega), decide_eq_false hl]
      rfl
  | succ d ih =>
    intro i k hi hk hv
    obtain ⟨k, rfl⟩ : ∃ m, k = m + 1 := ⟨k - 1, by omega⟩
    have hx : i < l.length := by omega
    simp only [spec_PartValid.l0]
    rw [if_pos (by omega), if_pos (by omega), rdv_at l i hx, tv_spec, in_spec]
    simp only [Option.bind_some]
    by_cases hvi : vv l[i] = true
    · have hvi2 := hvi
      unfold vv at hvi2
      simp only [Bool.and_eq_true] at hvi2
      rw [if_pos hvi2.1, if_pos (by simpa using hvi2.2), w1 (by omega)]
      refine ih (i + 1) k (by omega) (by omega) ?_
      rw [List.take_succ_eq_append_getElem hx, List.all_append, hv]
      simp [hvi]
    · have hF : PV l = false := by
        have : l.all vv = false := by
          rw [Bool.eq_false_iff]
          intro h
          exact hvi (List.all_eq_true.1 h _ (List.getElem_mem hx))
        unfold PV
        rw [this]
        simp
      rw [hF]
      unfold vv at hvi
      by_cases h1 : tv l[i].f0.f0 l[i].f0.f1 = true
      · rw [if_pos h1]
        rw [h1, Bool.true_and] at hvi
        rw [if_neg hvi]
      · rw [if_neg h1]
theorem pvs_f (l : List S61) (hb : l.length ≤ 1048576) (k : Nat) (hk : l.length + 15 < k) : spec_PartValid.f k l = some (PV l) := by
  unfold spec_PartValid.f
  simpa using pvs_l0 l (by omega) l.length 0 k (by omega) (by omega) (by simp)
theorem pvi_l0 (l : List S61) (hl : l.length ≤ 12) : ∀ (d i k : Nat) (a : Int), i + d = l.length → d < k → 0 ≤ a → a ≤ 3 * i → impl_PartValid.l0 k a l (l.length : Int) (i : Int) = some ((l.drop i).all vv && decide (a + sumB (l.drop i) ≤ 24)) := by
  intro d
  induction d with
  | zero =>
    intro i k a hi hk h0 h1
    obtain ⟨k, rfl⟩ : ∃ m, k = m + 1 := ⟨k - 1, by omega⟩
    simp only [impl_PartValid.l0]
    rw [if_neg (by omega), List.drop_eq_nil_of_le (by omega)]
    simp [sumB]
  | succ d ih =>
    intro i k a hi hk h0 h1
    obtain ⟨k, rfl⟩ : ∃ m, k = m + 1 := ⟨k - 1, by omega⟩
    have hx : i < l.length := by omega
    simp only [impl_PartValid.l0]
    rw [if_pos (by omega), if_pos (by omega), if_pos (by omega), rdv_at l i hx, tv_impl, List.drop_eq_getElem_cons hx, sumB_cons, List.all_cons]
    simp only [Option.bind_some]
    by_cases ht : tv l[i].f0.f0 l[i].f0.f1 = true
    · rw [if_pos ht]
      by_cases h3 : l[i].f1 < 1
      · rw [if_pos h3]
        have : vv l[i] = false := by unfold vv; rw [decide_eq_false (show ¬ 1 ≤ l[i].f1 by omega)]; simp
        rw [this]
        rfl
      · rw [if_neg h3]
        by_cases h4 : l[i].f1 > 3
        · rw [if_pos h4]
          have : vv l[i] = false := by unfold vv; rw [decide_eq_false (show ¬ l[i].f1 ≤ 3 by omega)]; simp
          rw [this]
          rfl
        · have : vv l[i] = true := by unfold vv; rw [ht, decide_eq_true (show 1 ≤ l[i].f1 by omega), decide_eq_true (show l[i].f1 ≤ 3 by omega)]; rfl
          rw [if_neg h4, w1 (by omega), w0 (by omega) (by omega), ih (i + 1) k _ (by omega) (by omega) (by omega) (by omega), this, Bool.true_and, Int.add_assoc]
    · rw [if_neg ht]
      have : vv l[i] = false := by unfold vv; rw [Bool.eq_false_iff.mpr ht]; rfl
      rw [this]
      rfl
theorem pvi_f (l : List S61) (k : Nat) (hk : 13 ≤ k) : impl_PartValid.f k l = some (PV l) := by
  unfold impl_PartValid.f PV
  by_cases hl : l.length ≤ 12
  · rw [if_neg (by omega), decide_eq_true hl, Bool.true_and]
    simpa using pvi_l0 l hl l.length 0 k 0 (by omega) (by omega) (by omega) (by omega)
  · rw [if_pos (by omega), decide_eq_false hl]
    rfl

theorem expand_cons (v : S61) (l : List S61) : expand (v :: l) = List.replicate v.f1.toNat v.f0 ++ expand l := by simp [expand]
theorem expand_sum (l : List S61) (h : l.all vv = true) : ((expand l).length : Int) = sumB l := by
  induction l with
  | nil => rfl
  | cons v l ih =>
    simp only [List.all_cons, Bool.and_eq_true] at h
    have h1 := vv_bd h.1
    have h2 := ih h.2
    rw [expand_cons, sumB_cons, List.length_append, List.length_replicate]
    omega
def PB (l : List S61) : Int := if PV l = true then sumB l else -1
def tvv (t : S43) : Bool := tv t.f0 t.f1
theorem rdt_at (xs : List S43) (i : Nat) (h : i < xs.length) : rd_T43 xs (i : Int) = xs[i] := by
  simp [rd_T43, List.getD_eq_getElem?_getD, h]
def MV (l : List S43) : Bool := decide (l.length ≤ 24) && l.all tvv
theorem mvs_l0 (l : List S43) (hb : l.length < 4611686018427387904) : ∀ (d i k : Nat), i + d = l.length → d < k → (l.take i).all tvv = true → spec_MelodyValid.l0 k l (i : Int) = some (MV l) := by
  intro d
  induction d with
  | zero =>
    intro i k hi hk hv
    obtain ⟨k, rfl⟩ : ∃ m, k = m + 1 := ⟨k - 1, by omega⟩
    rw [List.take_of_length_le (by omega)] at hv
    simp only [spec_MelodyValid.l0]
    rw [if_neg (by omega)]
    unfold MV
    rw [hv, Bool.and_true]
    congr 1
    rw [decide_eq_decide]
    omega
  | succ d ih =>
    intro i k hi hk hv
    obtain ⟨k, rfl⟩ : ∃ m, k = m + 1 := ⟨k - 1, by omega⟩
    have hx : i < l.length := by omega
    simp only [spec_MelodyValid.l0]
    rw [if_pos (by omega), if_pos (by omega), rdt_at l i hx, tv_spec]
    simp only [Option.bind_some]
    by_cases hvi : tv l[i].f0 l[i].f1 = true
    · rw [if_pos hvi, w1 (by omega)]
      refine ih (i + 1) k (by omega) (by omega) ?_
      rw [List.take_succ_eq_append_getElem hx, List.all_append, hv]
      simp [tvv, hvi]
    · rw [if_neg hvi]
      have : l.all tvv = false := by
        rw [Bool.eq_false_iff]
        intro h
        exact hvi (List.all_eq_true.1 h _ (List.getElem_mem hx))
      unfold MV
      rw [this, Bool.and_false]
theorem mvs_f (l : List S43) (hb : l.length ≤ 1048576) (k : Nat) (hk : l.length < k) : spec_MelodyValid.f k l = some (MV l) := by
  unfold spec_MelodyValid.f
  simpa using mvs_l0 l (by omega) l.length 0 k (by omega) (by omega) (by simp)
theorem mvi_l0 (l : List S43) (hb : l.length < 4611686018427387904) : ∀ (d i k : Nat), i + d = l.length → d < k → impl_MelodyValid.l0 k l (l.length : Int) (i : Int) = some ((l.drop i).all tvv) := by
  intro d
  induction d with
  | zero =>
    intro i k hi hk
    obtain ⟨k, rfl⟩ : ∃ m, k = m + 1 := ⟨k - 1, by omega⟩
    simp only [impl_MelodyValid.l0]
    rw [if_neg (by omega), List.drop_eq_nil_of_le (by omega)]
    rfl
  | succ d ih =>
    intro i k hi hk
    obtain ⟨k, rfl⟩ : ∃ m, k = m + 1 := ⟨k - 1, by omega⟩
    have hx : i < l.length := by omega
    simp only [impl_MelodyValid.l0]
    rw [if_pos (by omega), if_pos (by omega), if_pos (by omega), rdt_at l i hx, tv_impl, List.drop_eq_getElem_cons hx, List.all_cons]
    simp only [Option.bind_some]
    by_cases ht : tv l[i].f0 l[i].f1 = true
    · rw [if_pos ht, w1 (by omega), ih (i + 1) k (by omega) (by omega), show tvv l[i] = true from ht, Bool.true_and]
    · rw [if_neg ht, show tvv l[i] = false from Bool.eq_false_iff.mpr ht, Bool.false_and]
theorem mvi_f (l : List S43) (k : Nat) (hk : 25 ≤ k) : impl_MelodyValid.f k l = some (MV l) := by
  unfold impl_MelodyValid.f MV
  by_cases h : l.length ≤ 24
  · rw [if_neg (by omega), decide_eq_true h, Bool.true_and]
    simpa using mvi_l0 l (by omega) l.length 0 k (by omega) (by omega)
  · rw [if_pos (by omega), decide_eq_false h, Bool.false_and]

def mkv (t : S43) (b : Int) : S61 := ⟨⟨t.f0, t.f1⟩, b⟩
def fin (p : List S61) : List S61 × Bool := if PV p = true then (p, true) else ([], false)
def PM (l : List S43) (s : List Int) : List S61 × Bool := if MV l = true then (if s.length = l.length then fin (List.zipWith mkv l s) else ([], false)) else ([], false)
theorem pms_l0 (l : List S43) (s : List Int) (hs : s.length = l.length) (hl : l.length ≤ 24) : ∀ (d i k : Nat) (acc : List S61), i + d = l.length → acc.length = i → d + 60 < k →
    spec_PartMake.l0 k l s acc (i : Int) = some (fin (acc ++ List.zipWith mkv (l.drop i) (s.drop i))) := by
  intro d
  induction d with
  | zero =>
    intro i k acc hi ha hk
    obtain ⟨k, rfl⟩ : ∃ m, k = m + 1 := ⟨k - 1, by omega⟩
    simp only [spec_PartMake.l0]
    rw [if_neg (by omega), pvs_f acc (by omega) k (by omega), List.drop_eq_nil_of_le (by omega), Option.bind_some, List.zipWith_nil_left, List.append_nil]
    unfold fin
    split <;> rfl
  | succ d ih =>
    intro i k acc hi ha hk
    obtain ⟨k, rfl⟩ : ∃ m, k = m + 1 := ⟨k - 1, by omega⟩
    have hx : i < l.length := by omega
    have hy : i < s.length := by omega
    simp only [spec_PartMake.l0]
    rw [if_pos (by omega), if_pos (by omega), if_pos (by omega), if_pos (by omega), rdt_at l i hx, rd_at s i hy, w1 (by omega), List.drop_eq_getElem_cons hx, List.drop_eq_getElem_cons hy, List.zipWith_cons_cons]
    have := ih (i + 1) k (acc ++ [mkv l[i] s[i]]) (by omega) (by simp [ha]) (by omega)
    rw [List.append_assoc, List.singleton_append] at this
    exact this
theorem pmi_l0 (l : List S43) (s : List Int) (hs : s.length = l.length) (hl : l.length ≤ 24) : ∀ (d i k : Nat) (acc : List S61), i + d = l.length → acc.length = i → d + 60 < k →
    impl_PartMake.l0 k s acc l (l.length : Int) (i : Int) = some (fin (acc ++ List.zipWith mkv (l.drop i) (s.drop i))) := by
  intro d
  induction d with
  | zero =>
    intro i k acc hi ha hk
    obtain ⟨k, rfl⟩ : ∃ m, k = m + 1 := ⟨k - 1, by omega⟩
    simp only [impl_PartMake.l0]
    rw [if_neg (by omega), pvi_f acc k (by omega), List.drop_eq_nil_of_le (by omega), Option.bind_some, List.zipWith_nil_left, List.append_nil]
    unfold fin
    split <;> rfl
  | succ d ih =>
    intro i k acc hi ha hk
    obtain ⟨k, rfl⟩ : ∃ m, k = m + 1 := ⟨k - 1, by omega⟩
    have hx : i < l.length := by omega
    have hy : i < s.length := by omega
    simp only [impl_PartMake.l0]
    rw [if_pos (by omega), if_pos (by omega), if_pos (by omega), if_pos (by omega), if_pos (by omega), rdt_at l i hx, rd_at s i hy, w1 (by omega), List.drop_eq_getElem_cons hx, List.drop_eq_getElem_cons hy, List.zipWith_cons_cons]
    have := ih (i + 1) k (acc ++ [mkv l[i] s[i]]) (by omega) (by simp [ha]) (by omega)
    rw [List.append_assoc, List.singleton_append] at this
    exact this
theorem MV_len {l : List S43} (h : MV l = true) : l.length ≤ 24 := by
  unfold MV at h
  simp only [Bool.and_eq_true, decide_eq_true_eq] at h
  exact h.1
theorem pms_f (l : List S43) (s : List Int) (k : Nat) (hb : l.length ≤ 1048576) (hk : l.length + 100 < k) : spec_PartMake.f k l s = some (PM l s) := by
  unfold spec_PartMake.f PM
  simp only [Option.bind_some]
  rw [mvs_f l hb k (by omega), Option.bind_some]
  obtain ⟨k, rfl⟩ : ∃ m, k = m + 1 := ⟨k - 1, by omega⟩
  by_cases hM : MV l = true
  · rw [if_pos hM, if_pos hM, spec_PartMake.j0]
    by_cases h : s.length = l.length
    · rw [if_neg (by simp; omega), if_pos h]
      simpa using pms_l0 l s h (MV_len hM) l.length 0 k [] (by omega) rfl (by omega)
    · rw [if_pos (by simp; omega), if_neg h]
  · rw [if_neg hM, if_neg hM, spec_PartMake.j0, if_pos rfl]
theorem pmi_f (l : List S43) (s : List Int) (k : Nat) (hk : 100 ≤ k) : impl_PartMake.f k l s = some (PM l s) := by
  unfold impl_PartMake.f PM
  rw [mvi_f l k (by omega), Option.bind_some]
  obtain ⟨k, rfl⟩ : ∃ m, k = m + 1 := ⟨k - 1, by omega⟩
  by_cases hM : MV l = true
  · have hl := MV_len hM
    rw [if_pos hM, if_pos hM, impl_PartMake.j0]
    by_cases h : s.length = l.length
    · rw [if_neg (by simp; omega), if_pos h]
      simpa using pmi_l0 l s h (MV_len hM) l.length 0 k [] (by omega) rfl (by omega)
    · rw [if_pos (by simp; omega), if_neg h]
  · rw [if_neg hM, if_neg hM, impl_PartMake.j0, if_pos rfl]
theorem PM_len (l : List S43) (s : List Int) : (PM l s).1.length ≤ 24 := by
  unfold PM fin
  split
  · rename_i h
    have := MV_len h
    split
    · split
      · simp; omega
      · simp
    · simp
  · simp
theorem xor_nn (a b : Int) (ha : 0 ≤ a) (ha' : a < 4611686018427387904) (hb : 0 ≤ b) (hb' : b < 4611686018427387904) : 0 ≤ Go.bits .xor .i64 a b := by
  obtain ⟨x, rfl⟩ := Int.eq_ofNat_of_zero_le ha
  obtain ⟨y, rfl⟩ := Int.eq_ofNat_of_zero_le hb
  have hx : x ^^^ y < 2 ^ 62 := Nat.xor_lt_two_pow (by omega) (by omega)
  have h1 : (BitVec.ofInt 64 (x : Int)).toNat = x := by
    rw [BitVec.ofInt_natCast, BitVec.toNat_ofNat]; exact Nat.mod_eq_of_lt (by omega)
  have h2 : (BitVec.ofInt 64 (y : Int)).toNat = y := by
    rw [BitVec.ofInt_natCast, BitVec.toNat_ofNat]; exact Nat.mod_eq_of_lt (by omega)
  have e : Go.bits .xor .i64 (x : Int) (y : Int) = IntKind.i64.wrap (((x ^^^ y : Nat)) : Int) := by
    show IntKind.i64.wrap ((BitVec.ofInt 64 (x : Int) ^^^ BitVec.ofInt 64 (y : Int)).toNat : Int) = _
    rw [BitVec.toNat_xor, h1, h2]
  rw [e, IntWalk.i64_in _ (by omega)]
  omega
/-- A list of bytes. -/
def Bytes (l : List Int) : Prop := ∀ n ∈ l, 0 ≤ n ∧ n ≤ 255
theorem rd_byte {l : List Int} (h : Bytes l) (i : Int) (h0 : 0 ≤ i) (h1 : i < (l.length : Int)) : 0 ≤ rd l i ∧ rd l i ≤ 255 := by
  obtain ⟨n, rfl⟩ := Int.eq_ofNat_of_zero_le h0
  have hn : n < l.length := by omega
  rw [rd_at l n hn]
  exact h _ (List.getElem_mem hn)
theorem tm_bd (a n : Int) (ha : 0 ≤ a) (hn : 0 < n) : 0 ≤ Int.tmod a n ∧ Int.tmod a n < n := by
  rw [Int.tmod_eq_emod_of_nonneg ha]
  exact ⟨Int.emod_nonneg _ (by omega), Int.emod_lt_of_pos _ hn⟩
theorem td_bd (a n : Int) (ha : 0 ≤ a) (hn : 0 < n) : 0 ≤ Int.tdiv a n ∧ Int.tdiv a n ≤ a := by
  rw [Int.tdiv_eq_ediv_of_nonneg ha]
  exact ⟨Int.ediv_nonneg ha (by omega), Int.ediv_le_self _ ha⟩
theorem pick_some (l : List Int) (hl : Bytes l) (hn : l.length ≤ 2000) (p n : Int) (hp : 0 ≤ p) (hp' : p ≤ 1000000) (h1 : 1 ≤ n) (h2 : n ≤ 1000000) :
    ∃ v, 0 ≤ v ∧ v < n ∧ ∀ k, spec_l6Rd_pick.f (k + 1) l p n = some (v, p + 1) := by
  unfold spec_l6Rd_pick.f
  simp only [spec_l6Rd_pick.j0]
  rw [if_neg (show ¬ n < 1 by omega), w0 (i := p + 1) (by omega) (by omega), show p + 1 - 1 = p by omega, w0 (i := p) (by omega) (by omega)]
  by_cases hl0 : l.length = 0
  · refine ⟨0, by omega, by omega, fun k => ?_⟩
    rw [if_pos (show ((l.length : Int) == 0) = true by rw [hl0]; rfl)]
  · rw [if_neg (show ¬ (((l.length : Int) == 0) = true) from fun h => hl0 (by have := beq_iff_eq.1 h; omega))]
    have hlp : (0 : Int) < (l.length : Int) := by omega
    by_cases hpl : p < (l.length : Int)
    · obtain ⟨b0, b1⟩ := rd_byte hl p hp hpl
      rw [if_pos hpl, if_pos hp, if_neg (show ¬ n = 0 by omega), w0 (i := rd l p) (by omega) (by omega)]
      obtain ⟨t0, t1⟩ := tm_bd (rd l p) n b0 (by omega)
      exact ⟨_, t0, t1, fun _ => rfl⟩
    · rw [if_neg hpl, if_neg (show ¬ (l.length : Int) = 0 by omega), w0 (i := p * 7) (by omega) (by omega), w0 (i := p * 7 + 3) (by omega) (by omega)]
      obtain ⟨i0, i1⟩ := tm_bd p (l.length : Int) hp hlp
      obtain ⟨j0, j1⟩ := tm_bd (p * 7 + 3) (l.length : Int) (by omega) hlp
      obtain ⟨q0, q1⟩ := td_bd p (l.length : Int) hp hlp
      rw [if_pos i0, if_pos i1, if_pos j0, if_pos j1, if_neg (show ¬ n = 0 by omega)]
      obtain ⟨a0, a1⟩ := rd_byte hl _ i0 i1
      obtain ⟨b0, b1⟩ := rd_byte hl _ j0 j1
      generalize rd l (Int.tmod p (l.length : Int)) = a at a0 a1 ⊢
      generalize rd l (Int.tmod (p * 7 + 3) (l.length : Int)) = b at b0 b1 ⊢
      generalize Int.tdiv p (l.length : Int) = q at q0 q1 ⊢
      simp (disch := omega) only [w0]
      have x0 : 0 ≤ a * 131 + b * 1117 + p * 29 + q * 53 := by omega
      obtain ⟨d0, d1⟩ := td_bd (a * 131 + b * 1117 + p * 29 + q * 53) 64 x0 (by omega)
      rw [w0 (i := Int.tdiv (a * 131 + b * 1117 + p * 29 + q * 53) 64) (by omega) (by omega)]
      obtain ⟨t0, t1⟩ := tm_bd (Go.bits .xor .i64 (a * 131 + b * 1117 + p * 29 + q * 53) (Int.tdiv (a * 131 + b * 1117 + p * 29 + q * 53) 64)) n (xor_nn _ _ x0 (by omega) d0 (by omega)) (by omega)
      exact ⟨_, t0, t1, fun _ => rfl⟩
/-- What a reader's pick answers. -/
def pk (l : List Int) (p n : Int) : Int := ((spec_l6Rd_pick.f 1 l p n).getD (0, 0)).1
structure Rdr (l : List Int) : Prop where
  bytes : Bytes l
  len : l.length ≤ 2000
theorem pk_f {l : List Int} (h : Rdr l) (p n : Int) (k : Nat) (hp : 0 ≤ p) (hp' : p ≤ 1000000) (h1 : 1 ≤ n) (h2 : n ≤ 1000000) (hk : 1 ≤ k) : spec_l6Rd_pick.f k l p n = some (pk l p n, p + 1) := by
  obtain ⟨v, _, _, hv⟩ := pick_some l h.bytes h.len p n hp hp' h1 h2
  unfold pk
  rw [hv 0]
  obtain ⟨k, rfl⟩ : ∃ m, k = m + 1 := ⟨k - 1, by omega⟩
  rw [hv k]
  rfl
theorem pk_bd {l : List Int} (h : Rdr l) (p n : Int) (hp : 0 ≤ p) (hp' : p ≤ 1000000) (h1 : 1 ≤ n) (h2 : n ≤ 1000000) : 0 ≤ pk l p n ∧ pk l p n < n := by
  obtain ⟨v, h3, h4, hv⟩ := pick_some l h.bytes h.len p n hp hp' h1 h2
  unfold pk
  rw [hv 0]
  exact ⟨h3, h4⟩
theorem open_f (l : List Int) (hl : Bytes l) : ∃ s, spec_l6Open.f l = some (s, 0) ∧ Rdr s := by
  unfold spec_l6Open.f
  by_cases h : (l.length : Int) > 2000
  · rw [if_pos h, if_pos (by omega)]
    exact ⟨_, rfl, ⟨fun n hn => hl n (List.mem_of_mem_take hn), by simp; omega⟩⟩
  · rw [if_neg h]
    exact ⟨_, rfl, ⟨hl, by omega⟩⟩
theorem bytes_of {l : List Int} (h : ∀ n ∈ l, (Lit.int .u8 n).wf = true) : Bytes l := fun n hn => by
  have := h n hn
  simp [Lit.wf, IntKind.min, IntKind.max, IntKind.signed, IntKind.bits] at this
  omega
theorem letter_f (a : Int) : spec_l1Letter.f a = some (Int.tmod a 7) := rfl
theorem clamp_bd (a b x : Int) (h : a ≤ b) : a ≤ mx a (mn b x) ∧ mx a (mn b x) ≤ b := by
  unfold mx mn
  constructor <;> (repeat' split) <;> omega
theorem mel_end (l : List Int) (h : Rdr l) (acc : List S43) (n : Nat) (x p : Int) (hn : n ≤ 20) (ha : acc.length = n) (hp : 0 ≤ p) (hp' : p ≤ 100000) :
    ∃ m q, m.length = n ∧ p ≤ q ∧ q ≤ p + 2 ∧ ∀ k, 2 ≤ k → spec_l91Melody.l0 k acc (n : Int) x (n : Int) l p = some (m, q) := by
  by_cases h0 : n = 0
  · refine ⟨acc, p, ha, by omega, by omega, fun k hk => ?_⟩
    obtain ⟨k, rfl⟩ : ∃ m, k = m + 1 := ⟨k - 1, by omega⟩
    simp only [spec_l91Melody.l0]
    rw [if_neg (by omega), if_neg (by omega)]
  · by_cases h1 : pk l p 50 = 0
    · obtain ⟨v0, v1⟩ := pk_bd h (p + 1) 3 (by omega) (by omega) (by omega) (by omega)
      refine ⟨acc.set (0 : Int).toNat ⟨rd ([-1, 21, 20] : List Int) (pk l (p + 1) 3), (rd_T43 acc 0).f1⟩, p + 1 + 1, by simp [ha], by omega, by omega, fun k hk => ?_⟩
      obtain ⟨k, rfl⟩ : ∃ m, k = m + 1 := ⟨k - 1, by omega⟩
      simp only [spec_l91Melody.l0]
      rw [if_neg (by omega), if_pos (by omega), pk_f h p 50 k (by omega) (by omega) (by omega) (by omega) (by omega)]
      simp only [Option.bind_some]
      rw [if_pos h1, pk_f h (p + 1) 3 k (by omega) (by omega) (by omega) (by omega) (by omega)]
      simp only [Option.bind_some]
      rw [if_pos v0, if_pos (by simpa using v1), if_pos (by omega)]
    · by_cases h2 : pk l p 50 = 1
      · have e : wrap64 ((n : Int) - 1) = ((n - 1 : Nat) : Int) := by rw [w0 (by omega) (by omega)]; omega
        refine ⟨acc.set (((n - 1 : Nat) : Int)).toNat ⟨(rd_T43 acc ((n - 1 : Nat) : Int)).f0, true⟩, p + 1, by simp [ha], by omega, by omega, fun k hk => ?_⟩
        obtain ⟨k, rfl⟩ : ∃ m, k = m + 1 := ⟨k - 1, by omega⟩
        simp only [spec_l91Melody.l0]
        rw [if_neg (by omega), if_pos (by omega), pk_f h p 50 k (by omega) (by omega) (by omega) (by omega) (by omega)]
        simp only [Option.bind_some]
        rw [if_neg h1, if_pos h2, e, if_pos (by omega), if_pos (by omega)]
      · refine ⟨acc, p + 1, ha, by omega, by omega, fun k hk => ?_⟩
        obtain ⟨k, rfl⟩ : ∃ m, k = m + 1 := ⟨k - 1, by omega⟩
        simp only [spec_l91Melody.l0]
        rw [if_neg (by omega), if_pos (by omega), pk_f h p 50 k (by omega) (by omega) (by omega) (by omega) (by omega)]
        simp only [Option.bind_some]
        rw [if_neg h1, if_neg h2]
theorem mel_l0 (l : List Int) (h : Rdr l) (n : Nat) (hn : n ≤ 20) : ∀ (d i : Nat) (acc : List S43) (x p : Int), i + d = n → acc.length = i → 0 ≤ x → x ≤ 20 → 0 ≤ p → p ≤ 10000 + 2 * i →
    ∃ m q, m.length = n ∧ p ≤ q ∧ q ≤ p + 2 * d + 2 ∧ ∀ k, d + 2 ≤ k → spec_l91Melody.l0 k acc (n : Int) x (i : Int) l p = some (m, q) := by
  intro d
  induction d with
  | zero =>
    intro i acc x p hi ha h0 h1 hp hp'
    have e : i = n := by omega
    subst e
    obtain ⟨m, q, hm, q0, q1, hq⟩ := mel_end l h acc i x p hn ha hp (by omega)
    exact ⟨m, q, hm, q0, by omega, fun k hk => hq k (by omega)⟩
  | succ d ih =>
    intro i acc x p hi ha h0 h1 hp hp'
    by_cases hx : Int.tmod x 7 = 2
    · obtain ⟨v0, v1⟩ := pk_bd h (p + 1) 5 (by omega) (by omega) (by omega) (by omega)
      obtain ⟨c0, c1⟩ := clamp_bd 1 15 (x + pk l (p + 1) 5 - 2) (by omega)
      obtain ⟨m, q, hm, q0, q1, hq⟩ := ih (i + 1) (acc ++ [⟨x, pk l p 3 == 0⟩]) (mx 1 (mn 15 (x + pk l (p + 1) 5 - 2))) (p + 1 + 1) (by omega) (by simp [ha]) (by omega) (by omega) (by omega) (by omega)
      refine ⟨m, q, hm, by omega, by omega, fun k hk => ?_⟩
      obtain ⟨k, rfl⟩ : ∃ m, k = m + 1 := ⟨k - 1, by omega⟩
      simp only [spec_l91Melody.l0]
      rw [if_pos (by omega), letter_f]
      simp only [Option.bind_some]
      rw [if_pos hx, pk_f h p 3 k (by omega) (by omega) (by omega) (by omega) (by omega)]
      simp only [Option.bind_some]
      rw [if_pos (by omega), pk_f h (p + 1) 5 k (by omega) (by omega) (by omega) (by omega) (by omega)]
      simp only [Option.bind_some]
      rw [w1 (by omega), w0 (i := x + pk l (p + 1) 5) (by omega) (by omega), w0 (i := x + pk l (p + 1) 5 - 2) (by omega) (by omega)]
      exact hq k (by omega)
    · obtain ⟨v0, v1⟩ := pk_bd h p 5 (by omega) (by omega) (by omega) (by omega)
      obtain ⟨c0, c1⟩ := clamp_bd 1 15 (x + pk l p 5 - 2) (by omega)
      obtain ⟨m, q, hm, q0, q1, hq⟩ := ih (i + 1) (acc ++ [⟨x, false⟩]) (mx 1 (mn 15 (x + pk l p 5 - 2))) (p + 1) (by omega) (by simp [ha]) (by omega) (by omega) (by omega) (by omega)
      refine ⟨m, q, hm, by omega, by omega, fun k hk => ?_⟩
      obtain ⟨k, rfl⟩ : ∃ m, k = m + 1 := ⟨k - 1, by omega⟩
      simp only [spec_l91Melody.l0]
      rw [if_pos (by omega), letter_f]
      simp only [Option.bind_some]
      rw [if_neg hx, if_pos (by omega), pk_f h p 5 k (by omega) (by omega) (by omega) (by omega) (by omega)]
      simp only [Option.bind_some]
      rw [w1 (by omega), w0 (i := x + pk l p 5) (by omega) (by omega), w0 (i := x + pk l p 5 - 2) (by omega) (by omega)]
      exact hq k (by omega)
theorem mel_d (l : List Int) (h : Rdr l) (p : Int) (a : Nat) (ha : a ≤ 20) (hp : 0 ≤ p) (hp' : p ≤ 5000) : ∃ m q, m.length ≤ a ∧ p ≤ q ∧ q ≤ p + 100 ∧ ∀ k, 40 ≤ k → spec_l91Melody.f k l p (a : Int) = some (m, q) := by
  obtain ⟨v0, v1⟩ := pk_bd h p ((a : Int) + 1) (by omega) (by omega) (by omega) (by omega)
  obtain ⟨u0, u1⟩ := pk_bd h (p + 1) 5 (by omega) (by omega) (by omega) (by omega)
  obtain ⟨n, hn⟩ := Int.eq_ofNat_of_zero_le v0
  obtain ⟨m, q, hm, q0, q1, hq⟩ := mel_l0 l h n (by omega) n 0 [] (4 + pk l (p + 1) 5) (p + 1 + 1) (by omega) rfl (by omega) (by omega) (by omega) (by omega)
  refine ⟨m, q, by omega, by omega, by omega, fun k hk => ?_⟩
  unfold spec_l91Melody.f
  rw [w0 (i := (a : Int) + 1) (by omega) (by omega), pk_f h p ((a : Int) + 1) k (by omega) (by omega) (by omega) (by omega) (by omega)]
  simp only [Option.bind_some]
  rw [pk_f h (p + 1) 5 k (by omega) (by omega) (by omega) (by omega) (by omega)]
  simp only [Option.bind_some]
  rw [w0 (i := 4 + pk l (p + 1) 5) (by omega) (by omega), hn]
  exact hq k (by omega)
def PA (l : List S61) (a : Int) : Int × Bool × Bool := if PV l = true then (if 0 ≤ a then (if a < ((expand l).length : Int) then (((expand l).getD a.toNat z43).f0, ((expand l).getD a.toNat z43).f1, true) else (0, false, false)) else (0, false, false)) else (0, false, false)
theorem pai_f (l : List S61) (a : Int) (k : Nat) (hk : 13 ≤ k) : impl_PartAt.f k l a = some (PA l a) := by
  unfold impl_PartAt.f PA
  rw [pvi_f l k hk]
  rfl
theorem pbi_f (l : List S61) (k : Nat) (hk : 13 ≤ k) : impl_PartBeats.f k l = some (PB l) := by
  unfold impl_PartBeats.f PB
  rw [pvi_f l k hk]
  simp only [Option.bind_some]
  by_cases h : PV l = true
  · rw [if_pos h, if_pos h, expand_sum l (PV_all h)]
  · rw [if_neg h, if_neg h]
theorem dpm_end (l : List Int) (h : Rdr l) (m : List S43) (acc : List Int) (n : Nat) (p : Int) (hm : m.length = n) (ha : acc.length = n) (hp : 0 ≤ p) (hp' : p ≤ 100000) :
    ∃ s, s.length ≤ n ∧ ∀ k, 2 ≤ k → spec_DrawPartMake.l0 k m acc (n : Int) l p = some (m, s) := by
  by_cases h0 : n = 0
  · refine ⟨acc, by omega, fun k hk => ?_⟩
    obtain ⟨k, rfl⟩ : ∃ m, k = m + 1 := ⟨k - 1, by omega⟩
    simp only [spec_DrawPartMake.l0]
    rw [if_neg (by omega), if_neg (by omega)]
  · by_cases h1 : pk l p 20 = 0
    · obtain ⟨v0, v1⟩ := pk_bd h (p + 1) 2 (by omega) (by omega) (by omega) (by omega)
      refine ⟨acc.set (0 : Int).toNat (rd ([0, 4] : List Int) (pk l (p + 1) 2)), by simp [ha], fun k hk => ?_⟩
      obtain ⟨k, rfl⟩ : ∃ m, k = m + 1 := ⟨k - 1, by omega⟩
      simp only [spec_DrawPartMake.l0]
      rw [if_neg (by omega), if_pos (by omega), pk_f h p 20 k (by omega) (by omega) (by omega) (by omega) (by omega)]
      simp only [Option.bind_some]
      rw [if_pos h1, pk_f h (p + 1) 2 k (by omega) (by omega) (by omega) (by omega) (by omega)]
      simp only [Option.bind_some]
      rw [if_pos v0, if_pos (by simpa using v1), if_pos (by omega)]
    · by_cases h2 : pk l p 20 = 1
      · refine ⟨acc.drop (1 : Int).toNat, by simp [ha], fun k hk => ?_⟩
        obtain ⟨k, rfl⟩ : ∃ m, k = m + 1 := ⟨k - 1, by omega⟩
        simp only [spec_DrawPartMake.l0]
        rw [if_neg (by omega), if_pos (by omega), pk_f h p 20 k (by omega) (by omega) (by omega) (by omega) (by omega)]
        simp only [Option.bind_some]
        rw [if_neg h1, if_pos h2, if_pos (by omega)]
      · refine ⟨acc, by omega, fun k hk => ?_⟩
        obtain ⟨k, rfl⟩ : ∃ m, k = m + 1 := ⟨k - 1, by omega⟩
        simp only [spec_DrawPartMake.l0]
        rw [if_neg (by omega), if_pos (by omega), pk_f h p 20 k (by omega) (by omega) (by omega) (by omega) (by omega)]
        simp only [Option.bind_some]
        rw [if_neg h1, if_neg h2]
theorem dpm_l0 (l : List Int) (h : Rdr l) (m : List S43) (n : Nat) (hm : m.length = n) (hn : n ≤ 20) : ∀ (d i : Nat) (acc : List Int) (p : Int), i + d = n → acc.length = i → 0 ≤ p → p ≤ 10000 + i →
    ∃ s, s.length ≤ n ∧ ∀ k, d + 2 ≤ k → spec_DrawPartMake.l0 k m acc (i : Int) l p = some (m, s) := by
  intro d
  induction d with
  | zero =>
    intro i acc p hi ha hp hp'
    have e : i = n := by omega
    subst e
    exact dpm_end l h m acc i p hm ha hp (by omega)
  | succ d ih =>
    intro i acc p hi ha hp hp'
    obtain ⟨v0, v1⟩ := pk_bd h p 3 (by omega) (by omega) (by omega) (by omega)
    obtain ⟨s, hs, hq⟩ := ih (i + 1) (acc ++ [1 + pk l p 3]) (p + 1) (by omega) (by simp [ha]) (by omega) (by omega)
    refine ⟨s, hs, fun k hk => ?_⟩
    obtain ⟨k, rfl⟩ : ∃ m, k = m + 1 := ⟨k - 1, by omega⟩
    simp only [spec_DrawPartMake.l0]
    rw [if_pos (by omega), pk_f h p 3 k (by omega) (by omega) (by omega) (by omega) (by omega)]
    simp only [Option.bind_some]
    rw [if_pos (by omega), w1 (by omega), w0 (i := 1 + pk l p 3) (by omega) (by omega)]
    exact hq k (by omega)
theorem dpm_d (l : List Int) (hl : Bytes l) : ∃ m s, m.length ≤ 7 ∧ ∀ k, 60 ≤ k → spec_DrawPartMake.f k l = some (m, s) := by
  obtain ⟨o, ho, h⟩ := open_f l hl
  obtain ⟨m, q, hm, q0, q1, hq⟩ := mel_d o h 0 7 (by omega) (by omega) (by omega)
  obtain ⟨s, _, hs⟩ := dpm_l0 o h m m.length rfl (by omega) m.length 0 [] q (by omega) rfl (by omega) (by omega)
  refine ⟨m, s, hm, fun k hk => ?_⟩
  have hq' := hq k (by omega)
  unfold spec_DrawPartMake.f
  rw [ho]
  simp only [Option.bind_some]
  rw [show ((7 : Nat) : Int) = 7 from rfl] at hq'
  rw [hq']
  simp only [Option.bind_some]
  exact hs k (by omega)
theorem sameV_l0 (xs : List S61) (hb : xs.length ≤ 1048576) : ∀ (d i k : Nat), i + d = xs.length → d < k → laws_sameVoices.l0 k xs xs (i : Int) = some true := by
  intro d
  induction d with
  | zero =>
    intro i k hi hk
    obtain ⟨k, rfl⟩ : ∃ m, k = m + 1 := ⟨k - 1, by omega⟩
    simp only [laws_sameVoices.l0]
    rw [if_neg (by omega)]
  | succ d ih =>
    intro i k hi hk
    obtain ⟨k, rfl⟩ : ∃ m, k = m + 1 := ⟨k - 1, by omega⟩
    simp only [laws_sameVoices.l0]
    rw [if_pos (by omega), if_pos (by omega), if_pos (by omega), if_neg (by simp), w1 (by omega)]
    exact ih (i + 1) k (by omega) (by omega)
theorem sameV_f (xs : List S61) (k : Nat) (hb : xs.length ≤ 1048576) (hk : xs.length < k) : laws_sameVoices.f k xs xs = some true := by
  unfold laws_sameVoices.f
  rw [if_pos rfl]
  simpa using sameV_l0 xs hb xs.length 0 k (by omega) hk
theorem zip_sum (l : List S43) : ∀ (s : List Int), s.length = l.length → sumB (List.zipWith mkv l s) = s.sum := by
  induction l with
  | nil => intro s hs; rw [List.length_eq_zero_iff.mp hs]; rfl
  | cons t l ih =>
    intro s hs
    match s, hs with
    | x :: s, hs =>
      rw [List.zipWith_cons_cons, sumB_cons, ih s (by simpa using hs), List.sum_cons]
      rfl
theorem PM_full {m : List S43} {s : List Int} (h : (PM m s).2 = true) : (PM m s).1 = List.zipWith mkv m s ∧ s.length = m.length ∧ PV (List.zipWith mkv m s) = true := by
  unfold PM fin at h ⊢
  by_cases h1 : MV m = true
  · rw [if_pos h1] at h ⊢
    by_cases h2 : s.length = m.length
    · rw [if_pos h2] at h ⊢
      by_cases h3 : PV (List.zipWith mkv m s) = true
      · rw [if_pos h3]
        exact ⟨rfl, h2, h3⟩
      · rw [if_neg h3] at h
        exact absurd h (by decide)
    · rw [if_neg h2] at h
      exact absurd h (by decide)
  · rw [if_neg h1] at h
    exact absurd h (by decide)
theorem zip_bd (l : List S43) : ∀ (s : List Int), s.length = l.length → (List.zipWith mkv l s).all vv = true → ∀ x ∈ s, 1 ≤ x ∧ x ≤ 3 := by
  induction l with
  | nil => intro s hs _; rw [List.length_eq_zero_iff.mp hs]; intro x hx; exact absurd hx (List.not_mem_nil)
  | cons t l ih =>
    intro s hs hv
    match s, hs with
    | y :: s, hs =>
      rw [List.zipWith_cons_cons, List.all_cons, Bool.and_eq_true] at hv
      have hb := vv_bd hv.1
      intro x hx
      rcases List.mem_cons.1 hx with rfl | hx
      · have e : (mkv t x).f1 = x := rfl
        rw [e] at hb
        exact hb
      · exact ih s (by simpa using hs) hv.2 x hx
theorem ex_at : ∀ (m : List S43) (s : List Int), s.length = m.length → (∀ x ∈ s, 1 ≤ x ∧ x ≤ 3) → ∀ (i : Nat) (hi : i < m.length) (hs : i < s.length) (j : Int), 0 ≤ j → j < s[i] →
    (expand (List.zipWith mkv m s)).getD ((s.take i).sum + j).toNat z43 = ⟨m[i].f0, m[i].f1⟩ ∧ (s.take i).sum + j < ((expand (List.zipWith mkv m s)).length : Int) ∧ 0 ≤ (s.take i).sum
  | [], s, _, _, i, hi, _, _, _, _ => absurd hi (Nat.not_lt_zero _)
  | t :: m, [], hl, _, _, _, _, _, _, _ => by simp at hl
  | t :: m, x :: s, hl, hb, 0, _, _, j, h0, h1 => by
    have h1' : j < x := h1
    have hx := hb x (List.mem_cons_self ..)
    rw [List.zipWith_cons_cons, expand_cons, List.take_zero, List.sum_nil, Int.zero_add]
    have e : (mkv t x).f1 = x := rfl
    rw [e]
    refine ⟨?_, ?_, by omega⟩
    · rw [List.getD_eq_getElem?_getD, List.getElem?_append_left (by rw [List.length_replicate]; omega), List.getElem?_replicate, if_pos (by omega)]
      rfl
    · rw [List.length_append, List.length_replicate]
      omega
  | t :: m, x :: s, hl, hb, i + 1, hi, hs, j, h0, h1 => by
    have hx := hb x (List.mem_cons_self ..)
    have h1' : j < s[i]'(by simpa using hs) := h1
    obtain ⟨q0, q1, q2⟩ := ex_at m s (by simpa using hl) (fun y hy => hb y (List.mem_cons_of_mem _ hy)) i (by simpa using hi) (by simpa using hs) j h0 h1'
    rw [List.zipWith_cons_cons, expand_cons, List.take_succ_cons, List.sum_cons]
    have e : (mkv t x).f1 = x := rfl
    rw [e]
    refine ⟨?_, ?_, by omega⟩
    · rw [List.getD_eq_getElem?_getD, List.getElem?_append_right (by rw [List.length_replicate]; omega), List.length_replicate, show (x + (s.take i).sum + j).toNat - x.toNat = ((s.take i).sum + j).toNat by omega, ← List.getD_eq_getElem?_getD, q0]
      rfl
    · rw [List.length_append, List.length_replicate]
      omega
theorem take_sum (s : List Int) (i : Nat) (hi : i < s.length) : (s.take (i + 1)).sum = (s.take i).sum + s[i] := by
  rw [List.take_succ_eq_append_getElem hi, List.sum_append, List.sum_cons, List.sum_nil, Int.add_zero]
theorem take_bd (s : List Int) (h : ∀ x ∈ s, 1 ≤ x ∧ x ≤ 3) : ∀ i, i ≤ s.length → 0 ≤ (s.take i).sum ∧ (s.take i).sum ≤ 3 * i := by
  intro i
  induction i with
  | zero => intro _; simp
  | succ i ih =>
    intro hi
    have h1 := ih (by omega)
    have h2 := h _ (List.getElem_mem (show i < s.length by omega))
    rw [take_sum s i (by omega)]
    omega
theorem sumOf_l0 (s : List Int) (h : ∀ x ∈ s, 1 ≤ x ∧ x ≤ 3) (hl : s.length ≤ 100) : ∀ (d i k : Nat), i + d = s.length → d < k → laws_sumOf.l0 k s (s.take i).sum (i : Int) = some s.sum := by
  intro d
  induction d with
  | zero =>
    intro i k hi hk
    obtain ⟨k, rfl⟩ : ∃ m, k = m + 1 := ⟨k - 1, by omega⟩
    simp only [laws_sumOf.l0]
    rw [if_neg (by omega), List.take_of_length_le (by omega)]
  | succ d ih =>
    intro i k hi hk
    obtain ⟨k, rfl⟩ : ∃ m, k = m + 1 := ⟨k - 1, by omega⟩
    have hx : i < s.length := by omega
    have b1 := take_bd s h i (by omega)
    have b2 := h _ (List.getElem_mem hx)
    simp only [laws_sumOf.l0]
    rw [if_pos (by omega), if_pos (by omega), rd_at s i hx, w1 (by omega), w0 (by omega) (by omega), ← take_sum s i hx]
    exact ih (i + 1) k (by omega) (by omega)
theorem sumOf_f (s : List Int) (h : ∀ x ∈ s, 1 ≤ x ∧ x ≤ 3) (hl : s.length ≤ 100) (k : Nat) (hk : s.length < k) : laws_sumOf.f k s = some s.sum := by
  unfold laws_sumOf.f
  simpa using sumOf_l0 s h hl s.length 0 k (by omega) hk
theorem PA_in (m : List S43) (s : List Int) (hs : s.length = m.length) (hb : ∀ x ∈ s, 1 ≤ x ∧ x ≤ 3) (hP : PV (List.zipWith mkv m s) = true) (i : Nat) (hi : i < m.length) (hi' : i < s.length) (j : Int) (h0 : 0 ≤ j) (h1 : j < s[i]) : PA (List.zipWith mkv m s) ((s.take i).sum + j) = (m[i].f0, m[i].f1, true) := by
  obtain ⟨q0, q1, q2⟩ := ex_at m s hs hb i hi hi' j h0 h1
  unfold PA
  rw [if_pos hP, if_pos (by omega), if_pos q1, q0]
theorem part_loop (m : List S43) (s : List Int) (hs : s.length = m.length) (hm : m.length ≤ 24) (hb : ∀ x ∈ s, 1 ≤ x ∧ x ≤ 3) (hP : PV (List.zipWith mkv m s) = true) : ∀ (d i k : Nat), i + d = m.length → d + 40 < k →
    laws_FnPart.l0 k m s (List.zipWith mkv m s) (s.take i).sum (i : Int) = some true := by
  intro d
  induction d with
  | zero =>
    intro i k hi hk
    obtain ⟨k, rfl⟩ : ∃ m, k = m + 1 := ⟨k - 1, by omega⟩
    simp only [laws_FnPart.l0]
    rw [if_neg (by omega)]
  | succ d ih =>
    intro i k hi hk
    obtain ⟨k, rfl⟩ : ∃ m, k = m + 1 := ⟨k - 1, by omega⟩
    have hx : i < m.length := by omega
    have hy : i < s.length := by omega
    have b1 := take_bd s hb i (by omega)
    have b2 := hb _ (List.getElem_mem hy)
    have p0 := PA_in m s hs hb hP i hx hy 0 (by omega) (by omega)
    have p1 := PA_in m s hs hb hP i hx hy (s[i] - 1) (by omega) (by omega)
    rw [Int.add_zero] at p0
    simp only [laws_FnPart.l0]
    rw [if_pos (by omega), pai_f _ _ k (by omega), Option.bind_some, if_pos (by omega), if_pos (by omega), pai_f _ _ k (by omega), Option.bind_some, rd_at s i hy, rdt_at m i hx, w0 (i := (s.take i).sum + s[i]) (by omega) (by omega), w0 (i := (s.take i).sum + s[i] - 1) (by omega) (by omega), p0, show (s.take i).sum + s[i] - 1 = (s.take i).sum + (s[i] - 1) by omega, p1]
    dsimp only
    rw [if_pos rfl, if_pos rfl, if_neg (by simp), if_neg (by simp), w1 (by omega), ← take_sum s i hy]
    exact ih (i + 1) k (by omega) (by omega)
theorem FnPart : ∀ (l0 : List Int), l0.length ≤ maxLen → l0.length * 1 ≤ 140737488351232 → (∀ n ∈ l0, (Lit.int .u8 n).wf = true) → ∃ k, laws_FnPart.f k l0 = some true := by
  intro l0 z1 z2 hw
  refine ⟨304, ?_⟩
  unfold laws_FnPart.f
  by_cases h : (l0.length : Int) > 1048576
  · rw [if_pos h]
  · obtain ⟨m, s, hm, hd⟩ := dpm_d l0 (bytes_of hw)
    rw [if_neg h, hd 304 (by omega)]
    have hp := PM_len m s
    have hok := PM_full (m := m) (s := s)
    simp (disch := omega) only [pms_f, pmi_f, Option.bind_some]
    obtain ⟨p, hpe⟩ : ∃ p, p = PM m s := ⟨_, rfl⟩
    rw [← hpe] at hp hok ⊢
    rw [bne_self_eq_false, if_neg (by decide)]
    simp (disch := omega) only [sameV_f, Option.bind_some, if_true]
    cases hk : p.2 with
    | false =>
      rw [Bool.not_false, laws_FnPart.j0, if_pos rfl, if_pos (by rfl)]
      simp (disch := omega) only [sameV_f, Option.bind_some]
    | true =>
      obtain ⟨e1, e2, e3⟩ := hok hk
      have hb := zip_bd m s e2 (PV_all e3)
      rw [Bool.not_true, laws_FnPart.j0, if_neg (by decide), e1]
      simp (disch := omega) only [pbi_f, Option.bind_some]
      rw [sumOf_f s hb (by omega) 303 (by omega), Option.bind_some]
      unfold PB
      rw [if_pos e3, zip_sum m s e2, if_pos rfl, laws_FnPart.j1, show ((((List.zipWith mkv m s).length : Int) != (m.length : Int)) = false) by simp [e2], if_neg (by decide)]
      simpa using part_loop m s e2 (by omega) hb e3 m.length 0 302 (by omega) (by omega)

end Go.Proofs.Ytgiobmceippanaa.PureFnPart
