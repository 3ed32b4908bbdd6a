import Derived.Test.YtgiobmceippanaaLBase
import Derived.Test.YtgiobmceippanaaLTone
import Derived.Test.YtgiobmceippanaaGx26
import Derived.Test.YtgiobmceippanaaGx27
import Derived.Test.YtgiobmceippanaaGx28
import Derived.Test.YtgiobmceippanaaGx22
import Derived.Test.YtgiobmceippanaaGx20
namespace Go.Proofs.Ytgiobmceippanaa.LMelody
open Go.RowKit Go.Proofs.Ytgiobmceippanaa.G Go.Proofs.YtgiobmceippanaaW.PrintWords Go.Proofs.YtgiobmceippanaaW.PrintLast Go.Proofs.YtgiobmceippanaaW.PrintMore Go.Proofs.Ytgiobmceippanaa.LBase Go.Proofs.Ytgiobmceippanaa.LTone
set_option linter.unusedVariables false
set_option linter.unusedSimpArgs false
def tvv (t : S43) : Bool := tv t.f0 t.f1
theorem rdt_at (xs : List S43) (i : Nat) (h : i < xs.length) : rd_T43 xs (i : Int) = xs[i] := by
  simp [rd_T43, List.getD_eq_getElem?_getD, h]
theorem rdlt_at (xs : List S63) (i : Nat) (h : i < xs.length) : rd_T63 xs (i : Int) = xs[i] := by
  simp [rd_T63, List.getD_eq_getElem?_getD, h]
def convT (v : S63) : S43 := ⟨v.f0, v.f1⟩
theorem toToneS_l0 : ∀ (xs : List S63) (zs pre : List S43) (pre0 : List S63) (k : Nat), zs.length = xs.length → pre.length = pre0.length → (pre0 ++ xs).length < 4611686018427387904 → xs.length < k → laws_toToneS.l0 k (pre0 ++ xs) (pre ++ zs) (pre0.length : Int) = some (pre ++ xs.map convT) := by
  intro xs
  induction xs with
  | nil =>
    intro zs pre pre0 k hz hp hb hk
    obtain ⟨k, rfl⟩ : ∃ m, k = m + 1 := ⟨k - 1, by omega⟩
    simp only [laws_toToneS.l0]
    rw [if_neg (by simp)]
    have : zs = [] := List.length_eq_zero_iff.mp hz
    rw [this]
    rfl
  | cons x xs ih =>
    intro zs pre pre0 k hz hp hb hk
    obtain ⟨k, rfl⟩ : ∃ m, k = m + 1 := ⟨k - 1, by omega⟩
    match zs, hz with
    | z :: zs, hz =>
    simp only [List.length_append, List.length_cons] at hb hk hz
    have hq : pre0.length < (pre0 ++ x :: xs).length := by simp
    have hq2 : pre0.length < (pre ++ z :: zs).length := by simp [hp]
    have e1 : (pre0 ++ x :: xs)[pre0.length]'hq = x := by simp
    simp only [laws_toToneS.l0]
    rw [if_pos (by omega), if_pos (by omega), rdlt_at _ _ hq, e1]
    simp only [laws_toTone.f, Option.bind_some]
    rw [if_pos (by omega), w1 (by omega)]
    have e2 : (pre ++ z :: zs).set ((pre0.length : Int)).toNat (convT x) = (pre ++ [convT x]) ++ zs := by simp [← hp]
    have := ih zs (pre ++ [convT x]) (pre0 ++ [x]) k (by omega) (by simp [hp]) (by simp; omega) (by omega)
    rw [show (⟨x.f0, x.f1⟩ : S43) = convT x from rfl, e2]
    simpa using this
theorem toToneS_f (xs : List S63) (k : Nat) (hb : xs.length ≤ 1048576) (hk : xs.length < k) : laws_toToneS.f k xs = some (xs.map convT) := by
  unfold laws_toToneS.f
  rw [if_pos (by omega), if_pos (by omega)]
  simpa using toToneS_l0 xs (List.replicate xs.length z43) [] [] k (by simp) rfl (by simp; omega) hk
theorem toIntS_l0 : ∀ (xs zs pre pre0 : List Int) (k : Nat), zs.length = xs.length → pre.length = pre0.length → (pre0 ++ xs).length < 4611686018427387904 → xs.length < k → laws_toIntS.l0 k (pre0 ++ xs) (pre ++ zs) (pre0.length : Int) = some (pre ++ xs) := by
  intro xs
  induction xs with
  | nil =>
    intro zs pre pre0 k hz hp hb hk
    obtain ⟨k, rfl⟩ : ∃ m, k = m + 1 := ⟨k - 1, by omega⟩
    simp only [laws_toIntS.l0]
    rw [if_neg (by simp)]
    have : zs = [] := List.length_eq_zero_iff.mp hz
    rw [this]
  | cons x xs ih =>
    intro zs pre pre0 k hz hp hb hk
    obtain ⟨k, rfl⟩ : ∃ m, k = m + 1 := ⟨k - 1, by omega⟩
    match zs, hz with
    | z :: zs, hz =>
    simp only [List.length_append, List.length_cons] at hb hk hz
    have hq : pre0.length < (pre0 ++ x :: xs).length := by simp
    have hq2 : pre0.length < (pre ++ z :: zs).length := by simp [hp]
    have e1 : (pre0 ++ x :: xs)[pre0.length]'hq = x := by simp
    simp only [laws_toIntS.l0]
    rw [if_pos (by omega), if_pos (by omega), if_pos (by omega), rd_at _ _ hq, e1, w1 (by omega)]
    have e2 : (pre ++ z :: zs).set ((pre0.length : Int)).toNat x = (pre ++ [x]) ++ zs := by simp [← hp]
    have := ih zs (pre ++ [x]) (pre0 ++ [x]) k (by omega) (by simp [hp]) (by simp; omega) (by omega)
    rw [e2]
    simpa using this
theorem toIntS_f (xs : List Int) (k : Nat) (hb : xs.length ≤ 1048576) (hk : xs.length < k) : laws_toIntS.f k xs = some xs := by
  unfold laws_toIntS.f
  rw [if_pos (by omega), if_pos (by omega)]
  simpa using toIntS_l0 xs (List.replicate xs.length 0) [] [] k (by simp) rfl (by simp; omega) hk
theorem eqTone_self (v : S43) : laws_eqTone.f v.f0 v.f1 v.f0 v.f1 = some true := by
  simp [laws_eqTone.f]
theorem eqToneS_l0 (xs : List S43) (hb : xs.length < 4611686018427387904) : ∀ (d i k : Nat), i + d = xs.length → d < k → laws_eqToneS.l0 k xs xs (i : Int) = some true := by
  intro d
  induction d with
  | zero =>
    intro i k hi hk
    obtain ⟨k, rfl⟩ : ∃ m, k = m + 1 := ⟨k - 1, by omega⟩
    simp only [laws_eqToneS.l0]
    rw [if_neg (by omega)]
  | succ d ih =>
    intro i k hi hk
    obtain ⟨k, rfl⟩ : ∃ m, k = m + 1 := ⟨k - 1, by omega⟩
    simp only [laws_eqToneS.l0]
    rw [if_pos (by omega), if_pos (by omega), if_pos (by omega), rdt_at xs i (by omega), eqTone_self]
    simp only [Option.bind_some, if_true]
    rw [w1 (by omega)]
    exact ih (i + 1) k (by omega) (by omega)
theorem eqToneS_f (xs : List S43) (k : Nat) (hb : xs.length ≤ 1048576) (hk : xs.length < k) : laws_eqToneS.f k xs xs = some true := by
  unfold laws_eqToneS.f
  rw [if_pos rfl]
  simpa using eqToneS_l0 xs (by omega) xs.length 0 k (by omega) hk
theorem eqIntS_l0 (xs : List Int) (hb : xs.length < 4611686018427387904) : ∀ (d i k : Nat), i + d = xs.length → d < k → laws_eqIntS.l0 k xs xs (i : Int) = some true := by
  intro d
  induction d with
  | zero =>
    intro i k hi hk
    obtain ⟨k, rfl⟩ : ∃ m, k = m + 1 := ⟨k - 1, by omega⟩
    simp only [laws_eqIntS.l0]
    rw [if_neg (by omega)]
  | succ d ih =>
    intro i k hi hk
    obtain ⟨k, rfl⟩ : ∃ m, k = m + 1 := ⟨k - 1, by omega⟩
    simp only [laws_eqIntS.l0]
    rw [if_pos (by omega), if_pos (by omega), if_pos (by omega), if_pos trivial, w1 (by omega)]
    exact ih (i + 1) k (by omega) (by omega)
theorem eqIntS_f (xs : List Int) (k : Nat) (hb : xs.length ≤ 1048576) (hk : xs.length < k) : laws_eqIntS.f k xs xs = some true := by
  unfold laws_eqIntS.f
  rw [if_pos rfl]
  simpa using eqIntS_l0 xs (by omega) xs.length 0 k (by omega) hk
theorem szToneS_f (xs : List S63) (a : Int) (h0 : 0 ≤ a) (h1 : a ≤ 1048576) (hl : xs.length ≤ 9223372036854775807) : laws_szToneS.f xs a = some (if (xs.length : Int) ≤ a then a - xs.length else -1) := by
  unfold laws_szToneS.f
  rw [w0 (by omega) (by omega)]
  by_cases h : (xs.length : Int) ≤ a
  · rw [if_neg (by omega), if_pos h]
  · rw [if_pos (by omega), if_neg h]
def MV (l : List S43) : Bool := decide (l.length ≤ 24) && l.all tvv
theorem mvs_l0 (l : List S43) (hb : l.length < 4611686018427387904) : ∀ (d i k : Nat), i + d = l.length → d < k → (l.take i).all tvv = true → spec_MelodyValid.l0 k l (i : Int) = some (MV l) := by
  intro d
  induction d with
  | zero =>
    intro i k hi hk hv
    obtain ⟨k, rfl⟩ : ∃ m, k = m + 1 := ⟨k - 1, by omega⟩
    rw [List.take_of_length_le (by omega)] at hv
    simp only [spec_MelodyValid.l0]
    rw [if_neg (by omega)]
    unfold MV
    rw [hv, Bool.and_true]
    congr 1
    rw [decide_eq_decide]
    omega
  | succ d ih =>
    intro i k hi hk hv
    obtain ⟨k, rfl⟩ : ∃ m, k = m + 1 := ⟨k - 1, by omega⟩
    have hx : i < l.length := by omega
    simp only [spec_MelodyValid.l0]
    rw [if_pos (by omega), if_pos (by omega), rdt_at l i hx, tv_spec]
    simp only [Option.bind_some]
    by_cases hvi : tv l[i].f0 l[i].f1 = true
    · rw [if_pos hvi, w1 (by omega)]
      refine ih (i + 1) k (by omega) (by omega) ?_
      rw [List.take_succ_eq_append_getElem hx, List.all_append, hv]
      simp [tvv, hvi]
    · rw [if_neg hvi]
      have : l.all tvv = false := by
        rw [Bool.eq_false_iff]
        intro h
        exact hvi (List.all_eq_true.1 h _ (List.getElem_mem hx))
      unfold MV
      rw [this, Bool.and_false]
theorem mvs_f (l : List S43) (hb : l.length ≤ 1048576) (k : Nat) (hk : l.length < k) : spec_MelodyValid.f k l = some (MV l) := by
  unfold spec_MelodyValid.f
  simpa using mvs_l0 l (by omega) l.length 0 k (by omega) (by omega) (by simp)
theorem mvi_l0 (l : List S43) (hb : l.length < 4611686018427387904) : ∀ (d i k : Nat), i + d = l.length → d < k → impl_MelodyValid.l0 k l (l.length : Int) (i : Int) = some ((l.drop i).all tvv) := by
  intro d
  induction d with
  | zero =>
    intro i k hi hk
    obtain ⟨k, rfl⟩ : ∃ m, k = m + 1 := ⟨k - 1, by omega⟩
    simp only [impl_MelodyValid.l0]
    rw [if_neg (by omega), List.drop_eq_nil_of_le (by omega)]
    rfl
  | succ d ih =>
    intro i k hi hk
    obtain ⟨k, rfl⟩ : ∃ m, k = m + 1 := ⟨k - 1, by omega⟩
    have hx : i < l.length := by omega
    simp only [impl_MelodyValid.l0]
    rw [if_pos (by omega), if_pos (by omega), if_pos (by omega), rdt_at l i hx, tv_impl, List.drop_eq_getElem_cons hx, List.all_cons]
    simp only [Option.bind_some]
    by_cases ht : tv l[i].f0 l[i].f1 = true
    · rw [if_pos ht, w1 (by omega), ih (i + 1) k (by omega) (by omega), show tvv l[i] = true from ht, Bool.true_and]
    · rw [if_neg ht, show tvv l[i] = false from Bool.eq_false_iff.mpr ht, Bool.false_and]
theorem mvi_f (l : List S43) (k : Nat) (hk : 25 ≤ k) : impl_MelodyValid.f k l = some (MV l) := by
  unfold impl_MelodyValid.f MV
  by_cases h : l.length ≤ 24
  · rw [if_neg (by omega), decide_eq_true h, Bool.true_and]
    simpa using mvi_l0 l (by omega) l.length 0 k (by omega) (by omega)
  · rw [if_pos (by omega), decide_eq_false h, Bool.false_and]

end Go.Proofs.Ytgiobmceippanaa.LMelody
