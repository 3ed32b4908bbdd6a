import Derived.Test.YtgiobmceippanaaLBase
import Derived.Test.YtgiobmceippanaaLTone
import Derived.Test.YtgiobmceippanaaGx4
import Derived.Test.YtgiobmceippanaaGx8
import Derived.Test.YtgiobmceippanaaGx3
import Derived.Test.YtgiobmceippanaaGx5
namespace Go.Proofs.Ytgiobmceippanaa.LVoice
open Go.RowKit Go.Proofs.Ytgiobmceippanaa.G Go.Proofs.YtgiobmceippanaaW.PrintWords Go.Proofs.YtgiobmceippanaaW.PrintLast Go.Proofs.YtgiobmceippanaaW.PrintMore Go.Proofs.Ytgiobmceippanaa.LBase Go.Proofs.Ytgiobmceippanaa.LTone
set_option linter.unusedVariables false
set_option linter.unusedSimpArgs false
def vv (v : S61) : Bool := tv v.f0.f0 v.f0.f1 && (decide (1 ≤ v.f1) && decide (v.f1 ≤ 3))
theorem rdv_at (xs : List S61) (i : Nat) (h : i < xs.length) : rd_T61 xs (i : Int) = xs[i] := by
  simp [rd_T61, List.getD_eq_getElem?_getD, h]
theorem rdlv_at (xs : List S65) (i : Nat) (h : i < xs.length) : rd_T65 xs (i : Int) = xs[i] := by
  simp [rd_T65, List.getD_eq_getElem?_getD, h]
def conv (v : S65) : S61 := ⟨⟨v.f0.f0, v.f0.f1⟩, v.f1⟩
theorem toVoiceS_l0 : ∀ (xs : List S65) (zs pre : List S61) (pre0 : List S65) (k : Nat), zs.length = xs.length → pre.length = pre0.length → (pre0 ++ xs).length < 4611686018427387904 → xs.length < k → laws_toVoiceS.l0 k (pre0 ++ xs) (pre ++ zs) (pre0.length : Int) = some (pre ++ xs.map conv) := by
  intro xs
  induction xs with
  | nil =>
    intro zs pre pre0 k hz hp hb hk
    obtain ⟨k, rfl⟩ : ∃ m, k = m + 1 := ⟨k - 1, by omega⟩
    simp only [laws_toVoiceS.l0]
    rw [if_neg (by simp)]
    have : zs = [] := List.length_eq_zero_iff.mp hz
    rw [this]
    rfl
  | cons x xs ih =>
    intro zs pre pre0 k hz hp hb hk
    obtain ⟨k, rfl⟩ : ∃ m, k = m + 1 := ⟨k - 1, by omega⟩
    match zs, hz with
    | z :: zs, hz =>
    simp only [List.length_append, List.length_cons] at hb hk hz
    have hq : pre0.length < (pre0 ++ x :: xs).length := by simp
    have hq2 : pre0.length < (pre ++ z :: zs).length := by simp [hp]
    have e1 : (pre0 ++ x :: xs)[pre0.length]'hq = x := by simp
    simp only [laws_toVoiceS.l0]
    rw [if_pos (by omega), if_pos (by omega), rdlv_at _ _ hq, e1]
    simp only [laws_toVoice.f, laws_toTone.f, Option.bind_some]
    rw [if_pos (by omega), w1 (by omega)]
    have e2 : (pre ++ z :: zs).set ((pre0.length : Int)).toNat (conv x) = (pre ++ [conv x]) ++ zs := by simp [← hp]
    have := ih zs (pre ++ [conv x]) (pre0 ++ [x]) k (by omega) (by simp [hp]) (by simp; omega) (by omega)
    rw [show (⟨⟨x.f0.f0, x.f0.f1⟩, x.f1⟩ : S61) = conv x from rfl, e2]
    simpa using this
theorem toVoiceS_f (xs : List S65) (k : Nat) (hb : xs.length ≤ 1048576) (hk : xs.length < k) : laws_toVoiceS.f k xs = some (xs.map conv) := by
  unfold laws_toVoiceS.f
  rw [if_pos (by omega), if_pos (by omega)]
  simpa using toVoiceS_l0 xs (List.replicate xs.length z61) [] [] k (by simp) rfl (by simp; omega) hk
theorem eqVoice_self (v : S61) : laws_eqVoice.f v.f0.f0 v.f0.f1 v.f1 v.f0.f0 v.f0.f1 v.f1 = some true := by
  simp [laws_eqVoice.f, laws_eqTone.f]
theorem eqVoiceS_l0 (xs : List S61) (hb : xs.length < 4611686018427387904) : ∀ (d i k : Nat), i + d = xs.length → d < k → laws_eqVoiceS.l0 k xs xs (i : Int) = some true := by
  intro d
  induction d with
  | zero =>
    intro i k hi hk
    obtain ⟨k, rfl⟩ : ∃ m, k = m + 1 := ⟨k - 1, by omega⟩
    simp only [laws_eqVoiceS.l0]
    rw [if_neg (by omega)]
  | succ d ih =>
    intro i k hi hk
    obtain ⟨k, rfl⟩ : ∃ m, k = m + 1 := ⟨k - 1, by omega⟩
    simp only [laws_eqVoiceS.l0]
    rw [if_pos (by omega), if_pos (by omega), if_pos (by omega), rdv_at xs i (by omega), eqVoice_self]
    simp only [Option.bind_some, if_true]
    rw [w1 (by omega)]
    exact ih (i + 1) k (by omega) (by omega)
theorem eqVoiceS_f (xs : List S61) (k : Nat) (hb : xs.length ≤ 1048576) (hk : xs.length < k) : laws_eqVoiceS.f k xs xs = some true := by
  unfold laws_eqVoiceS.f
  rw [if_pos rfl]
  simpa using eqVoiceS_l0 xs (by omega) xs.length 0 k (by omega) hk
theorem szVoiceS_f (xs : List S65) (a : Int) (h0 : 0 ≤ a) (h1 : a ≤ 1048576) (hl : xs.length ≤ 9223372036854775807) : laws_szVoiceS.f xs a = some (if (xs.length : Int) ≤ a then a - xs.length else -1) := by
  unfold laws_szVoiceS.f
  rw [w0 (by omega) (by omega)]
  by_cases h : (xs.length : Int) ≤ a
  · rw [if_neg (by omega), if_pos h]
  · rw [if_pos (by omega), if_neg h]
def sumB (l : List S61) : Int := (l.map (·.f1)).sum
theorem sumB_cons (v : S61) (l : List S61) : sumB (v :: l) = v.f1 + sumB l := by simp [sumB]
theorem vv_bd {v : S61} (h : vv v = true) : 1 ≤ v.f1 ∧ v.f1 ≤ 3 := by
  unfold vv at h
  simp only [Bool.and_eq_true, decide_eq_true_eq] at h
  exact h.2
theorem sumB_bd (l : List S61) (h : l.all vv = true) : 0 ≤ sumB l ∧ sumB l ≤ 3 * l.length := by
  induction l with
  | nil => simp [sumB]
  | cons v l ih =>
    simp only [List.all_cons, Bool.and_eq_true] at h
    have h1 := vv_bd h.1
    have h2 := ih h.2
    rw [sumB_cons, List.length_cons]
    omega
def PV (l : List S61) : Bool := decide (l.length ≤ 12) && (l.all vv && decide (sumB l ≤ 24))
theorem PV_len {l : List S61} (h : PV l = true) : l.length ≤ 12 := by
  unfold PV at h
  simp only [Bool.and_eq_true, decide_eq_true_eq] at h
  exact h.1
theorem PV_all {l : List S61} (h : PV l = true) : l.all vv = true := by
  unfold PV at h
  simp only [Bool.and_eq_true, decide_eq_true_eq] at h
  exact h.2.1
theorem PV_sum {l : List S61} (h : PV l = true) : sumB l ≤ 24 := by
  unfold PV at h
  simp only [Bool.and_eq_true, decide_eq_true_eq] at h
  exact h.2.2
theorem beats_l0 (l : List S61) (hl : l.length ≤ 12) (hv : l.all vv = true) : ∀ (d i k : Nat) (a : Int), i + d = l.length → d < k → 0 ≤ a → a ≤ 3 * i → spec_l8Beats.l0 k l a (i : Int) = some (a + sumB (l.drop i)) := by
  intro d
  induction d with
  | zero =>
    intro i k a hi hk h0 h1
    obtain ⟨k, rfl⟩ : ∃ m, k = m + 1 := ⟨k - 1, by omega⟩
    simp only [spec_l8Beats.l0]
    rw [if_neg (by omega), List.drop_eq_nil_of_le (by omega)]
    simp [sumB]
  | succ d ih =>
    intro i k a hi hk h0 h1
    obtain ⟨k, rfl⟩ : ∃ m, k = m + 1 := ⟨k - 1, by omega⟩
    have hx : i < l.length := by omega
    have hb := vv_bd (List.all_eq_true.1 hv _ (List.getElem_mem hx))
    simp only [spec_l8Beats.l0]
    rw [if_pos (by omega), if_pos (by omega), rdv_at l i hx, w1 (by omega), w0 (by omega) (by omega), ih (i + 1) k _ (by omega) (by omega) (by omega) (by omega), List.drop_eq_getElem_cons hx, sumB_cons]
    congr 1
    omega
theorem beats_f (l : List S61) (hl : l.length ≤ 12) (hv : l.all vv = true) (k : Nat) (hk : 13 ≤ k) : spec_l8Beats.f k l = some (sumB l) := by
  unfold spec_l8Beats.f
  simpa using beats_l0 l hl hv l.length 0 k 0 (by omega) (by omega) (by omega) (by omega)
theorem pvs_l0 (l : List S61) (hb : l.length < 4611686018427387904) : ∀ (d i k : Nat), i + d = l.length → d + 14 < k → (l.take i).all vv = true → spec_PartValid.l0 k l (i : Int) = some (PV l) := by
  intro d
  induction d with
  | zero =>
    intro i k hi hk hv
    obtain ⟨k, rfl⟩ : ∃ m, k = m + 1 := ⟨k - 1, by omega⟩
    rw [List.take_of_length_le (by omega)] at hv
    simp only [spec_PartValid.l0]
    rw [if_neg (by omega)]
    unfold PV
    rw [hv]
    by_cases hl : l.length ≤ 12
    · rw [if_pos (by omega), beats_f l hl hv k (by omega), decide_eq_true hl]
      rfl
    · rw [if_neg (by omega), decide_eq_false hl]
      rfl
  | succ d ih =>
    intro i k hi hk hv
    obtain ⟨k, rfl⟩ : ∃ m, k = m + 1 := ⟨k - 1, by omega⟩
    have hx : i < l.length := by omega
    simp only [spec_PartValid.l0]
    rw [if_pos (by omega), if_pos (by omega), rdv_at l i hx, tv_spec, in_spec]
    simp only [Option.bind_some]
    by_cases hvi : vv l[i] = true
    · have hvi2 := hvi
      unfold vv at hvi2
      simp only [Bool.and_eq_true] at hvi2
      rw [if_pos hvi2.1, if_pos (by simpa using hvi2.2), w1 (by omega)]
      refine ih (i + 1) k (by omega) (by omega) ?_
      rw [List.take_succ_eq_append_getElem hx, List.all_append, hv]
      simp [hvi]
    · have hF : PV l = false := by
        have : l.all vv = false := by
          rw [Bool.eq_false_iff]
          intro h
          exact hvi (List.all_eq_true.1 h _ (List.getElem_mem hx))
        unfold PV
        rw [this]
        simp
      rw [hF]
      unfold vv at hvi
      by_cases h1 : tv l[i].f0.f0 l[i].f0.f1 = true
      · rw [if_pos h1]
        rw [h1, Bool.true_and] at hvi
        rw [if_neg hvi]
      · rw [if_neg h1]
theorem pvs_f (l : List S61) (hb : l.length ≤ 1048576) (k : Nat) (hk : l.length + 15 < k) : spec_PartValid.f k l = some (PV l) := by
  unfold spec_PartValid.f
  simpa using pvs_l0 l (by omega) l.length 0 k (by omega) (by omega) (by simp)
theorem pvi_l0 (l : List S61) (hl : l.length ≤ 12) : ∀ (d i k : Nat) (a : Int), i + d = l.length → d < k → 0 ≤ a → a ≤ 3 * i → impl_PartValid.l0 k a l (l.length : Int) (i : Int) = some ((l.drop i).all vv && decide (a + sumB (l.drop i) ≤ 24)) := by
  intro d
  induction d with
  | zero =>
    intro i k a hi hk h0 h1
    obtain ⟨k, rfl⟩ : ∃ m, k = m + 1 := ⟨k - 1, by omega⟩
    simp only [impl_PartValid.l0]
    rw [if_neg (by omega), List.drop_eq_nil_of_le (by omega)]
    simp [sumB]
  | succ d ih =>
    intro i k a hi hk h0 h1
    obtain ⟨k, rfl⟩ : ∃ m, k = m + 1 := ⟨k - 1, by omega⟩
    have hx : i < l.length := by omega
    simp only [impl_PartValid.l0]
    rw [if_pos (by omega), if_pos (by omega), if_pos (by omega), rdv_at l i hx, tv_impl, List.drop_eq_getElem_cons hx, sumB_cons, List.all_cons]
    simp only [Option.bind_some]
    by_cases ht : tv l[i].f0.f0 l[i].f0.f1 = true
    · rw [if_pos ht]
      by_cases h3 : l[i].f1 < 1
      · rw [if_pos h3]
        have : vv l[i] = false := by unfold vv; rw [decide_eq_false (show ¬ 1 ≤ l[i].f1 by omega)]; simp
        rw [this]
        rfl
      · rw [if_neg h3]
        by_cases h4 : l[i].f1 > 3
        · rw [if_pos h4]
          have : vv l[i] = false := by unfold vv; rw [decide_eq_false (show ¬ l[i].f1 ≤ 3 by omega)]; simp
          rw [this]
          rfl
        · have : vv l[i] = true := by unfold vv; rw [ht, decide_eq_true (show 1 ≤ l[i].f1 by omega), decide_eq_true (show l[i].f1 ≤ 3 by omega)]; rfl
          rw [if_neg h4, w1 (by omega), w0 (by omega) (by omega), ih (i + 1) k _ (by omega) (by omega) (by omega) (by omega), this, Bool.true_and, Int.add_assoc]
    · rw [if_neg ht]
      have : vv l[i] = false := by unfold vv; rw [Bool.eq_false_iff.mpr ht]; rfl
      rw [this]
      rfl
theorem pvi_f (l : List S61) (k : Nat) (hk : 13 ≤ k) : impl_PartValid.f k l = some (PV l) := by
  unfold impl_PartValid.f PV
  by_cases hl : l.length ≤ 12
  · rw [if_neg (by omega), decide_eq_true hl, Bool.true_and]
    simpa using pvi_l0 l hl l.length 0 k 0 (by omega) (by omega) (by omega) (by omega)
  · rw [if_pos (by omega), decide_eq_false hl]
    rfl

end Go.Proofs.Ytgiobmceippanaa.LVoice
