import Derived.Test.YtgiobmceippanaaLBase
import Derived.Test.YtgiobmceippanaaLTone
import Derived.Test.YtgiobmceippanaaLVoice
import Derived.Test.YtgiobmceippanaaLMelody
import Derived.Test.YtgiobmceippanaaGx28
import Derived.Test.YtgiobmceippanaaGx29
namespace Go.Proofs.Ytgiobmceippanaa.LMark
open Go.RowKit Go.Proofs.Ytgiobmceippanaa.G Go.Proofs.YtgiobmceippanaaW.PrintWords Go.Proofs.YtgiobmceippanaaW.PrintLast Go.Proofs.YtgiobmceippanaaW.PrintMore Go.Proofs.Ytgiobmceippanaa.LBase Go.Proofs.Ytgiobmceippanaa.LTone Go.Proofs.Ytgiobmceippanaa.LVoice Go.Proofs.Ytgiobmceippanaa.LMelody
set_option linter.unusedVariables false
set_option linter.unusedSimpArgs false
def mkV (m : Int) : S61 := ⟨⟨m, Int.tmod (m + 1) 3 == 0⟩, m + 2⟩
def marksV : Int → Nat → List S61
  | _, 0 => []
  | m, n + 1 => mkV m :: marksV (m + 3) n
theorem marksV_length (n : Nat) : ∀ m, (marksV m n).length = n := by
  induction n with
  | zero => intro m; rfl
  | succ n ih => intro m; simp [marksV, ih]
theorem markV_l0 : ∀ (xs pre : List S61) (m : Int) (k : Nat), 0 ≤ m → m + 3 * xs.length < 4611686018427387904 → (pre ++ xs).length < 4611686018427387904 → xs.length < k →
    laws_markVoiceS.l0 k (pre ++ xs) m (pre.length : Int) = some (m + 3 * xs.length, pre ++ marksV m xs.length) := by
  intro xs
  induction xs with
  | nil =>
    intro pre m k hm hb hl hk
    obtain ⟨k, rfl⟩ : ∃ m, k = m + 1 := ⟨k - 1, by omega⟩
    simp only [laws_markVoiceS.l0]
    rw [if_neg (by simp)]
    simp [marksV]
  | cons x xs ih =>
    intro pre m k hm hb hl hk
    obtain ⟨k, rfl⟩ : ∃ m, k = m + 1 := ⟨k - 1, by omega⟩
    simp only [List.length_append, List.length_cons] at hb hl hk
    simp only [laws_markVoiceS.l0, Option.bind_some]
    rw [if_pos (by simp; omega), if_pos (by omega), w0 (i := m + 1) (by omega) (by omega), w0 (i := m + 1 + 1) (by omega) (by omega), w0 (i := m + 1 + 1 + 1) (by omega) (by omega), w1 (by omega)]
    have e : ∀ (y z : S61), (pre ++ y :: xs).set ((pre.length : Int)).toNat z = pre ++ z :: xs := fun y z => by simp
    have r : ∀ (y : S61), rd_T61 (pre ++ y :: xs) (pre.length : Int) = y := fun y => by rw [rdv_at _ _ (by simp)]; simp
    simp only [e, r]
    have := ih (pre ++ [mkV m]) (m + 3) k (by omega) (by omega) (by simp; omega) (by omega)
    rw [show (⟨⟨m, Int.tmod (m + 1) 3 == 0⟩, m + 1 + 1⟩ : S61) = mkV m by unfold mkV; rw [show m + 1 + 1 = m + 2 by omega], show m + 1 + 1 + 1 = m + 3 by omega]
    simp only [List.append_assoc, List.singleton_append, List.length_append, List.length_singleton] at this
    rw [this]
    simp only [marksV, List.length_cons]
    rw [show m + 3 + 3 * (xs.length : Int) = m + 3 * ((xs.length + 1 : Nat) : Int) by omega]
theorem markV_f (xs : List S61) (k : Nat) (hb : xs.length ≤ 1048576) (hk : xs.length < k) : laws_markVoiceS.f k xs 1 = some (1 + 3 * (xs.length : Int), marksV 1 xs.length) := by
  unfold laws_markVoiceS.f
  simpa using markV_l0 xs [] 1 k (by omega) (by omega) (by simp; omega) hk
theorem heldV_l0 : ∀ (n : Nat) (pre : List S61) (m : Int) (k : Nat), 0 ≤ m → m + 3 * n < 4611686018427387904 → pre.length + n < 4611686018427387904 → n < k →
    laws_heldVoiceS.l0 k (pre ++ marksV m n) m (pre.length : Int) = some (m + 3 * n) := by
  intro n
  induction n with
  | zero =>
    intro pre m k hm hb hl hk
    obtain ⟨k, rfl⟩ : ∃ m, k = m + 1 := ⟨k - 1, by omega⟩
    simp only [laws_heldVoiceS.l0]
    rw [if_neg (by simp [marksV])]
    simp
  | succ n ih =>
    intro pre m k hm hb hl hk
    obtain ⟨k, rfl⟩ : ∃ m, k = m + 1 := ⟨k - 1, by omega⟩
    have em : marksV m (n + 1) = mkV m :: marksV (m + 3) n := rfl
    have r : rd_T61 (pre ++ mkV m :: marksV (m + 3) n) (pre.length : Int) = mkV m := by rw [rdv_at _ _ (by simp)]; simp
    rw [em, laws_heldVoiceS.l0, if_pos (by simp only [List.length_append, List.length_cons, marksV_length]; omega), if_pos (by omega), r, w0 (i := m + 1) (by omega) (by omega), w0 (i := m + 1 + 1) (by omega) (by omega), w0 (i := m + 1 + 1 + 1) (by omega) (by omega), w1 (by omega)]
    rw [if_pos (show (mkV m).f0.f0 = m from rfl), if_neg (show ¬ (((mkV m).f0.f1 != (Int.tmod (m + 1) 3 == 0)) = true) by simp [mkV]), if_pos (show (mkV m).f1 = m + 1 + 1 by simp only [mkV]; omega)]
    have := ih (pre ++ [mkV m]) (m + 3) k (by omega) (by omega) (by simp; omega) (by omega)
    simp only [List.append_assoc, List.singleton_append, List.length_append, List.length_singleton] at this
    rw [show m + 1 + 1 + 1 = m + 3 by omega, this, show m + 3 + 3 * (n : Int) = m + 3 * ((n + 1 : Nat) : Int) by omega]
theorem heldV_f (n : Nat) (k : Nat) (hb : n ≤ 1048576) (hk : n < k) : laws_heldVoiceS.f k (marksV 1 n) 1 = some (1 + 3 * (n : Int)) := by
  unfold laws_heldVoiceS.f
  simpa using heldV_l0 n [] 1 k (by omega) (by omega) (by simp; omega) hk
theorem markT_l0 (d : Nat) : ∀ (xs : List S43) (i : Nat) (m : Int) (k : Nat), i + d = xs.length → 0 ≤ m → m + 2 * d < 4611686018427387904 → xs.length < 4611686018427387904 → d < k →
    ∃ ys, laws_markToneS.l0 k xs m (i : Int) = some (m + 2 * d, ys) := by
  induction d with
  | zero =>
    intro xs i m k hi hm hb hl hk
    obtain ⟨k, rfl⟩ : ∃ m, k = m + 1 := ⟨k - 1, by omega⟩
    refine ⟨xs, ?_⟩
    simp only [laws_markToneS.l0]
    rw [if_neg (by omega)]
    simp
  | succ d ih =>
    intro xs i m k hi hm hb hl hk
    obtain ⟨k, rfl⟩ : ∃ m, k = m + 1 := ⟨k - 1, by omega⟩
    simp only [laws_markToneS.l0, Option.bind_some]
    rw [if_pos (by omega), if_pos (by omega), w0 (i := m + 1) (by omega) (by omega), w0 (i := m + 1 + 1) (by omega) (by omega), w1 (by omega)]
    have key : ∀ us : List S43, us.length = xs.length → ∃ ys, laws_markToneS.l0 k us (m + 1 + 1) ((i + 1 : Nat) : Int) = some (m + 2 * ((d + 1 : Nat) : Int), ys) := fun us hu => by
      obtain ⟨ys, h⟩ := ih us (i + 1) (m + 1 + 1) k (by omega) (by omega) (by omega) (by omega) (by omega)
      exact ⟨ys, by rw [h, show m + 1 + 1 + 2 * (d : Int) = m + 2 * ((d + 1 : Nat) : Int) by omega]⟩
    exact key _ (by simp only [List.length_set])
theorem markT_f (xs : List S43) (k : Nat) (m : Int) (hm : 0 ≤ m) (hm' : m ≤ 100000000) (hb : xs.length ≤ 1048576) (hk : xs.length < k) : ∃ ys, laws_markToneS.f k xs m = some (m + 2 * (xs.length : Int), ys) := by
  unfold laws_markToneS.f
  exact markT_l0 xs.length xs 0 m k (by omega) hm (by omega) (by omega) hk
theorem markI_l0 (d : Nat) : ∀ (xs : List Int) (i : Nat) (m : Int) (k : Nat), i + d = xs.length → 0 ≤ m → m + d < 4611686018427387904 → xs.length < 4611686018427387904 → d < k →
    ∃ ys, laws_markIntS.l0 k xs m (i : Int) = some (m + d, ys) := by
  induction d with
  | zero =>
    intro xs i m k hi hm hb hl hk
    obtain ⟨k, rfl⟩ : ∃ m, k = m + 1 := ⟨k - 1, by omega⟩
    refine ⟨xs, ?_⟩
    simp only [laws_markIntS.l0]
    rw [if_neg (by omega)]
    simp
  | succ d ih =>
    intro xs i m k hi hm hb hl hk
    obtain ⟨k, rfl⟩ : ∃ m, k = m + 1 := ⟨k - 1, by omega⟩
    simp only [laws_markIntS.l0]
    rw [if_pos (by omega), if_pos (by omega), w0 (i := m + 1) (by omega) (by omega), w1 (by omega)]
    obtain ⟨ys, h⟩ := ih (xs.set ((i : Int)).toNat m) (i + 1) (m + 1) k (by simp only [List.length_set]; omega) (by omega) (by omega) (by simp only [List.length_set]; omega) (by omega)
    refine ⟨ys, ?_⟩
    rw [h, show m + 1 + (d : Int) = m + ((d + 1 : Nat) : Int) by omega]
theorem markI_f (xs : List Int) (k : Nat) (m : Int) (hm : 0 ≤ m) (hm' : m ≤ 100000000) (hb : xs.length ≤ 1048576) (hk : xs.length < k) : ∃ ys, laws_markIntS.f k xs m = some (m + (xs.length : Int), ys) := by
  unfold laws_markIntS.f
  exact markI_l0 xs.length xs 0 m k (by omega) hm (by omega) (by omega) hk

end Go.Proofs.Ytgiobmceippanaa.LMark
