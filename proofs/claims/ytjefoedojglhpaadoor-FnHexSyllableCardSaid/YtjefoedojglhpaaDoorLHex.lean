import Derived.Test.YtjefoedojglhpaaDoorGx2
import Derived.Test.YtjefoedojglhpaaDoorGx3
import Derived.Test.YtjefoedojglhpaaDoorGx4
import Derived.Test.YtjefoedojglhpaaDoorGx5
namespace Go.Proofs.YtjefoedojglhpaaDoor.LHex
open Go.RowKit Go.Proofs.YtjefoedojglhpaaDoor.G Go.Proofs.YtjefoedojglhpaaDoorW.PrintWords Go.Proofs.YtjefoedojglhpaaDoorW.PrintLast Go.Proofs.YtjefoedojglhpaaDoorW.PrintMore 
set_option linter.unusedVariables false
set_option linter.unusedSimpArgs false
theorem wrap64_in (x : Int) (h1 : -9223372036854775808 ≤ x) (h2 : x < 9223372036854775808) : wrap64 x = x := IntWalk.wrap64_in x (by omega)
theorem mono_add {α : Type} {f : Nat → Option α} (h : ∀ j, LeO (f j) (f (j + 1))) {j : Nat} : ∀ (k : Nat) (r : α), f j = some r → f (j + k) = some r
  | 0, _, e => e
  | k + 1, r, e => h (j + k) r (mono_add h k r e)
theorem in_f (a b c : Int) : spec_l6In.f a b c = some (decide (b ≤ a) && decide (a ≤ c)) := by
  unfold spec_l6In.f
  split <;> rename_i h <;> simp_all
  omega
theorem hex_out {x : Int} (h : ¬ (0 ≤ x ∧ x ≤ 14)) : isHex x = false := by
  rcases hex_cases x with ⟨_, k, hk, e⟩ | ⟨e, _⟩
  · exfalso
    have : k = 0 ∨ k = 1 ∨ k = 2 ∨ k = 3 ∨ k = 4 ∨ k = 5 ∨ k = 6 := by omega
    rcases this with rfl | rfl | rfl | rfl | rfl | rfl | rfl <;> simp [hexAll] at e <;> omega
  · exact e
theorem hexvalid_f (x : Int) : spec_HexValid.f x = some (isHex x) := by
  by_cases h : 0 ≤ x ∧ x ≤ 15
  · obtain ⟨n, rfl⟩ := Int.eq_ofNat_of_zero_le h.1
    have hn : n < 16 := by omega
    have key : ∀ n : Nat, n < 16 → spec_HexValid.f (n : Int) = some (isHex (n : Int)) := by decide +kernel
    exact key n hn
  · rw [hex_out (by omega)]
    unfold spec_HexValid.f
    rw [in_f]
    have : (decide (0 ≤ x) && decide (x ≤ 15)) = false := by
      simp only [Bool.and_eq_false_iff, decide_eq_false_iff_not]
      omega
    rw [this]
    rfl
theorem hextone_out {x : Int} (h : ¬ (0 ≤ x ∧ x ≤ 14)) (y : Int) : spec_HexTone.f x y = some (0, false, false) := by
  unfold spec_HexTone.f
  rw [hexvalid_f, hex_out h]
  rfl
theorem hextone_in (n m : Nat) (hn : n < 15) (hm : m < 6) : ∃ t, spec_HexTone.f (n : Int) (m : Int) = some t ∧ 0 ≤ t.1 ∧ t.1 ≤ 20 := by
  have key : ∀ n : Nat, n < 15 → ∀ m : Nat, m < 6 → (match spec_HexTone.f (n : Int) (m : Int) with | some t => decide (0 ≤ t.1 ∧ t.1 ≤ 20) | none => false) = true := by decide +kernel
  have h := key n hn m hm
  cases e : spec_HexTone.f (n : Int) (m : Int) with
  | none => rw [e] at h; cases h
  | some t => rw [e] at h; exact ⟨t, rfl, by simpa using h⟩
theorem sylspec_no (a0 a1 : Int) (b1 : Bool) (h : ∀ m : Nat, m < 6 → ∃ t, spec_HexTone.f a0 (m : Int) = some t ∧ (t.2.2 = true → (t.1 == a1) = false)) :
    ∀ d, d ≤ 6 → ∀ k, spec_HexSyllable.l0 (k + d + 1) a0 ((6 - d : Nat) : Int) a1 b1 = some (-1)
  | 0, _, k => by
    unfold spec_HexSyllable.l0
    rw [if_neg (by omega)]
  | d + 1, hd, k => by
    obtain ⟨t, ht, hn⟩ := h (6 - (d + 1)) (by omega)
    have ih := sylspec_no a0 a1 b1 h d (by omega) k
    have ew : wrap64 (((6 - (d + 1) : Nat) : Int) + 1) = ((6 - d : Nat) : Int) := by
      rw [wrap64_in _ (by omega) (by omega)]
      omega
    rw [show k + (d + 1) + 1 = (k + d + 1) + 1 by omega]
    unfold spec_HexSyllable.l0
    rw [if_pos (by omega), ht, Option.bind_some, ew]
    cases e : t.2.2 with
    | false => rw [if_neg (by decide)]; exact ih
    | true => rw [if_pos rfl, hn e, Bool.false_and, if_neg (by decide)]; exact ih
theorem syl_no (a0 a1 : Int) (b1 : Bool) (h : ¬ (0 ≤ a0 ∧ a0 ≤ 14 ∧ 0 ≤ a1 ∧ a1 ≤ 20)) (k : Nat) : spec_HexSyllable.f (k + 7) a0 a1 b1 = some (-1) := by
  unfold spec_HexSyllable.f
  refine sylspec_no a0 a1 b1 (fun m hm => ?_) 6 (Nat.le_refl _) k
  by_cases h0 : 0 ≤ a0 ∧ a0 ≤ 14
  · obtain ⟨n, rfl⟩ := Int.eq_ofNat_of_zero_le h0.1
    obtain ⟨t, ht, h1, h2⟩ := hextone_in n m (by omega) hm
    exact ⟨t, ht, fun _ => by simp; omega⟩
  · exact ⟨_, hextone_out h0 _, fun h => by cases h⟩
theorem valid_f (a : Int) (b : Bool) : ∃ v, impl_Tone_valid.f a b = some v ∧ (¬ (0 ≤ a ∧ a ≤ 20) → v = false) := by
  unfold impl_Tone_valid.f
  by_cases h0 : a ≥ 0
  · by_cases h1 : a ≤ 20
    · rw [if_pos h0, if_pos h1]
      cases b
      · exact ⟨_, rfl, fun h => absurd ⟨h0, h1⟩ h⟩
      · exact ⟨_, rfl, fun h => absurd ⟨h0, h1⟩ h⟩
    · rw [if_pos h0, if_neg h1]
      exact ⟨_, rfl, fun _ => rfl⟩
  · rw [if_neg h0]
    exact ⟨_, rfl, fun _ => rfl⟩
theorem sylimpl_no (a0 a1 : Int) (b1 : Bool) (h : ¬ (0 ≤ a0 ∧ a0 ≤ 14 ∧ 0 ≤ a1 ∧ a1 ≤ 20)) : impl_HexSyllable.f a0 a1 b1 = some (-1) := by
  obtain ⟨v, hv, hn⟩ := valid_f a1 b1
  unfold impl_HexSyllable.f
  rw [hv, Option.bind_some]
  by_cases h0 : 0 ≤ a0 ∧ a0 ≤ 14
  · rw [hn (by omega)]
    cases isHex a0 <;> rfl
  · rw [hex_out h0]
    rfl
theorem syl_same (a0 a1 : Int) (b1 : Bool) (k : Nat) : ∃ s, spec_HexSyllable.f (k + 7) a0 a1 b1 = some s ∧ impl_HexSyllable.f a0 a1 b1 = some s ∧ -1 ≤ s ∧ s ≤ 5 := by
  by_cases h : 0 ≤ a0 ∧ a0 ≤ 14 ∧ 0 ≤ a1 ∧ a1 ≤ 20
  · obtain ⟨n, rfl⟩ := Int.eq_ofNat_of_zero_le h.1
    obtain ⟨m, rfl⟩ := Int.eq_ofNat_of_zero_le h.2.2.1
    have key : ∀ b : Bool, ∀ n : Nat, n < 15 → ∀ m : Nat, m < 21 → (match spec_HexSyllable.f 7 (n : Int) (m : Int) b with | some s => decide (impl_HexSyllable.f (n : Int) (m : Int) b = some s ∧ -1 ≤ s ∧ s ≤ 5) | none => false) = true := by decide +kernel
    have h := key b1 n (by omega) m (by omega)
    cases e : spec_HexSyllable.f 7 (n : Int) (m : Int) b1 with
    | none => rw [e] at h; cases h
    | some s =>
      rw [e] at h
      have h' := of_decide_eq_true h
      refine ⟨s, ?_, h'⟩
      rw [Nat.add_comm]
      exact mono_add (fun j => spec_HexSyllable.mono _ _ _ j) k _ e
  · exact ⟨-1, syl_no a0 a1 b1 h k, sylimpl_no a0 a1 b1 h, by omega, by omega⟩

end Go.Proofs.YtjefoedojglhpaaDoor.LHex
