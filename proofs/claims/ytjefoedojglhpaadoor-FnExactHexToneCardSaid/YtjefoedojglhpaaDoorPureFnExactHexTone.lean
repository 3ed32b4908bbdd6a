/- FnExactHexTone: for every step and every syllable the program's HexTone answers as the reference's does, and leaves its arguments alone. The table letterNames is tied to the program's text. No condition beyond the statement's own. -/
import Derived.Test.YtjefoedojglhpaaDoorLHex
import Derived.Test.YtjefoedojglhpaaDoorGx5
namespace Go.Proofs.YtjefoedojglhpaaDoor.PureFnExactHexTone
open Go.RowKit Go.Proofs.YtjefoedojglhpaaDoor.G Go.Proofs.YtjefoedojglhpaaDoorW.PrintWords Go.Proofs.YtjefoedojglhpaaDoorW.PrintLast Go.Proofs.YtjefoedojglhpaaDoorW.PrintMore Go.Proofs.YtjefoedojglhpaaDoor.LHex
set_option linter.unusedVariables false
set_option linter.unusedSimpArgs false
theorem FnExactHexTone : ∀ a0 a1 : Int, (Lit.int .i64 a0).wf = true → (Lit.int .i64 a1).wf = true → laws_FnExactHexTone.f a0 a1 = some true := by
  intro a0 a1 _ _
  by_cases h : 0 ≤ a0 ∧ a0 ≤ 14
  · obtain ⟨n, rfl⟩ := Int.eq_ofNat_of_zero_le h.1
    by_cases h1 : 0 ≤ a1 ∧ a1 < 6
    · obtain ⟨m, rfl⟩ := Int.eq_ofNat_of_zero_le h1.1
      have key : ∀ n : Nat, n < 15 → ∀ m : Nat, m < 6 → laws_FnExactHexTone.f (n : Int) (m : Int) = some true := by decide +kernel
      exact key n (by omega) m (by omega)
    · have e : spec_HexTone.f (n : Int) a1 = some (0, false, false) := by
        unfold spec_HexTone.f
        rw [hexvalid_f, Option.bind_some, in_f]
        have : (decide (0 ≤ a1) && decide (a1 ≤ 5)) = false := by
          simp only [Bool.and_eq_false_iff, decide_eq_false_iff_not]
          omega
        rw [this]
        cases isHex (n : Int) <;> rfl
      have e2 : impl_HexTone.f (n : Int) a1 = some (0, false, false) := by
        unfold impl_HexTone.f
        by_cases h2 : 0 ≤ a1
        · rw [if_pos h2, if_neg (show ¬ a1 < 6 by omega)]
          cases isHex (n : Int) <;> rfl
        · rw [if_neg h2]
          cases isHex (n : Int) <;> rfl
      unfold laws_FnExactHexTone.f
      rw [e, e2]
      rfl
  · have e := hex_out h
    unfold laws_FnExactHexTone.f spec_HexTone.f impl_HexTone.f
    rw [hexvalid_f, e]
    rfl

end Go.Proofs.YtjefoedojglhpaaDoor.PureFnExactHexTone
