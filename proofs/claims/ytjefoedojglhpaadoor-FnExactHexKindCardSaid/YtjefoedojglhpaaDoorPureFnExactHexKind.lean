/- FnExactHexKind: for every step the program's HexKind answers as the reference's does, and leaves its argument alone. The table letterNames is tied to the program's text. No condition beyond the statement's own. -/
import Derived.Test.YtjefoedojglhpaaDoorLHex
import Derived.Test.YtjefoedojglhpaaDoorGx4
namespace Go.Proofs.YtjefoedojglhpaaDoor.PureFnExactHexKind
open Go.RowKit Go.Proofs.YtjefoedojglhpaaDoor.G Go.Proofs.YtjefoedojglhpaaDoorW.PrintWords Go.Proofs.YtjefoedojglhpaaDoorW.PrintLast Go.Proofs.YtjefoedojglhpaaDoorW.PrintMore Go.Proofs.YtjefoedojglhpaaDoor.LHex
set_option linter.unusedVariables false
set_option linter.unusedSimpArgs false
theorem FnExactHexKind : ∀ a0 : Int, (Lit.int .i64 a0).wf = true → laws_FnExactHexKind.f a0 = some true := by
  intro a0 _
  by_cases h : 0 ≤ a0 ∧ a0 ≤ 14
  · obtain ⟨n, rfl⟩ := Int.eq_ofNat_of_zero_le h.1
    have key : ∀ n : Nat, n < 15 → laws_FnExactHexKind.f (n : Int) = some true := by decide +kernel
    exact key n (by omega)
  · have e := hex_out h
    unfold laws_FnExactHexKind.f spec_HexKind.f impl_HexKind.f
    rw [hexvalid_f, e]
    simp only [Option.bind_some, Bool.false_eq_true, if_false, if_true]

end Go.Proofs.YtjefoedojglhpaaDoor.PureFnExactHexKind
