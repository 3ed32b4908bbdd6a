/- FnExactHexValid: for every step the program's HexValid answers as the reference's does, and leaves its argument alone. The table letterNames is tied to the program's text. No condition beyond the statement's own. -/
import Derived.Test.YtjefoedojglhpaaDoorLHex
import Derived.Test.YtjefoedojglhpaaDoorGx4
namespace Go.Proofs.YtjefoedojglhpaaDoor.PureFnExactHexValid
open Go.RowKit Go.Proofs.YtjefoedojglhpaaDoor.G Go.Proofs.YtjefoedojglhpaaDoorW.PrintWords Go.Proofs.YtjefoedojglhpaaDoorW.PrintLast Go.Proofs.YtjefoedojglhpaaDoorW.PrintMore Go.Proofs.YtjefoedojglhpaaDoor.LHex
set_option linter.unusedVariables false
set_option linter.unusedSimpArgs false
theorem FnExactHexValid : ∀ a0 : Int, (Lit.int .i64 a0).wf = true → laws_FnExactHexValid.f a0 = some true := by
  intro a0 _
  unfold laws_FnExactHexValid.f
  rw [hexvalid_f, Option.bind_some]
  simp [impl_HexValid.f]

end Go.Proofs.YtjefoedojglhpaaDoor.PureFnExactHexValid
