/- FnExactHexSyllable: for every step and every tone the program's HexSyllable answers as the reference's does, and leaves its arguments alone. The table letterNames is tied to the program's text. No condition beyond the statement's own. -/
import Derived.Test.YtjefoedojglhpaaDoorLHex
import Derived.Test.YtjefoedojglhpaaDoorGx6
namespace Go.Proofs.YtjefoedojglhpaaDoor.PureFnExactHexSyllable
open Go.RowKit Go.Proofs.YtjefoedojglhpaaDoor.G Go.Proofs.YtjefoedojglhpaaDoorW.PrintWords Go.Proofs.YtjefoedojglhpaaDoorW.PrintLast Go.Proofs.YtjefoedojglhpaaDoorW.PrintMore Go.Proofs.YtjefoedojglhpaaDoor.LHex
set_option linter.unusedVariables false
set_option linter.unusedSimpArgs false
theorem FnExactHexSyllable : ∀ (a0 a1 : Int) (b1 : Bool), (Lit.int .i64 a0).wf = true → (Lit.int .i64 a1).wf = true → ∃ k, laws_FnExactHexSyllable.f k a0 a1 b1 = some true := by
  intro a0 a1 b1 _ _
  obtain ⟨s, h1, h2, _⟩ := syl_same a0 a1 b1 0
  refine ⟨7, ?_⟩
  unfold laws_FnExactHexSyllable.f laws_toTone.f
  simp only [Option.bind_some]
  rw [h1, Option.bind_some, h2, Option.bind_some, if_pos rfl]

end Go.Proofs.YtjefoedojglhpaaDoor.PureFnExactHexSyllable
