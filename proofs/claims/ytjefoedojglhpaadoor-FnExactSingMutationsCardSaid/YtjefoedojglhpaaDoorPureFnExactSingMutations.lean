/- FnExactSingMutations: for every melody and every list of steps with at most 1048576 elements each the program's SingMutations answers as the reference's does, and leaves its arguments alone (longer lists the statement lets pass). The table letterNames is tied to the program's text. No condition beyond the statement's own. -/
import Derived.Test.YtjefoedojglhpaaDoorLBase
import Derived.Test.YtjefoedojglhpaaDoorLMelody
import Derived.Test.YtjefoedojglhpaaDoorLSing
import Derived.Test.YtjefoedojglhpaaDoorGx21
namespace Go.Proofs.YtjefoedojglhpaaDoor.PureFnExactSingMutations
open Go.RowKit Go.Proofs.YtjefoedojglhpaaDoor.G Go.Proofs.YtjefoedojglhpaaDoorW.PrintWords Go.Proofs.YtjefoedojglhpaaDoorW.PrintLast Go.Proofs.YtjefoedojglhpaaDoorW.PrintMore Go.Proofs.YtjefoedojglhpaaDoor.LBase Go.Proofs.YtjefoedojglhpaaDoor.LMelody Go.Proofs.YtjefoedojglhpaaDoor.LSing
set_option linter.unusedVariables false
set_option linter.unusedSimpArgs false
theorem FnExactSingMutations : ∀ (l0 : List S30) (l1 : List Int), l0.length ≤ maxLen → l1.length ≤ maxLen → l1.length * 8 ≤ 140737488351232 → (∀ n ∈ l1, (Lit.int .i64 n).wf = true) → ∃ k, laws_FnExactSingMutations.f k l0 l1 = some true := by
  intro l0 l1 hl _ _ _
  have hl2 : l0.length ≤ 9223372036854775807 := by unfold maxLen at hl; exact hl
  by_cases h1 : (l1.length : Int) > 1048576
  · refine ⟨0, ?_⟩
    unfold laws_FnExactSingMutations.f
    rw [if_pos h1]
  · have e := szToneS_f l0 1048576 (by omega) (by omega) hl2
    by_cases h : l0.length ≤ 1048576
    · rw [if_pos (by omega)] at e
      obtain ⟨m, hm⟩ : ∃ m, m = l0.map conv := ⟨_, rfl⟩
      have hml : m.length = l0.length := by rw [hm]; simp
      have t : ∀ k, l0.length < k → laws_toToneS.f k l0 = some m := fun k hk => by rw [hm]; exact toToneS_f l0 k h hk
      refine ⟨l0.length + l1.length + 40, ?_⟩
      unfold laws_FnExactSingMutations.f
      rw [if_neg h1, e, Option.bind_some, if_neg (by omega)]
      obtain ⟨r, hr1, hr2⟩ := mut_same m l1 (l0.length + l1.length + 40) (by omega) (by omega)
      simp (disch := omega) only [t, toIntS_f, hr1, hr2, eqToneS_f, eqIntS_f, Option.bind_some, if_true]
    · rw [if_neg (by omega)] at e
      refine ⟨0, ?_⟩
      unfold laws_FnExactSingMutations.f
      rw [if_neg h1, e]
      rfl

end Go.Proofs.YtjefoedojglhpaaDoor.PureFnExactSingMutations
