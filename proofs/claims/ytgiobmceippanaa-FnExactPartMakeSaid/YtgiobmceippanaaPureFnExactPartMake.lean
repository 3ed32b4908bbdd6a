/- FnExactPartMake: for every melody and every list of numbers of beats with at most 1048576 elements each the program's PartMake answers as the reference's does, leaves its arguments alone, and its answer lies apart from them (longer lists the statement lets pass). No condition beyond the statement's own. -/
import Derived.Test.YtgiobmceippanaaLBase
import Derived.Test.YtgiobmceippanaaLTone
import Derived.Test.YtgiobmceippanaaLVoice
import Derived.Test.YtgiobmceippanaaLMelody
import Derived.Test.YtgiobmceippanaaLMark
import Derived.Test.YtgiobmceippanaaLPartMake
import Derived.Test.YtgiobmceippanaaGx30
namespace Go.Proofs.Ytgiobmceippanaa.PureFnExactPartMake
open Go.RowKit Go.Proofs.Ytgiobmceippanaa.G Go.Proofs.YtgiobmceippanaaW.PrintWords Go.Proofs.YtgiobmceippanaaW.PrintLast Go.Proofs.YtgiobmceippanaaW.PrintMore Go.Proofs.Ytgiobmceippanaa.LBase Go.Proofs.Ytgiobmceippanaa.LTone Go.Proofs.Ytgiobmceippanaa.LVoice Go.Proofs.Ytgiobmceippanaa.LMelody Go.Proofs.Ytgiobmceippanaa.LMark Go.Proofs.Ytgiobmceippanaa.LPartMake
set_option linter.unusedVariables false
set_option linter.unusedSimpArgs false
theorem FnExactPartMake : ∀ (l0 : List S63) (l1 : List Int), l0.length ≤ maxLen → l1.length ≤ maxLen → l1.length * 8 ≤ 140737488351232 → (∀ n ∈ l1, (Lit.int .i64 n).wf = true) → ∃ k, laws_FnExactPartMake.f k l0 l1 = some true := by
  intro l0 l1 hl _ _ _
  have hl2 : l0.length ≤ 9223372036854775807 := by unfold maxLen at hl; exact hl
  by_cases h1 : (l1.length : Int) > 1048576
  · refine ⟨0, ?_⟩
    unfold laws_FnExactPartMake.f
    rw [if_pos h1]
  · have e := szToneS_f l0 1048576 (by omega) (by omega) hl2
    by_cases h : l0.length ≤ 1048576
    · rw [if_pos (by omega)] at e
      obtain ⟨m, hm⟩ : ∃ m, m = l0.map convT := ⟨_, rfl⟩
      have hml : m.length = l0.length := by rw [hm]; simp
      have t : ∀ k, l0.length < k → laws_toToneS.f k l0 = some m := fun k hk => by rw [hm]; exact toToneS_f l0 k h hk
      obtain ⟨p, hp⟩ : ∃ p, p = PM m l1 := ⟨_, rfl⟩
      have hpl : p.1.length ≤ 24 := by rw [hp]; exact PM_len m l1
      refine ⟨l0.length + l1.length + 140, ?_⟩
      obtain ⟨ys, hys⟩ := markT_f m (l0.length + l1.length + 139) 1 (by omega) (by omega) (by omega) (by omega)
      obtain ⟨zs, hzs⟩ := markI_f l1 (l0.length + l1.length + 139) (1 + 2 * (m.length : Int)) (by omega) (by omega) (by omega) (by omega)
      unfold laws_FnExactPartMake.f
      rw [if_neg h1, e, Option.bind_some, if_neg (by omega)]
      simp (disch := omega) only [t, toIntS_f, pms_f, pmi_f, ← hp, eqVoiceS_f, Option.bind_some, bne_self_eq_false, if_true]
      rw [laws_FnExactPartMake.j0, if_neg (by decide)]
      simp (disch := omega) only [t, toIntS_f, eqToneS_f, eqIntS_f, Option.bind_some, if_true]
      rw [hys, Option.bind_some]
      dsimp only
      rw [hzs, Option.bind_some]
      dsimp only
      rw [if_neg (by omega)]
      simp (disch := omega) only [eqVoiceS_f, Option.bind_some, bne_self_eq_false, if_true]
      rw [laws_FnExactPartMake.j1, if_neg (by decide)]
      simp (disch := omega) only [markV_f, heldV_f, Option.bind_some]
      rw [if_neg (by omega)]
      simp (disch := omega) only [t, toIntS_f, pmi_f, ← hp, eqVoiceS_f, Option.bind_some, bne_self_eq_false, if_true]
      rw [laws_FnExactPartMake.j2, if_neg (by decide)]
      simp (disch := omega) only [heldV_f, Option.bind_some]
      rw [if_neg (by omega), if_pos trivial]
    · rw [if_neg (by omega)] at e
      refine ⟨0, ?_⟩
      unfold laws_FnExactPartMake.f
      rw [if_neg h1, e]
      rfl

end Go.Proofs.Ytgiobmceippanaa.PureFnExactPartMake
