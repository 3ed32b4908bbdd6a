/- FnExactDiscantContrary: for every two lists of voices with at most 1048576 of them the program's DiscantContrary answers as the reference's does, and leaves its arguments alone (longer lists the statement lets pass). No condition beyond the statement's own. -/
import Derived.Test.YtgiobmceippanaaLBase
import Derived.Test.YtgiobmceippanaaLVoice
import Derived.Test.YtgiobmceippanaaLVoice2
import Derived.Test.YtgiobmceippanaaLSounds
import Derived.Test.YtgiobmceippanaaLContrary
import Derived.Test.YtgiobmceippanaaGx13
namespace Go.Proofs.Ytgiobmceippanaa.PureFnExactDiscantContrary
open Go.RowKit Go.Proofs.Ytgiobmceippanaa.G Go.Proofs.YtgiobmceippanaaW.PrintWords Go.Proofs.YtgiobmceippanaaW.PrintLast Go.Proofs.YtgiobmceippanaaW.PrintMore Go.Proofs.Ytgiobmceippanaa.LBase Go.Proofs.Ytgiobmceippanaa.LVoice Go.Proofs.Ytgiobmceippanaa.LVoice2 Go.Proofs.Ytgiobmceippanaa.LSounds Go.Proofs.Ytgiobmceippanaa.LContrary
set_option linter.unusedVariables false
set_option linter.unusedSimpArgs false
theorem FnExactDiscantContrary : ∀ l0 l1 : List S65, l0.length ≤ maxLen → l1.length ≤ maxLen → ∃ k, laws_FnExactDiscantContrary.f k l0 l1 = some true := by
  intro l0 l1 hl0 hl1
  rcases both_lists l0 l1 hl0 hl1 with ⟨h, e⟩ | ⟨⟨h, e⟩, ⟨h', e'⟩ | ⟨h', e'⟩⟩
  · refine ⟨0, ?_⟩
    unfold laws_FnExactDiscantContrary.f
    rw [e]
    rfl
  · refine ⟨0, ?_⟩
    unfold laws_FnExactDiscantContrary.f
    rw [e]
    simp only [Option.bind_some]
    rw [if_neg (by omega), e']
    rfl
  · obtain ⟨m0, hm0⟩ : ∃ m, m = l0.map conv := ⟨_, rfl⟩
    obtain ⟨m1, hm1⟩ : ∃ m, m = l1.map conv := ⟨_, rfl⟩
    have n0 : m0.length = l0.length := by rw [hm0]; simp
    have n1 : m1.length = l1.length := by rw [hm1]; simp
    have t0 : ∀ k, l0.length < k → laws_toVoiceS.f k l0 = some m0 := fun k hk => by rw [hm0]; exact toVoiceS_f l0 k h hk
    have t1 : ∀ k, l1.length < k → laws_toVoiceS.f k l1 = some m1 := fun k hk => by rw [hm1]; exact toVoiceS_f l1 k (by omega) hk
    refine ⟨l0.length + l1.length + 60, ?_⟩
    unfold laws_FnExactDiscantContrary.f
    rw [e]
    simp only [Option.bind_some]
    rw [if_neg (by omega), e']
    simp only [Option.bind_some]
    rw [if_neg (by omega)]
    simp (disch := omega) only [t0, t1, cni_f, cns_f, eqVoiceS_f, Option.bind_some, bne_self_eq_false, Bool.false_eq_true, if_false, if_true]

end Go.Proofs.Ytgiobmceippanaa.PureFnExactDiscantContrary
