/- FnExactPartAt: for every list of voices with at most 1048576 of them and every beat the program's PartAt answers as the reference's does, and leaves its argument alone (longer lists the statement lets pass). No condition beyond the statement's own. -/
import Derived.Test.YtdddnfbedckgkaaLBase
import Derived.Test.YtdddnfbedckgkaaLVoice
import Derived.Test.YtdddnfbedckgkaaLVoice2
import Derived.Test.YtdddnfbedckgkaaGx23
namespace Go.Proofs.Ytdddnfbedckgkaa.PureFnExactPartAt
open Go.RowKit Go.Proofs.Ytdddnfbedckgkaa.G Go.Proofs.YtdddnfbedckgkaaW.PrintWords Go.Proofs.YtdddnfbedckgkaaW.PrintLast Go.Proofs.YtdddnfbedckgkaaW.PrintMore Go.Proofs.Ytdddnfbedckgkaa.LBase Go.Proofs.Ytdddnfbedckgkaa.LVoice Go.Proofs.Ytdddnfbedckgkaa.LVoice2
set_option linter.unusedVariables false
set_option linter.unusedSimpArgs false
theorem eqTone_self (a : Int) (b : Bool) : laws_eqTone.f a b a b = some true := by
  simp [laws_eqTone.f]
theorem FnExactPartAt : ∀ (l0 : List S71) (a1 : Int), l0.length ≤ maxLen → (Lit.int .i64 a1).wf = true → ∃ k, laws_FnExactPartAt.f k l0 a1 = some true := by
  intro l a hl _
  have hl2 : l.length ≤ 9223372036854775807 := by unfold maxLen at hl; exact hl
  have e := szVoiceS_f l 1048576 (by omega) (by omega) hl2
  by_cases h : l.length ≤ 1048576
  · rw [if_pos (by omega)] at e
    obtain ⟨m, hm⟩ : ∃ m, m = l.map conv := ⟨_, rfl⟩
    have hml : m.length = l.length := by rw [hm]; simp
    have t : ∀ k, l.length < k → laws_toVoiceS.f k l = some m := fun k hk => by rw [hm]; exact toVoiceS_f l k h hk
    refine ⟨l.length + 20, ?_⟩
    unfold laws_FnExactPartAt.f
    rw [e]
    simp only [Option.bind_some]
    rw [if_neg (by omega)]
    simp (disch := omega) only [t, pas_f, pai_f, eqVoiceS_f, eqTone_self, Option.bind_some, if_true, bne_self_eq_false, laws_FnExactPartAt.j0, Bool.false_eq_true, if_false]
  · rw [if_neg (by omega)] at e
    refine ⟨0, ?_⟩
    unfold laws_FnExactPartAt.f
    rw [e]
    rfl

end Go.Proofs.Ytdddnfbedckgkaa.PureFnExactPartAt
