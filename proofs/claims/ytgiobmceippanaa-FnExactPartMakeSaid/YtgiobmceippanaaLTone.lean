import Derived.Test.YtgiobmceippanaaLBase
import Derived.Test.YtgiobmceippanaaGx3
import Derived.Test.YtgiobmceippanaaGx4
namespace Go.Proofs.Ytgiobmceippanaa.LTone
open Go.RowKit Go.Proofs.Ytgiobmceippanaa.G Go.Proofs.YtgiobmceippanaaW.PrintWords Go.Proofs.YtgiobmceippanaaW.PrintLast Go.Proofs.YtgiobmceippanaaW.PrintMore Go.Proofs.Ytgiobmceippanaa.LBase
set_option linter.unusedVariables false
set_option linter.unusedSimpArgs false
/-- A tone of the gamut. -/
def tv (a : Int) (b : Bool) : Bool := decide (0 ≤ a) && (decide (a ≤ 20) && (!b || decide (Int.tmod a 7 = 2)))
theorem tv_spec (a : Int) (b : Bool) : spec_ToneValid.f a b = some (tv a b) := by
  unfold spec_ToneValid.f spec_l6In.f spec_l1Letter.f tv
  by_cases h0 : a ≥ 0
  · rw [if_pos h0, decide_eq_true (show 0 ≤ a from h0)]
    by_cases h1 : a ≤ 20
    · simp only [h1, decide_true, Option.bind_some, if_true, Bool.true_and]
      cases b
      · rfl
      · simp
        rfl
    · simp [h1]
  · rw [if_neg h0, decide_eq_false (show ¬ 0 ≤ a from h0)]
    rfl
theorem tv_impl (a : Int) (b : Bool) : impl_Tone_valid.f a b = some (tv a b) := by
  unfold impl_Tone_valid.f tv
  by_cases h0 : a ≥ 0
  · rw [if_pos h0, decide_eq_true (show 0 ≤ a from h0)]
    by_cases h1 : a ≤ 20
    · rw [if_pos h1, decide_eq_true h1]
      cases b
      · rfl
      · simp
        rfl
    · rw [if_neg h1, decide_eq_false h1]
      rfl
  · rw [if_neg h0, decide_eq_false (show ¬ 0 ≤ a from h0)]
    rfl
theorem in_spec (a b c : Int) : spec_l6In.f a b c = some (decide (b ≤ a) && decide (a ≤ c)) := by
  unfold spec_l6In.f
  by_cases h0 : a ≥ b
  · rw [if_pos h0, decide_eq_true (show b ≤ a from h0)]; rfl
  · rw [if_neg h0, decide_eq_false (show ¬ b ≤ a from h0)]; rfl

end Go.Proofs.Ytgiobmceippanaa.LTone
