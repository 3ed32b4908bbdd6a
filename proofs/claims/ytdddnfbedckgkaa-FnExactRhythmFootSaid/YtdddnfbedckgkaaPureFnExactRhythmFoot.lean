/- FnExactRhythmFoot: for every mode the program's RhythmFoot returns the reference's beats, in memory of its own. No condition beyond the statement's own. -/
import Derived.Test.YtdddnfbedckgkaaPFnExactRhythmFootx1
namespace Go.Proofs.Ytdddnfbedckgkaa.Pure
open Go.RowKit Go.Proofs.Ytdddnfbedckgkaa.PFnExactRhythmFoot Go.Proofs.YtdddnfbedckgkaaW.PrintWords Go.Proofs.YtdddnfbedckgkaaW.PrintLast

theorem foot_none (a : Int) (h : a < 1 ∨ 6 < a) : impl_RhythmFoot.f a = some [] ∧ spec_RhythmFoot.f a = some [] := by
  constructor
  · unfold impl_RhythmFoot.f
    rw [if_neg (by omega), if_neg (by omega), if_neg (by omega), if_neg (by omega), if_neg (by omega), if_neg (by omega)]
  · unfold spec_RhythmFoot.f spec_l6In.f
    by_cases h1 : a ≥ 1
    · rw [if_pos h1, decide_eq_false (by omega)]; rfl
    · rw [if_neg h1]; rfl

theorem FnExactRhythmFoot : laws_FnExactRhythmFoot.Pure := by
  intro a _
  by_cases h : a < 1 ∨ 6 < a
  · obtain ⟨h1, h2⟩ := foot_none a h
    refine ⟨20, ?_⟩
    unfold laws_FnExactRhythmFoot.f
    rw [h1, h2]
    decide +kernel
  · have : a = 1 ∨ a = 2 ∨ a = 3 ∨ a = 4 ∨ a = 5 ∨ a = 6 := by omega
    rcases this with rfl | rfl | rfl | rfl | rfl | rfl <;> exact ⟨20, by decide +kernel⟩

end Go.Proofs.Ytdddnfbedckgkaa.Pure
