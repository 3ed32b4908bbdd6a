/- FnExactRhythmOrdo: for every mode and number of tones the program's RhythmOrdo returns the reference's beats and rest, in memory of its own. No condition beyond the statement's own. -/
import Derived.Test.YtdddnfbedckgkaaPFnExactRhythmOrdox2
namespace Go.Proofs.Ytdddnfbedckgkaa.PureExactRhythmOrdo
open Go.RowKit Go.Proofs.Ytdddnfbedckgkaa.PFnExactRhythmOrdo Go.Proofs.YtdddnfbedckgkaaW.PrintWords Go.Proofs.YtdddnfbedckgkaaW.PrintLast
theorem foot_none (a : Int) (h : a < 1 ∨ 6 < a) : impl_RhythmFoot.f a = some [] ∧ spec_RhythmFoot.f a = some [] := by
  constructor
  · unfold impl_RhythmFoot.f
    rw [if_neg (by omega), if_neg (by omega), if_neg (by omega), if_neg (by omega), if_neg (by omega), if_neg (by omega)]
  · unfold spec_RhythmFoot.f spec_l6In.f
    by_cases h1 : a ≥ 1
    · rw [if_pos h1, decide_eq_false (by omega)]; rfl
    · rw [if_neg h1]; rfl
theorem foot_some (a : Int) (h : ¬ (a < 1 ∨ 6 < a)) : a = 1 ∨ a = 2 ∨ a = 3 ∨ a = 4 ∨ a = 5 ∨ a = 6 := by omega
theorem twelve (n : Int) (h : ¬ (n < 1 ∨ 12 < n)) : n = 1 ∨ n = 2 ∨ n = 3 ∨ n = 4 ∨ n = 5 ∨ n = 6 ∨ n = 7 ∨ n = 8 ∨ n = 9 ∨ n = 10 ∨ n = 11 ∨ n = 12 := by omega
theorem ordo_none (k : Nat) (a n : Int) (h : (a < 1 ∨ 6 < a) ∨ (n < 1 ∨ 12 < n)) : impl_RhythmOrdo.f (k + 1) a n = some ([], 0, false) ∧ spec_RhythmOrdo.f (k + 1) a n = some ([], 0, false) := by
  by_cases h1 : a < 1 ∨ 6 < a
  · obtain ⟨e1, e2⟩ := foot_none a h1
    constructor
    · unfold impl_RhythmOrdo.f
      rw [e1]; rfl
    · unfold spec_RhythmOrdo.f
      rw [e2]; rfl
  · have h2 : n < 1 ∨ 12 < n := h.resolve_left h1
    have e3 : (decide (n > 12)) = true ∨ n < 1 := by
      rcases h2 with h2 | h2
      · exact .inr h2
      · exact .inl (decide_eq_true h2)
    have e4 : spec_l6In.f n 1 12 = some false := by
      unfold spec_l6In.f
      by_cases h1 : n ≥ 1
      · rw [if_pos h1, decide_eq_false (by omega)]
      · rw [if_neg h1]
    constructor
    · unfold impl_RhythmOrdo.f
      rcases foot_some a h1 with rfl | rfl | rfl | rfl | rfl | rfl <;> (rcases e3 with e | e <;> simp [impl_RhythmFoot.f, e, impl_RhythmOrdo.j0])
    · unfold spec_RhythmOrdo.f
      rw [e4]
      rcases foot_some a h1 with rfl | rfl | rfl | rfl | rfl | rfl <;> simp [spec_RhythmFoot.f, spec_l6In.f, rd_L1, wrap64, spec_RhythmOrdo.j0]

theorem main : laws_FnExactRhythmOrdo.Pure := by
  intro a n _ _
  by_cases h : (a < 1 ∨ 6 < a) ∨ (n < 1 ∨ 12 < n)
  · obtain ⟨h1, h2⟩ := ordo_none 20 a n h
    obtain ⟨h3, _⟩ := ordo_none 19 a n h
    refine ⟨21, ?_⟩
    unfold laws_FnExactRhythmOrdo.f
    rw [h1, h2]
    show laws_FnExactRhythmOrdo.j0 21 a n [] 0 false [] false = some true
    simp only [laws_FnExactRhythmOrdo.j0]
    rw [show impl_RhythmOrdo.f 20 a n = some ([], 0, false) from h3]
    decide +kernel
  · rcases foot_some a (fun z => h (.inl z)) with rfl | rfl | rfl | rfl | rfl | rfl <;> rcases twelve n (fun z => h (.inr z)) with rfl | rfl | rfl | rfl | rfl | rfl | rfl | rfl | rfl | rfl | rfl | rfl <;> exact ⟨40, by decide +kernel⟩

end Go.Proofs.Ytdddnfbedckgkaa.PureExactRhythmOrdo
namespace Go.Proofs.Ytdddnfbedckgkaa.Pure
theorem FnExactRhythmOrdo : PFnExactRhythmOrdo.laws_FnExactRhythmOrdo.Pure := Go.Proofs.Ytdddnfbedckgkaa.PureExactRhythmOrdo.main
end Go.Proofs.Ytdddnfbedckgkaa.Pure
