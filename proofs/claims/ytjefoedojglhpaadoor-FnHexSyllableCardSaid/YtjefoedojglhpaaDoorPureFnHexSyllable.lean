/- FnHexSyllable: for every two lists of at most 1048576 bytes, the law of HexSyllable holds of what the reference draws from them, and the lists read as before (longer lists the statement lets pass). The tables letterNames and letterHeights are tied to the program's text. No condition beyond the statement's own. -/
import Derived.Test.YtjefoedojglhpaaDoorLBase
import Derived.Test.YtjefoedojglhpaaDoorLHex
import Derived.Test.YtjefoedojglhpaaDoorLDraw
import Derived.Test.YtjefoedojglhpaaDoorLDrawHex
import Derived.Test.YtjefoedojglhpaaDoorGx12
namespace Go.Proofs.YtjefoedojglhpaaDoor.PureFnHexSyllable
open Go.RowKit Go.Proofs.YtjefoedojglhpaaDoor.G Go.Proofs.YtjefoedojglhpaaDoorW.PrintWords Go.Proofs.YtjefoedojglhpaaDoorW.PrintLast Go.Proofs.YtjefoedojglhpaaDoorW.PrintMore Go.Proofs.YtjefoedojglhpaaDoor.LBase Go.Proofs.YtjefoedojglhpaaDoor.LHex Go.Proofs.YtjefoedojglhpaaDoor.LDraw Go.Proofs.YtjefoedojglhpaaDoor.LDrawHex
set_option linter.unusedVariables false
set_option linter.unusedSimpArgs false
theorem FnHexSyllable : ∀ (l0 l1 : List Int), l0.length ≤ maxLen → l0.length * 1 ≤ 140737488351232 → (∀ n ∈ l0, (Lit.int .u8 n).wf = true) → l1.length ≤ maxLen → l1.length * 1 ≤ 140737488351232 → (∀ n ∈ l1, (Lit.int .u8 n).wf = true) → ∃ k, laws_FnHexSyllable.f k l0 l1 = some true := by
  intro l0 l1 z1 z2 hw z3 z4 z5
  refine ⟨22, ?_⟩
  have key : ∀ b : Bool, b = true → laws_FnHexSyllable.j0 22 l0 l1 b = some true := fun b hb => by
    rw [hb]; rfl
  unfold laws_FnHexSyllable.f
  by_cases h : (l0.length : Int) > 1048576
  · rw [if_pos h]
    exact key _ rfl
  · rw [if_neg h]
    by_cases h2 : (l1.length : Int) > 1048576
    · exact key _ (decide_eq_true h2)
    · rw [decide_eq_false h2]
      clear key
      obtain ⟨x, t, b, x0, x1, t0, t1, hd⟩ := hexsyl_d (bytes_of hw)
      simp only [laws_FnHexSyllable.j0]
      rw [if_neg (by decide), hd 21 (by omega)]
      simp only [Option.bind_some, laws_FnHexSyllable.j1]
      have hr : 0 ≤ (l1.length : Int) % 6 ∧ (l1.length : Int) % 6 < 6 := ⟨by omega, by omega⟩
      generalize (l1.length : Int) % 6 = r at hr ⊢
      clear hd h h2 hw
      obtain ⟨n, rfl⟩ : ∃ n : Nat, x = (n : Int) - 1 := ⟨(x + 1).toNat, by omega⟩
      obtain ⟨m, rfl⟩ : ∃ m : Nat, t = (m : Int) - 1 := ⟨(t + 1).toNat, by omega⟩
      obtain ⟨j, rfl⟩ := Int.eq_ofNat_of_zero_le hr.1
      have hn : n < 24 := by omega
      have hm : m < 23 := by omega
      have hj : j < 6 := by omega
      clear x0 x1 t0 t1 hr z1 z2 z3 z4 z5 l0 l1
      revert hj
      revert j
      revert hm
      revert m
      revert hn
      revert n
      revert b
      decide +kernel

end Go.Proofs.YtjefoedojglhpaaDoor.PureFnHexSyllable
