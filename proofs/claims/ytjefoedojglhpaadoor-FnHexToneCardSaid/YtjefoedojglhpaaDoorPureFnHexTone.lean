/- FnHexTone: for every list of at most 1048576 bytes, the law of HexTone holds of what the reference draws from it, and the list reads as before (longer lists the statement lets pass). The tables letterNames and letterHeights are tied to the program's text. No condition beyond the statement's own. -/
import Derived.Test.YtjefoedojglhpaaDoorLBase
import Derived.Test.YtjefoedojglhpaaDoorLHex
import Derived.Test.YtjefoedojglhpaaDoorLDraw
import Derived.Test.YtjefoedojglhpaaDoorLDrawHex
import Derived.Test.YtjefoedojglhpaaDoorGx10
namespace Go.Proofs.YtjefoedojglhpaaDoor.PureFnHexTone
open Go.RowKit Go.Proofs.YtjefoedojglhpaaDoor.G Go.Proofs.YtjefoedojglhpaaDoorW.PrintWords Go.Proofs.YtjefoedojglhpaaDoorW.PrintLast Go.Proofs.YtjefoedojglhpaaDoorW.PrintMore Go.Proofs.YtjefoedojglhpaaDoor.LBase Go.Proofs.YtjefoedojglhpaaDoor.LHex Go.Proofs.YtjefoedojglhpaaDoor.LDraw Go.Proofs.YtjefoedojglhpaaDoor.LDrawHex
set_option linter.unusedVariables false
set_option linter.unusedSimpArgs false
theorem FnHexTone : ∀ (l0 : List Int), l0.length ≤ maxLen → l0.length * 1 ≤ 140737488351232 → (∀ n ∈ l0, (Lit.int .u8 n).wf = true) → ∃ k, laws_FnHexTone.f k l0 = some true := by
  intro l0 z1 z2 hw
  refine ⟨20, ?_⟩
  unfold laws_FnHexTone.f
  by_cases h : (l0.length : Int) > 1048576
  · rw [if_pos h]
  · obtain ⟨x, y, x0, x1, y0, y1, hd⟩ := hextone_d (bytes_of hw)
    rw [if_neg h, hd 20 (by omega)]
    simp only [Option.bind_some]
    clear hd h hw
    obtain ⟨n, rfl⟩ : ∃ n : Nat, x = (n : Int) - 1 := ⟨(x + 1).toNat, by omega⟩
    obtain ⟨m, rfl⟩ : ∃ m : Nat, y = (m : Int) - 1 := ⟨(y + 1).toNat, by omega⟩
    have hn : n < 24 := by omega
    have hm : m < 8 := by omega
    clear x0 x1 y0 y1 z1 z2 l0
    revert hm
    revert m
    revert hn
    revert n
    decide +kernel

end Go.Proofs.YtjefoedojglhpaaDoor.PureFnHexTone
