/-
  DERIVED. GIVEN WITH THE SEED: THE CARDS: each row of YtdodkidnblmheaaDoorRows.lean that lists a variable, with what it lists TIED to the program's text (the seventh form; the later family's looks); each row that meets fmt, with fmt's text TOLD by the authors' own Lean function (tested against real Go, not proved from fmt's source: count such statements apart). THE CARD IS WHAT COUNTS. Prove the row's statement (the work); the ties are given (YtdodkidnblmheaaDoorTie.lean); close each card by the builder's one call (the guide's Derived/Test/ToyasCard.lean, 'card_holds'). Laid BY PROGRAM, IN A SANDBOX (cutbox-door.mjs). By AI agents, Wed Nov 11 2026. No macro, syntax, notation, axiom, sorry.
-/
import Derived.Test.YtdodkidnblmheaaDoorRows
import GoSem.ClaimSeven
namespace Go.Proofs.YtdodkidnblmheaaDoor
namespace Rows

/-- THE TIED CARD OF 'laws.FnStemFill'. -/
def fnStemFillCard : Claim7 := { stood := { row := fnStemFillRow, standIns := [], harness := (true, "d4ad8d3cfaa6b74ad82f1e31985118c059b71f24f7bb991029a2b6f8d7533ac2"), looks := false }, kinds := [], alts := [], laidByText := true, laidKinds := [.data, .pinned], laidTests := true, laidLooks := .later }
def FnStemFillCardSaid : Prop := Claim7.holds Tryd.pinned (.plain (OpenSpec.ofChange fnStemFillSpec)) fnStemFillCard

/-- THE SECOND FORM's CARD OF 'laws.FnStemFill'. -/
def fnStemFillUptoCard : Claim7 := { stood := { row := fnStemFillUptoRow, standIns := [], harness := (true, "d4ad8d3cfaa6b74ad82f1e31985118c059b71f24f7bb991029a2b6f8d7533ac2"), looks := false }, kinds := [], alts := [], laidByText := true, laidKinds := [.data, .pinned], laidTests := true, laidLooks := .later }
def FnStemFillUptoCardSaid : Prop := Claim7.holds Tryd.pinned (.plain (OpenSpec.upto fnStemFillSpec)) fnStemFillUptoCard
end Rows
end Go.Proofs.YtdodkidnblmheaaDoor
