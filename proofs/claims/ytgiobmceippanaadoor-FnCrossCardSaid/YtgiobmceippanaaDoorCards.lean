/-
  DERIVED. GIVEN WITH THE SEED: THE CARDS: each row of YtgiobmceippanaaDoorRows.lean that lists a variable, with what it lists TIED to the program's text (the seventh form; the later family's looks); each row that meets fmt, with fmt's text TOLD by the authors' own Lean function (tested against real Go, not proved from fmt's source: count such statements apart). THE CARD IS WHAT COUNTS. Prove the row's statement (the work); the ties are given (YtgiobmceippanaaDoorTie.lean); close each card by the builder's one call (the guide's Derived/Test/ToyasCard.lean, 'card_holds'). Laid BY PROGRAM, IN A SANDBOX (cutbox-door.mjs). By AI agents, Wed Nov 11 2026. No macro, syntax, notation, axiom, sorry.
-/
import Derived.Test.YtgiobmceippanaaDoorRows
import GoSem.ClaimSeven
namespace Go.Proofs.YtgiobmceippanaaDoor
namespace Rows

/-- THE TIED CARD OF 'laws.FnCross'. -/
def fnCrossCard : Claim7 := { stood := { row := fnCrossRow, standIns := [], harness := (true, "d3913b5905eaf71ea57efb473850242c23ba666a6ee12667d1b8f408de422c7b"), looks := false }, kinds := [], alts := [], laidByText := true, laidKinds := [.data], laidTests := true, laidLooks := .later }
def FnCrossCardSaid : Prop := Claim7.holds Tryd.pinned (.plain (OpenSpec.ofChange fnCrossSpec)) fnCrossCard

/-- THE TIED CARD OF 'laws.FnExactDiscantMove'. -/
def fnExactDiscantMoveCard : Claim7 := { stood := { row := fnExactDiscantMoveRow, standIns := [], harness := (true, "d3913b5905eaf71ea57efb473850242c23ba666a6ee12667d1b8f408de422c7b"), looks := false }, kinds := [], alts := [], laidByText := true, laidKinds := [.data], laidTests := true, laidLooks := .later }
def FnExactDiscantMoveCardSaid : Prop := Claim7.holds Tryd.pinned (.plain (OpenSpec.ofChange fnExactDiscantMoveSpec)) fnExactDiscantMoveCard

/-- THE TIED CARD OF 'laws.FnExactDiscantParallels'. -/
def fnExactDiscantParallelsCard : Claim7 := { stood := { row := fnExactDiscantParallelsRow, standIns := [], harness := (true, "d3913b5905eaf71ea57efb473850242c23ba666a6ee12667d1b8f408de422c7b"), looks := false }, kinds := [], alts := [], laidByText := true, laidKinds := [.data, .data, .data, .data, .data], laidTests := true, laidLooks := .later }
def FnExactDiscantParallelsCardSaid : Prop := Claim7.holds Tryd.pinned (.plain (OpenSpec.ofChange fnExactDiscantParallelsSpec)) fnExactDiscantParallelsCard

/-- THE TIED CARD OF 'laws.FnExactDiscantOk'. -/
def fnExactDiscantOkCard : Claim7 := { stood := { row := fnExactDiscantOkRow, standIns := [], harness := (true, "d3913b5905eaf71ea57efb473850242c23ba666a6ee12667d1b8f408de422c7b"), looks := false }, kinds := [], alts := [], laidByText := true, laidKinds := [.data, .data, .data, .data, .data], laidTests := true, laidLooks := .later }
def FnExactDiscantOkCardSaid : Prop := Claim7.holds Tryd.pinned (.plain (OpenSpec.ofChange fnExactDiscantOkSpec)) fnExactDiscantOkCard

/-- THE TIED CARD OF 'laws.FnExactDiscantConcords'. -/
def fnExactDiscantConcordsCard : Claim7 := { stood := { row := fnExactDiscantConcordsRow, standIns := [], harness := (true, "d3913b5905eaf71ea57efb473850242c23ba666a6ee12667d1b8f408de422c7b"), looks := false }, kinds := [], alts := [], laidByText := true, laidKinds := [.data, .data, .data, .data, .data], laidTests := true, laidLooks := .later }
def FnExactDiscantConcordsCardSaid : Prop := Claim7.holds Tryd.pinned (.plain (OpenSpec.ofChange fnExactDiscantConcordsSpec)) fnExactDiscantConcordsCard

/-- THE SECOND FORM's CARD OF 'laws.FnCross'. -/
def fnCrossUptoCard : Claim7 := { stood := { row := fnCrossUptoRow, standIns := [], harness := (true, "d3913b5905eaf71ea57efb473850242c23ba666a6ee12667d1b8f408de422c7b"), looks := false }, kinds := [], alts := [], laidByText := true, laidKinds := [.data], laidTests := true, laidLooks := .later }
def FnCrossUptoCardSaid : Prop := Claim7.holds Tryd.pinned (.plain (OpenSpec.upto fnCrossSpec)) fnCrossUptoCard

/-- THE SECOND FORM's CARD OF 'laws.FnExactDiscantMove'. -/
def fnExactDiscantMoveUptoCard : Claim7 := { stood := { row := fnExactDiscantMoveUptoRow, standIns := [], harness := (true, "d3913b5905eaf71ea57efb473850242c23ba666a6ee12667d1b8f408de422c7b"), looks := false }, kinds := [], alts := [], laidByText := true, laidKinds := [.data], laidTests := true, laidLooks := .later }
def FnExactDiscantMoveUptoCardSaid : Prop := Claim7.holds Tryd.pinned (.plain (OpenSpec.upto fnExactDiscantMoveSpec)) fnExactDiscantMoveUptoCard

/-- THE SECOND FORM's CARD OF 'laws.FnExactDiscantParallels'. -/
def fnExactDiscantParallelsUptoCard : Claim7 := { stood := { row := fnExactDiscantParallelsUptoRow, standIns := [], harness := (true, "d3913b5905eaf71ea57efb473850242c23ba666a6ee12667d1b8f408de422c7b"), looks := false }, kinds := [], alts := [], laidByText := true, laidKinds := [.data, .data, .data, .data, .data], laidTests := true, laidLooks := .later }
def FnExactDiscantParallelsUptoCardSaid : Prop := Claim7.holds Tryd.pinned (.plain (OpenSpec.upto fnExactDiscantParallelsSpec)) fnExactDiscantParallelsUptoCard

/-- THE SECOND FORM's CARD OF 'laws.FnExactDiscantOk'. -/
def fnExactDiscantOkUptoCard : Claim7 := { stood := { row := fnExactDiscantOkUptoRow, standIns := [], harness := (true, "d3913b5905eaf71ea57efb473850242c23ba666a6ee12667d1b8f408de422c7b"), looks := false }, kinds := [], alts := [], laidByText := true, laidKinds := [.data, .data, .data, .data, .data], laidTests := true, laidLooks := .later }
def FnExactDiscantOkUptoCardSaid : Prop := Claim7.holds Tryd.pinned (.plain (OpenSpec.upto fnExactDiscantOkSpec)) fnExactDiscantOkUptoCard

/-- THE SECOND FORM's CARD OF 'laws.FnExactDiscantConcords'. -/
def fnExactDiscantConcordsUptoCard : Claim7 := { stood := { row := fnExactDiscantConcordsUptoRow, standIns := [], harness := (true, "d3913b5905eaf71ea57efb473850242c23ba666a6ee12667d1b8f408de422c7b"), looks := false }, kinds := [], alts := [], laidByText := true, laidKinds := [.data, .data, .data, .data, .data], laidTests := true, laidLooks := .later }
def FnExactDiscantConcordsUptoCardSaid : Prop := Claim7.holds Tryd.pinned (.plain (OpenSpec.upto fnExactDiscantConcordsSpec)) fnExactDiscantConcordsUptoCard
end Rows
end Go.Proofs.YtgiobmceippanaaDoor
