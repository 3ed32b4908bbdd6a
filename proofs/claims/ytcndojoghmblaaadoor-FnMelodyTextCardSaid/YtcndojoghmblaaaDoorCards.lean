/-
  DERIVED. GIVEN WITH THE SEED: THE CARDS: each row of YtcndojoghmblaaaDoorRows.lean that lists a variable, with what it lists TIED to the program's text (the seventh form; the later family's looks); each row that meets fmt, with fmt's text TOLD by the authors' own Lean function (tested against real Go, not proved from fmt's source: count such statements apart). THE CARD IS WHAT COUNTS. Prove the row's statement (the work); the ties are given (YtcndojoghmblaaaDoorTie.lean); close each card by the builder's one call (the guide's Derived/Test/ToyasCard.lean, 'card_holds'). Laid BY PROGRAM, IN A SANDBOX (cutbox-door.mjs). By AI agents, Wed Nov 11 2026. No macro, syntax, notation, axiom, sorry.
-/
import Derived.Test.YtcndojoghmblaaaDoorRows
import GoSem.ClaimSeven
namespace Go.Proofs.YtcndojoghmblaaaDoor
namespace Rows

/-- THE TIED CARD OF 'laws.FnConcords'. -/
def fnConcordsCard : Claim7 := { stood := { row := fnConcordsRow, standIns := [], harness := (true, "23ee2c5a744bdfb580a9ccc2383d898d1fcadd719204bd678155074a2426dfcb"), looks := false }, kinds := [], alts := [], laidByText := true, laidKinds := [.data, .data, .data, .data, .data], laidTests := true, laidLooks := .later }
def FnConcordsCardSaid : Prop := Claim7.holds Tryd.pinned (.plain (OpenSpec.ofChange fnConcordsSpec)) fnConcordsCard

/-- THE TIED CARD OF 'laws.FnParallels'. -/
def fnParallelsCard : Claim7 := { stood := { row := fnParallelsRow, standIns := [], harness := (true, "23ee2c5a744bdfb580a9ccc2383d898d1fcadd719204bd678155074a2426dfcb"), looks := false }, kinds := [], alts := [], laidByText := true, laidKinds := [.data, .data, .data, .data, .data], laidTests := true, laidLooks := .later }
def FnParallelsCardSaid : Prop := Claim7.holds Tryd.pinned (.plain (OpenSpec.ofChange fnParallelsSpec)) fnParallelsCard

/-- THE TIED CARD OF 'laws.FnDiscantMove'. -/
def fnDiscantMoveCard : Claim7 := { stood := { row := fnDiscantMoveRow, standIns := [], harness := (true, "23ee2c5a744bdfb580a9ccc2383d898d1fcadd719204bd678155074a2426dfcb"), looks := false }, kinds := [], alts := [], laidByText := true, laidKinds := [.data, .data, .data, .data, .data], laidTests := true, laidLooks := .later }
def FnDiscantMoveCardSaid : Prop := Claim7.holds Tryd.pinned (.plain (OpenSpec.ofChange fnDiscantMoveSpec)) fnDiscantMoveCard

/-- THE TIED CARD OF 'laws.FnDiscantOk'. -/
def fnDiscantOkCard : Claim7 := { stood := { row := fnDiscantOkRow, standIns := [], harness := (true, "23ee2c5a744bdfb580a9ccc2383d898d1fcadd719204bd678155074a2426dfcb"), looks := false }, kinds := [], alts := [], laidByText := true, laidKinds := [.data, .data, .data, .data, .data], laidTests := true, laidLooks := .later }
def FnDiscantOkCardSaid : Prop := Claim7.holds Tryd.pinned (.plain (OpenSpec.ofChange fnDiscantOkSpec)) fnDiscantOkCard

/-- THE TIED CARD OF 'laws.FnSingBest'. -/
def fnSingBestCard : Claim7 := { stood := { row := fnSingBestRow, standIns := [], harness := (true, "23ee2c5a744bdfb580a9ccc2383d898d1fcadd719204bd678155074a2426dfcb"), looks := false }, kinds := [], alts := [], laidByText := true, laidKinds := [.data], laidTests := true, laidLooks := .later }
def FnSingBestCardSaid : Prop := Claim7.holds Tryd.pinned (.plain (OpenSpec.ofChange fnSingBestSpec)) fnSingBestCard

/-- THE TIED CARD OF 'laws.FnSingFew'. -/
def fnSingFewCard : Claim7 := { stood := { row := fnSingFewRow, standIns := [], harness := (true, "23ee2c5a744bdfb580a9ccc2383d898d1fcadd719204bd678155074a2426dfcb"), looks := false }, kinds := [], alts := [], laidByText := true, laidKinds := [.data], laidTests := true, laidLooks := .later }
def FnSingFewCardSaid : Prop := Claim7.holds Tryd.pinned (.plain (OpenSpec.ofChange fnSingFewSpec)) fnSingFewCard

/-- THE TIED CARD OF 'laws.FnSing'. -/
def fnSingCard : Claim7 := { stood := { row := fnSingRow, standIns := [], harness := (true, "23ee2c5a744bdfb580a9ccc2383d898d1fcadd719204bd678155074a2426dfcb"), looks := false }, kinds := [], alts := [], laidByText := true, laidKinds := [.data, .data], laidTests := true, laidLooks := .later }
def FnSingCardSaid : Prop := Claim7.holds Tryd.pinned (.plain (OpenSpec.ofChange fnSingSpec)) fnSingCard

/-- THE TIED CARD OF 'laws.FnMelodyJoin'. -/
def fnMelodyJoinCard : Claim7 := { stood := { row := fnMelodyJoinRow, standIns := [], harness := (true, "23ee2c5a744bdfb580a9ccc2383d898d1fcadd719204bd678155074a2426dfcb"), looks := false }, kinds := [], alts := [], laidByText := true, laidKinds := [.data, .data, .data, .data], laidTests := true, laidLooks := .later }
def FnMelodyJoinCardSaid : Prop := Claim7.holds Tryd.pinned (.plain (OpenSpec.ofChange fnMelodyJoinSpec)) fnMelodyJoinCard

/-- THE TIED CARD OF 'laws.FnMelodyText'. -/
def fnMelodyTextCard : Claim7 := { stood := { row := fnMelodyTextRow, standIns := [], harness := (true, "23ee2c5a744bdfb580a9ccc2383d898d1fcadd719204bd678155074a2426dfcb"), looks := false }, kinds := [], alts := [], laidByText := true, laidKinds := [.data, .data, .data, .data, .data, .pinned], laidTests := true, laidLooks := .later }
def FnMelodyTextCardSaid : Prop := Claim7.holds Tryd.pinned (.plain (OpenSpec.ofChange fnMelodyTextSpec)) fnMelodyTextCard

/-- THE TIED CARD OF 'laws.FnMelodyFrom'. -/
def fnMelodyFromCard : Claim7 := { stood := { row := fnMelodyFromRow, standIns := [], harness := (true, "23ee2c5a744bdfb580a9ccc2383d898d1fcadd719204bd678155074a2426dfcb"), looks := false }, kinds := [], alts := [], laidByText := true, laidKinds := [.data, .data, .data, .data, .data, .pinned], laidTests := true, laidLooks := .later }
def FnMelodyFromCardSaid : Prop := Claim7.holds Tryd.pinned (.plain (OpenSpec.ofChange fnMelodyFromSpec)) fnMelodyFromCard

/-- THE TIED CARD OF 'laws.FnStemFill'. -/
def fnStemFillCard : Claim7 := { stood := { row := fnStemFillRow, standIns := [], harness := (true, "23ee2c5a744bdfb580a9ccc2383d898d1fcadd719204bd678155074a2426dfcb"), looks := false }, kinds := [], alts := [], laidByText := true, laidKinds := [.data, .pinned], laidTests := true, laidLooks := .later }
def FnStemFillCardSaid : Prop := Claim7.holds Tryd.pinned (.plain (OpenSpec.ofChange fnStemFillSpec)) fnStemFillCard

/-- THE SECOND FORM's CARD OF 'laws.FnConcords'. -/
def fnConcordsUptoCard : Claim7 := { stood := { row := fnConcordsUptoRow, standIns := [], harness := (true, "23ee2c5a744bdfb580a9ccc2383d898d1fcadd719204bd678155074a2426dfcb"), looks := false }, kinds := [], alts := [], laidByText := true, laidKinds := [.data, .data, .data, .data, .data], laidTests := true, laidLooks := .later }
def FnConcordsUptoCardSaid : Prop := Claim7.holds Tryd.pinned (.plain (OpenSpec.upto fnConcordsSpec)) fnConcordsUptoCard

/-- THE SECOND FORM's CARD OF 'laws.FnParallels'. -/
def fnParallelsUptoCard : Claim7 := { stood := { row := fnParallelsUptoRow, standIns := [], harness := (true, "23ee2c5a744bdfb580a9ccc2383d898d1fcadd719204bd678155074a2426dfcb"), looks := false }, kinds := [], alts := [], laidByText := true, laidKinds := [.data, .data, .data, .data, .data], laidTests := true, laidLooks := .later }
def FnParallelsUptoCardSaid : Prop := Claim7.holds Tryd.pinned (.plain (OpenSpec.upto fnParallelsSpec)) fnParallelsUptoCard

/-- THE SECOND FORM's CARD OF 'laws.FnDiscantMove'. -/
def fnDiscantMoveUptoCard : Claim7 := { stood := { row := fnDiscantMoveUptoRow, standIns := [], harness := (true, "23ee2c5a744bdfb580a9ccc2383d898d1fcadd719204bd678155074a2426dfcb"), looks := false }, kinds := [], alts := [], laidByText := true, laidKinds := [.data, .data, .data, .data, .data], laidTests := true, laidLooks := .later }
def FnDiscantMoveUptoCardSaid : Prop := Claim7.holds Tryd.pinned (.plain (OpenSpec.upto fnDiscantMoveSpec)) fnDiscantMoveUptoCard

/-- THE SECOND FORM's CARD OF 'laws.FnDiscantOk'. -/
def fnDiscantOkUptoCard : Claim7 := { stood := { row := fnDiscantOkUptoRow, standIns := [], harness := (true, "23ee2c5a744bdfb580a9ccc2383d898d1fcadd719204bd678155074a2426dfcb"), looks := false }, kinds := [], alts := [], laidByText := true, laidKinds := [.data, .data, .data, .data, .data], laidTests := true, laidLooks := .later }
def FnDiscantOkUptoCardSaid : Prop := Claim7.holds Tryd.pinned (.plain (OpenSpec.upto fnDiscantOkSpec)) fnDiscantOkUptoCard

/-- THE SECOND FORM's CARD OF 'laws.FnSingBest'. -/
def fnSingBestUptoCard : Claim7 := { stood := { row := fnSingBestUptoRow, standIns := [], harness := (true, "23ee2c5a744bdfb580a9ccc2383d898d1fcadd719204bd678155074a2426dfcb"), looks := false }, kinds := [], alts := [], laidByText := true, laidKinds := [.data], laidTests := true, laidLooks := .later }
def FnSingBestUptoCardSaid : Prop := Claim7.holds Tryd.pinned (.plain (OpenSpec.upto fnSingBestSpec)) fnSingBestUptoCard

/-- THE SECOND FORM's CARD OF 'laws.FnSingFew'. -/
def fnSingFewUptoCard : Claim7 := { stood := { row := fnSingFewUptoRow, standIns := [], harness := (true, "23ee2c5a744bdfb580a9ccc2383d898d1fcadd719204bd678155074a2426dfcb"), looks := false }, kinds := [], alts := [], laidByText := true, laidKinds := [.data], laidTests := true, laidLooks := .later }
def FnSingFewUptoCardSaid : Prop := Claim7.holds Tryd.pinned (.plain (OpenSpec.upto fnSingFewSpec)) fnSingFewUptoCard

/-- THE SECOND FORM's CARD OF 'laws.FnSing'. -/
def fnSingUptoCard : Claim7 := { stood := { row := fnSingUptoRow, standIns := [], harness := (true, "23ee2c5a744bdfb580a9ccc2383d898d1fcadd719204bd678155074a2426dfcb"), looks := false }, kinds := [], alts := [], laidByText := true, laidKinds := [.data, .data], laidTests := true, laidLooks := .later }
def FnSingUptoCardSaid : Prop := Claim7.holds Tryd.pinned (.plain (OpenSpec.upto fnSingSpec)) fnSingUptoCard

/-- THE SECOND FORM's CARD OF 'laws.FnMelodyJoin'. -/
def fnMelodyJoinUptoCard : Claim7 := { stood := { row := fnMelodyJoinUptoRow, standIns := [], harness := (true, "23ee2c5a744bdfb580a9ccc2383d898d1fcadd719204bd678155074a2426dfcb"), looks := false }, kinds := [], alts := [], laidByText := true, laidKinds := [.data, .data, .data, .data], laidTests := true, laidLooks := .later }
def FnMelodyJoinUptoCardSaid : Prop := Claim7.holds Tryd.pinned (.plain (OpenSpec.upto fnMelodyJoinSpec)) fnMelodyJoinUptoCard

/-- THE SECOND FORM's CARD OF 'laws.FnMelodyText'. -/
def fnMelodyTextUptoCard : Claim7 := { stood := { row := fnMelodyTextUptoRow, standIns := [], harness := (true, "23ee2c5a744bdfb580a9ccc2383d898d1fcadd719204bd678155074a2426dfcb"), looks := false }, kinds := [], alts := [], laidByText := true, laidKinds := [.data, .data, .data, .data, .data, .pinned], laidTests := true, laidLooks := .later }
def FnMelodyTextUptoCardSaid : Prop := Claim7.holds Tryd.pinned (.plain (OpenSpec.upto fnMelodyTextSpec)) fnMelodyTextUptoCard

/-- THE SECOND FORM's CARD OF 'laws.FnMelodyFrom'. -/
def fnMelodyFromUptoCard : Claim7 := { stood := { row := fnMelodyFromUptoRow, standIns := [], harness := (true, "23ee2c5a744bdfb580a9ccc2383d898d1fcadd719204bd678155074a2426dfcb"), looks := false }, kinds := [], alts := [], laidByText := true, laidKinds := [.data, .data, .data, .data, .data, .pinned], laidTests := true, laidLooks := .later }
def FnMelodyFromUptoCardSaid : Prop := Claim7.holds Tryd.pinned (.plain (OpenSpec.upto fnMelodyFromSpec)) fnMelodyFromUptoCard

/-- THE SECOND FORM's CARD OF 'laws.FnStemFill'. -/
def fnStemFillUptoCard : Claim7 := { stood := { row := fnStemFillUptoRow, standIns := [], harness := (true, "23ee2c5a744bdfb580a9ccc2383d898d1fcadd719204bd678155074a2426dfcb"), looks := false }, kinds := [], alts := [], laidByText := true, laidKinds := [.data, .pinned], laidTests := true, laidLooks := .later }
def FnStemFillUptoCardSaid : Prop := Claim7.holds Tryd.pinned (.plain (OpenSpec.upto fnStemFillSpec)) fnStemFillUptoCard
end Rows
end Go.Proofs.YtcndojoghmblaaaDoor
