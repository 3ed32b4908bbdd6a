/-
  DERIVED. GIVEN WITH THE SEED: THE CARDS: each row of YtkdlfnakbilhjaaGreatDoorRows.lean that lists a variable, with what it lists TIED to the program's text (the seventh form; the later family's looks); each row that meets fmt, with fmt's text TOLD by the authors' own Lean function (tested against real Go, not proved from fmt's source: count such statements apart). THE CARD IS WHAT COUNTS. Prove the row's statement (the work); the ties are given (YtkdlfnakbilhjaaGreatDoorTie.lean); close each card by the builder's one call (the guide's Derived/Test/ToyasCard.lean, 'card_holds'). Laid BY PROGRAM, IN A SANDBOX (cutbox-door.mjs). By AI agents, Wed Nov 11 2026. No macro, syntax, notation, axiom, sorry.
-/
import Derived.Test.YtkdlfnakbilhjaaGreatDoorRows
import GoSem.ClaimSeven
namespace Go.Proofs.YtkdlfnakbilhjaaGreatDoor
namespace Rows

/-- THE TIED CARD OF 'laws.FnExecuteMode'. -/
def fnExecuteModeCard : Claim7 := { stood := { row := fnExecuteModeRow, standIns := [], harness := (true, "1d261216553008660c0d8e49d712cd57adf068063c019a90c92c1b834e04a309"), looks := true }, kinds := [], alts := [], laidByText := true, laidKinds := [.data, .data, .data, .data, .data, .data, .data, .data, .data, .pinned], laidTests := true, laidLooks := .later }
def FnExecuteModeCardSaid : Prop := Claim7.holds Tryz.pinned (.plain (OpenSpec.ofChange fnExecuteModeSpec)) fnExecuteModeCard

/-- THE SECOND FORM's CARD OF 'laws.FnExecuteMode'. -/
def fnExecuteModeUptoCard : Claim7 := { stood := { row := fnExecuteModeUptoRow, standIns := [], harness := (true, "1d261216553008660c0d8e49d712cd57adf068063c019a90c92c1b834e04a309"), looks := true }, kinds := [], alts := [], laidByText := true, laidKinds := [.data, .data, .data, .data, .data, .data, .data, .data, .data, .pinned], laidTests := true, laidLooks := .later }
def FnExecuteModeUptoCardSaid : Prop := Claim7.holds Tryz.pinned (.plain (OpenSpec.upto fnExecuteModeSpec)) fnExecuteModeUptoCard
end Rows
end Go.Proofs.YtkdlfnakbilhjaaGreatDoor
