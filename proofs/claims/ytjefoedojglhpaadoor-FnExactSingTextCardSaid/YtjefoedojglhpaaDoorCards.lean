/-
  DERIVED. GIVEN WITH THE SEED: THE CARDS: each row of YtjefoedojglhpaaDoorRows.lean that lists a variable, with what it lists TIED to the program's text (the seventh form; the later family's looks); each row that meets fmt, with fmt's text TOLD by the authors' own Lean function (tested against real Go, not proved from fmt's source: count such statements apart). THE CARD IS WHAT COUNTS. Prove the row's statement (the work); the ties are given (YtjefoedojglhpaaDoorTie.lean); close each card by the builder's one call (the guide's Derived/Test/ToyasCard.lean, 'card_holds'). Laid BY PROGRAM, IN A SANDBOX (cutbox-door.mjs). By AI agents, Wed Nov 11 2026. No macro, syntax, notation, axiom, sorry.
-/
import Derived.Test.YtjefoedojglhpaaDoorRows
import GoSem.ClaimSeven
namespace Go.Proofs.YtjefoedojglhpaaDoor
namespace Rows

/-- THE TIED CARD OF 'laws.FnExactHexValid'. -/
def fnExactHexValidCard : Claim7 := { stood := { row := fnExactHexValidRow, standIns := [], harness := (true, "ab9ea7e885ecb4fd6884383a600fbd22a0ef455931cf25aec4150c3e77ae8a04"), looks := false }, kinds := [], alts := [], laidByText := true, laidKinds := [.data], laidTests := true, laidLooks := .later }
def FnExactHexValidCardSaid : Prop := Claim7.holds Tryd.pinned (.plain (OpenSpec.ofChange fnExactHexValidSpec)) fnExactHexValidCard

/-- THE TIED CARD OF 'laws.FnExactHexKind'. -/
def fnExactHexKindCard : Claim7 := { stood := { row := fnExactHexKindRow, standIns := [], harness := (true, "ab9ea7e885ecb4fd6884383a600fbd22a0ef455931cf25aec4150c3e77ae8a04"), looks := false }, kinds := [], alts := [], laidByText := true, laidKinds := [.data], laidTests := true, laidLooks := .later }
def FnExactHexKindCardSaid : Prop := Claim7.holds Tryd.pinned (.plain (OpenSpec.ofChange fnExactHexKindSpec)) fnExactHexKindCard

/-- THE TIED CARD OF 'laws.FnExactHexTone'. -/
def fnExactHexToneCard : Claim7 := { stood := { row := fnExactHexToneRow, standIns := [], harness := (true, "ab9ea7e885ecb4fd6884383a600fbd22a0ef455931cf25aec4150c3e77ae8a04"), looks := false }, kinds := [], alts := [], laidByText := true, laidKinds := [.data], laidTests := true, laidLooks := .later }
def FnExactHexToneCardSaid : Prop := Claim7.holds Tryd.pinned (.plain (OpenSpec.ofChange fnExactHexToneSpec)) fnExactHexToneCard

/-- THE TIED CARD OF 'laws.FnExactHexSyllable'. -/
def fnExactHexSyllableCard : Claim7 := { stood := { row := fnExactHexSyllableRow, standIns := [], harness := (true, "ab9ea7e885ecb4fd6884383a600fbd22a0ef455931cf25aec4150c3e77ae8a04"), looks := false }, kinds := [], alts := [], laidByText := true, laidKinds := [.data], laidTests := true, laidLooks := .later }
def FnExactHexSyllableCardSaid : Prop := Claim7.holds Tryd.pinned (.plain (OpenSpec.ofChange fnExactHexSyllableSpec)) fnExactHexSyllableCard

/-- THE TIED CARD OF 'laws.FnHexKind'. -/
def fnHexKindCard : Claim7 := { stood := { row := fnHexKindRow, standIns := [], harness := (true, "ab9ea7e885ecb4fd6884383a600fbd22a0ef455931cf25aec4150c3e77ae8a04"), looks := false }, kinds := [], alts := [], laidByText := true, laidKinds := [.data], laidTests := true, laidLooks := .later }
def FnHexKindCardSaid : Prop := Claim7.holds Tryd.pinned (.plain (OpenSpec.ofChange fnHexKindSpec)) fnHexKindCard

/-- THE TIED CARD OF 'laws.FnHexTone'. -/
def fnHexToneCard : Claim7 := { stood := { row := fnHexToneRow, standIns := [], harness := (true, "ab9ea7e885ecb4fd6884383a600fbd22a0ef455931cf25aec4150c3e77ae8a04"), looks := false }, kinds := [], alts := [], laidByText := true, laidKinds := [.data, .data], laidTests := true, laidLooks := .later }
def FnHexToneCardSaid : Prop := Claim7.holds Tryd.pinned (.plain (OpenSpec.ofChange fnHexToneSpec)) fnHexToneCard

/-- THE TIED CARD OF 'laws.FnHexSyllable'. -/
def fnHexSyllableCard : Claim7 := { stood := { row := fnHexSyllableRow, standIns := [], harness := (true, "ab9ea7e885ecb4fd6884383a600fbd22a0ef455931cf25aec4150c3e77ae8a04"), looks := false }, kinds := [], alts := [], laidByText := true, laidKinds := [.data, .data], laidTests := true, laidLooks := .later }
def FnHexSyllableCardSaid : Prop := Claim7.holds Tryd.pinned (.plain (OpenSpec.ofChange fnHexSyllableSpec)) fnHexSyllableCard

/-- THE TIED CARD OF 'laws.FnHexAll'. -/
def fnHexAllCard : Claim7 := { stood := { row := fnHexAllRow, standIns := [], harness := (true, "ab9ea7e885ecb4fd6884383a600fbd22a0ef455931cf25aec4150c3e77ae8a04"), looks := false }, kinds := [], alts := [], laidByText := true, laidKinds := [.data, .data], laidTests := true, laidLooks := .later }
def FnHexAllCardSaid : Prop := Claim7.holds Tryd.pinned (.plain (OpenSpec.ofChange fnHexAllSpec)) fnHexAllCard

/-- THE TIED CARD OF 'laws.FnExactSingOk'. -/
def fnExactSingOkCard : Claim7 := { stood := { row := fnExactSingOkRow, standIns := [], harness := (true, "ab9ea7e885ecb4fd6884383a600fbd22a0ef455931cf25aec4150c3e77ae8a04"), looks := false }, kinds := [], alts := [], laidByText := true, laidKinds := [.data], laidTests := true, laidLooks := .later }
def FnExactSingOkCardSaid : Prop := Claim7.holds Tryd.pinned (.plain (OpenSpec.ofChange fnExactSingOkSpec)) fnExactSingOkCard

/-- THE TIED CARD OF 'laws.FnExactSingMutations'. -/
def fnExactSingMutationsCard : Claim7 := { stood := { row := fnExactSingMutationsRow, standIns := [], harness := (true, "ab9ea7e885ecb4fd6884383a600fbd22a0ef455931cf25aec4150c3e77ae8a04"), looks := false }, kinds := [], alts := [], laidByText := true, laidKinds := [.data], laidTests := true, laidLooks := .later }
def FnExactSingMutationsCardSaid : Prop := Claim7.holds Tryd.pinned (.plain (OpenSpec.ofChange fnExactSingMutationsSpec)) fnExactSingMutationsCard

/-- THE TIED CARD OF 'laws.FnSingMutations'. -/
def fnSingMutationsCard : Claim7 := { stood := { row := fnSingMutationsRow, standIns := [], harness := (true, "ab9ea7e885ecb4fd6884383a600fbd22a0ef455931cf25aec4150c3e77ae8a04"), looks := false }, kinds := [], alts := [], laidByText := true, laidKinds := [.data], laidTests := true, laidLooks := .later }
def FnSingMutationsCardSaid : Prop := Claim7.holds Tryd.pinned (.plain (OpenSpec.ofChange fnSingMutationsSpec)) fnSingMutationsCard

/-- THE TIED CARD OF 'laws.FnExactSingText'. -/
def fnExactSingTextCard : Claim7 := { stood := { row := fnExactSingTextRow, standIns := [], harness := (true, "ab9ea7e885ecb4fd6884383a600fbd22a0ef455931cf25aec4150c3e77ae8a04"), looks := false }, kinds := [], alts := [], laidByText := true, laidKinds := [.data, .data], laidTests := true, laidLooks := .later }
def FnExactSingTextCardSaid : Prop := Claim7.holds Tryd.pinned (.plain (OpenSpec.ofChange fnExactSingTextSpec)) fnExactSingTextCard

/-- THE SECOND FORM's CARD OF 'laws.FnExactHexValid'. -/
def fnExactHexValidUptoCard : Claim7 := { stood := { row := fnExactHexValidUptoRow, standIns := [], harness := (true, "ab9ea7e885ecb4fd6884383a600fbd22a0ef455931cf25aec4150c3e77ae8a04"), looks := false }, kinds := [], alts := [], laidByText := true, laidKinds := [.data], laidTests := true, laidLooks := .later }
def FnExactHexValidUptoCardSaid : Prop := Claim7.holds Tryd.pinned (.plain (OpenSpec.upto fnExactHexValidSpec)) fnExactHexValidUptoCard

/-- THE SECOND FORM's CARD OF 'laws.FnExactHexKind'. -/
def fnExactHexKindUptoCard : Claim7 := { stood := { row := fnExactHexKindUptoRow, standIns := [], harness := (true, "ab9ea7e885ecb4fd6884383a600fbd22a0ef455931cf25aec4150c3e77ae8a04"), looks := false }, kinds := [], alts := [], laidByText := true, laidKinds := [.data], laidTests := true, laidLooks := .later }
def FnExactHexKindUptoCardSaid : Prop := Claim7.holds Tryd.pinned (.plain (OpenSpec.upto fnExactHexKindSpec)) fnExactHexKindUptoCard

/-- THE SECOND FORM's CARD OF 'laws.FnExactHexTone'. -/
def fnExactHexToneUptoCard : Claim7 := { stood := { row := fnExactHexToneUptoRow, standIns := [], harness := (true, "ab9ea7e885ecb4fd6884383a600fbd22a0ef455931cf25aec4150c3e77ae8a04"), looks := false }, kinds := [], alts := [], laidByText := true, laidKinds := [.data], laidTests := true, laidLooks := .later }
def FnExactHexToneUptoCardSaid : Prop := Claim7.holds Tryd.pinned (.plain (OpenSpec.upto fnExactHexToneSpec)) fnExactHexToneUptoCard

/-- THE SECOND FORM's CARD OF 'laws.FnExactHexSyllable'. -/
def fnExactHexSyllableUptoCard : Claim7 := { stood := { row := fnExactHexSyllableUptoRow, standIns := [], harness := (true, "ab9ea7e885ecb4fd6884383a600fbd22a0ef455931cf25aec4150c3e77ae8a04"), looks := false }, kinds := [], alts := [], laidByText := true, laidKinds := [.data], laidTests := true, laidLooks := .later }
def FnExactHexSyllableUptoCardSaid : Prop := Claim7.holds Tryd.pinned (.plain (OpenSpec.upto fnExactHexSyllableSpec)) fnExactHexSyllableUptoCard

/-- THE SECOND FORM's CARD OF 'laws.FnHexKind'. -/
def fnHexKindUptoCard : Claim7 := { stood := { row := fnHexKindUptoRow, standIns := [], harness := (true, "ab9ea7e885ecb4fd6884383a600fbd22a0ef455931cf25aec4150c3e77ae8a04"), looks := false }, kinds := [], alts := [], laidByText := true, laidKinds := [.data], laidTests := true, laidLooks := .later }
def FnHexKindUptoCardSaid : Prop := Claim7.holds Tryd.pinned (.plain (OpenSpec.upto fnHexKindSpec)) fnHexKindUptoCard

/-- THE SECOND FORM's CARD OF 'laws.FnHexTone'. -/
def fnHexToneUptoCard : Claim7 := { stood := { row := fnHexToneUptoRow, standIns := [], harness := (true, "ab9ea7e885ecb4fd6884383a600fbd22a0ef455931cf25aec4150c3e77ae8a04"), looks := false }, kinds := [], alts := [], laidByText := true, laidKinds := [.data, .data], laidTests := true, laidLooks := .later }
def FnHexToneUptoCardSaid : Prop := Claim7.holds Tryd.pinned (.plain (OpenSpec.upto fnHexToneSpec)) fnHexToneUptoCard

/-- THE SECOND FORM's CARD OF 'laws.FnHexSyllable'. -/
def fnHexSyllableUptoCard : Claim7 := { stood := { row := fnHexSyllableUptoRow, standIns := [], harness := (true, "ab9ea7e885ecb4fd6884383a600fbd22a0ef455931cf25aec4150c3e77ae8a04"), looks := false }, kinds := [], alts := [], laidByText := true, laidKinds := [.data, .data], laidTests := true, laidLooks := .later }
def FnHexSyllableUptoCardSaid : Prop := Claim7.holds Tryd.pinned (.plain (OpenSpec.upto fnHexSyllableSpec)) fnHexSyllableUptoCard

/-- THE SECOND FORM's CARD OF 'laws.FnHexAll'. -/
def fnHexAllUptoCard : Claim7 := { stood := { row := fnHexAllUptoRow, standIns := [], harness := (true, "ab9ea7e885ecb4fd6884383a600fbd22a0ef455931cf25aec4150c3e77ae8a04"), looks := false }, kinds := [], alts := [], laidByText := true, laidKinds := [.data, .data], laidTests := true, laidLooks := .later }
def FnHexAllUptoCardSaid : Prop := Claim7.holds Tryd.pinned (.plain (OpenSpec.upto fnHexAllSpec)) fnHexAllUptoCard

/-- THE SECOND FORM's CARD OF 'laws.FnExactSingOk'. -/
def fnExactSingOkUptoCard : Claim7 := { stood := { row := fnExactSingOkUptoRow, standIns := [], harness := (true, "ab9ea7e885ecb4fd6884383a600fbd22a0ef455931cf25aec4150c3e77ae8a04"), looks := false }, kinds := [], alts := [], laidByText := true, laidKinds := [.data], laidTests := true, laidLooks := .later }
def FnExactSingOkUptoCardSaid : Prop := Claim7.holds Tryd.pinned (.plain (OpenSpec.upto fnExactSingOkSpec)) fnExactSingOkUptoCard

/-- THE SECOND FORM's CARD OF 'laws.FnExactSingMutations'. -/
def fnExactSingMutationsUptoCard : Claim7 := { stood := { row := fnExactSingMutationsUptoRow, standIns := [], harness := (true, "ab9ea7e885ecb4fd6884383a600fbd22a0ef455931cf25aec4150c3e77ae8a04"), looks := false }, kinds := [], alts := [], laidByText := true, laidKinds := [.data], laidTests := true, laidLooks := .later }
def FnExactSingMutationsUptoCardSaid : Prop := Claim7.holds Tryd.pinned (.plain (OpenSpec.upto fnExactSingMutationsSpec)) fnExactSingMutationsUptoCard

/-- THE SECOND FORM's CARD OF 'laws.FnSingMutations'. -/
def fnSingMutationsUptoCard : Claim7 := { stood := { row := fnSingMutationsUptoRow, standIns := [], harness := (true, "ab9ea7e885ecb4fd6884383a600fbd22a0ef455931cf25aec4150c3e77ae8a04"), looks := false }, kinds := [], alts := [], laidByText := true, laidKinds := [.data], laidTests := true, laidLooks := .later }
def FnSingMutationsUptoCardSaid : Prop := Claim7.holds Tryd.pinned (.plain (OpenSpec.upto fnSingMutationsSpec)) fnSingMutationsUptoCard

/-- THE SECOND FORM's CARD OF 'laws.FnExactSingText'. -/
def fnExactSingTextUptoCard : Claim7 := { stood := { row := fnExactSingTextUptoRow, standIns := [], harness := (true, "ab9ea7e885ecb4fd6884383a600fbd22a0ef455931cf25aec4150c3e77ae8a04"), looks := false }, kinds := [], alts := [], laidByText := true, laidKinds := [.data, .data], laidTests := true, laidLooks := .later }
def FnExactSingTextUptoCardSaid : Prop := Claim7.holds Tryd.pinned (.plain (OpenSpec.upto fnExactSingTextSpec)) fnExactSingTextUptoCard
end Rows
end Go.Proofs.YtjefoedojglhpaaDoor
