/-
  NARROWER THAN 'FOR EVERY INPUT', by the rows' own cells (each row's printed sentence says how): FnExactHexValid: laid · FnExactHexKind: laid · FnExactHexTone: laid · FnExactHexSyllable: laid · FnHexKind: laid · FnHexTone: laid · FnHexSyllable: laid · FnHexAll: laid · FnExactSingOk: laid · FnExactSingMutations: laid · FnSingMutations: laid · FnExactSingText: laid.
  DERIVED. THE GIVEN ROWS OF THIS SEAT. 12 by the template 'for every input the law returns true; each argument reads behind the call as it read before'; 0 by the template 'total and deterministic' (their statements: YtjefoedojglhpaaDoorTotals.lean).
  GIVEN WITH THE SEED: the statements are not yours to turn. If you find one false, say at which input.
  Laid BY PROGRAM, IN A SANDBOX (cutbox-rows.mjs): the forced cells as the released guide's own fill.sh prints them over the translation 02e58e0db358beda… (all of the seat's roots in one cut). By AI agents, Wed Nov 11 2026. No macro, syntax, notation, axiom, sorry.
-/
import Derived.Test.YtjefoedojglhpaaDoorChecked
import GoSem.Claim
import GoSem.ClaimJoined
import GoSem.ClaimMapViews
import Derived.JoinedTies
import Derived.KernelRfl
namespace Go.Proofs.YtjefoedojglhpaaDoor
/- THE CELL 'sum', in the pinned program and in every row, IS THE sha256 OF THE DUMP (.gsa) THAT YtjefoedojglhpaaDoorProg.lean LOADS. Nothing in Lean hashes anything: it is a label: what it is worth is what the hold of that sum in a sandbox is worth. -/
noncomputable def Tryd.pinned : Pinned := { name := "ytjefoedojglhpaadoor", sum := "02e58e0db358bedacb5dc30a3ea07d25a1f253d8c0260f700d4b20b3aa2f80b3", checked := Tryd.checked }
namespace Rows
def none {H : Type} : Left H := { results := [], args := [] }

/- WHAT THE LISTED PACKAGE-LEVEL VARIABLES READ AS WHEN THE CALL BEGINS. Each datum BY PROGRAM (the guide's laid-datum.mjs) off the statement by which the dump's own 'gosem.cut.vars' lays the variable. In a bare row this is a premise. The card (YtjefoedojglhpaaDoorCards.lean) ties it to the program's text. -/
def laid_loop_example_neumes_impl_letterNames {H : Type} : DataW H := .agg [.lit (.string [71]), .lit (.string [65]), .lit (.string [66]), .lit (.string [67]), .lit (.string [68]), .lit (.string [69]), .lit (.string [70])]
def laid_loop_example_neumes_impl_letterHeights {H : Type} : DataW H := .agg [.lit (.int .i64 0), .lit (.int .i64 2), .lit (.int .i64 4), .lit (.int .i64 5), .lit (.int .i64 7), .lit (.int .i64 9), .lit (.int .i64 10)]
def laid_loop_example_neumes_impl_syllableNames {H : Type} : DataW H := .agg [.lit (.string [117, 116]), .lit (.string [114, 101]), .lit (.string [109, 105]), .lit (.string [102, 97]), .lit (.string [115, 111, 108]), .lit (.string [108, 97])]

/-- 'laws.FnExactHexValid': WHATEVER THE INPUT: true; the input reads as it did. -/
def fnExactHexValidSpec : ChangeSpec := { name := "fnExactHexValid", vars := ["loop.example/neumes/impl.letterNames"], fn := fun _ => fun
  | [d, g1] => { results := [.lit (.bool true)], args := [d], vars := [g1] }
  | _ => none }
def fnExactHexValidRow : OpenClaim := { program := "ytjefoedojglhpaadoor", sum := "02e58e0db358bedacb5dc30a3ea07d25a1f253d8c0260f700d4b20b3aa2f80b3", func := "loop.example/neumes/laws.FnExactHexValid", spec := "fnExactHexValid", named := ["loop.example/neumes/impl.letterNames"], apart := false, laid := [("loop.example/neumes/impl.letterNames", laid_loop_example_neumes_impl_letterNames)] }
def FnExactHexValidSaid : Prop := fnExactHexValidRow.holds Tryd.pinned (OpenSpec.ofChange fnExactHexValidSpec)

/-- ITS FALSE NEIGHBOUR: 'it returns false'. Refute it at one input. -/
def fnExactHexValidWrong : ChangeSpec := { name := "fnExactHexValid", vars := ["loop.example/neumes/impl.letterNames"], fn := fun _ => fun
  | [d, g1] => { results := [.lit (.bool false)], args := [d], vars := [g1] }
  | _ => none }
def FnExactHexValidWrongFalsely : Prop := fnExactHexValidRow.holds Tryd.pinned (OpenSpec.ofChange fnExactHexValidWrong)

/-- 'laws.FnExactHexKind': WHATEVER THE INPUT: true; the input reads as it did. -/
def fnExactHexKindSpec : ChangeSpec := { name := "fnExactHexKind", vars := ["loop.example/neumes/impl.letterNames"], fn := fun _ => fun
  | [d, g1] => { results := [.lit (.bool true)], args := [d], vars := [g1] }
  | _ => none }
def fnExactHexKindRow : OpenClaim := { program := "ytjefoedojglhpaadoor", sum := "02e58e0db358bedacb5dc30a3ea07d25a1f253d8c0260f700d4b20b3aa2f80b3", func := "loop.example/neumes/laws.FnExactHexKind", spec := "fnExactHexKind", named := ["loop.example/neumes/impl.letterNames"], apart := false, laid := [("loop.example/neumes/impl.letterNames", laid_loop_example_neumes_impl_letterNames)] }
def FnExactHexKindSaid : Prop := fnExactHexKindRow.holds Tryd.pinned (OpenSpec.ofChange fnExactHexKindSpec)

/-- ITS FALSE NEIGHBOUR: 'it returns false'. Refute it at one input. -/
def fnExactHexKindWrong : ChangeSpec := { name := "fnExactHexKind", vars := ["loop.example/neumes/impl.letterNames"], fn := fun _ => fun
  | [d, g1] => { results := [.lit (.bool false)], args := [d], vars := [g1] }
  | _ => none }
def FnExactHexKindWrongFalsely : Prop := fnExactHexKindRow.holds Tryd.pinned (OpenSpec.ofChange fnExactHexKindWrong)

/-- 'laws.FnExactHexTone': WHATEVER THE INPUT: true; the input reads as it did. -/
def fnExactHexToneSpec : ChangeSpec := { name := "fnExactHexTone", vars := ["loop.example/neumes/impl.letterNames"], fn := fun _ => fun
  | [d1, d2, g1] => { results := [.lit (.bool true)], args := [d1, d2], vars := [g1] }
  | _ => none }
def fnExactHexToneRow : OpenClaim := { program := "ytjefoedojglhpaadoor", sum := "02e58e0db358bedacb5dc30a3ea07d25a1f253d8c0260f700d4b20b3aa2f80b3", func := "loop.example/neumes/laws.FnExactHexTone", spec := "fnExactHexTone", named := ["loop.example/neumes/impl.letterNames"], apart := false, laid := [("loop.example/neumes/impl.letterNames", laid_loop_example_neumes_impl_letterNames)] }
def FnExactHexToneSaid : Prop := fnExactHexToneRow.holds Tryd.pinned (OpenSpec.ofChange fnExactHexToneSpec)

/-- ITS FALSE NEIGHBOUR: 'it returns false'. Refute it at one input. -/
def fnExactHexToneWrong : ChangeSpec := { name := "fnExactHexTone", vars := ["loop.example/neumes/impl.letterNames"], fn := fun _ => fun
  | [d1, d2, g1] => { results := [.lit (.bool false)], args := [d1, d2], vars := [g1] }
  | _ => none }
def FnExactHexToneWrongFalsely : Prop := fnExactHexToneRow.holds Tryd.pinned (OpenSpec.ofChange fnExactHexToneWrong)

/-- 'laws.FnExactHexSyllable': WHATEVER THE INPUT: true; the input reads as it did. -/
def fnExactHexSyllableSpec : ChangeSpec := { name := "fnExactHexSyllable", vars := ["loop.example/neumes/impl.letterNames"], fn := fun _ => fun
  | [d1, d2, g1] => { results := [.lit (.bool true)], args := [d1, d2], vars := [g1] }
  | _ => none }
def fnExactHexSyllableRow : OpenClaim := { program := "ytjefoedojglhpaadoor", sum := "02e58e0db358bedacb5dc30a3ea07d25a1f253d8c0260f700d4b20b3aa2f80b3", func := "loop.example/neumes/laws.FnExactHexSyllable", spec := "fnExactHexSyllable", named := ["loop.example/neumes/impl.letterNames"], apart := false, laid := [("loop.example/neumes/impl.letterNames", laid_loop_example_neumes_impl_letterNames)] }
def FnExactHexSyllableSaid : Prop := fnExactHexSyllableRow.holds Tryd.pinned (OpenSpec.ofChange fnExactHexSyllableSpec)

/-- ITS FALSE NEIGHBOUR: 'it returns false'. Refute it at one input. -/
def fnExactHexSyllableWrong : ChangeSpec := { name := "fnExactHexSyllable", vars := ["loop.example/neumes/impl.letterNames"], fn := fun _ => fun
  | [d1, d2, g1] => { results := [.lit (.bool false)], args := [d1, d2], vars := [g1] }
  | _ => none }
def FnExactHexSyllableWrongFalsely : Prop := fnExactHexSyllableRow.holds Tryd.pinned (OpenSpec.ofChange fnExactHexSyllableWrong)

/-- 'laws.FnHexKind': WHATEVER THE INPUT: true; the input reads as it did. -/
def fnHexKindSpec : ChangeSpec := { name := "fnHexKind", vars := ["loop.example/neumes/impl.letterNames"], fn := fun _ => fun
  | [d, g1] => { results := [.lit (.bool true)], args := [d], vars := [g1] }
  | _ => none }
def fnHexKindRow : OpenClaim := { program := "ytjefoedojglhpaadoor", sum := "02e58e0db358bedacb5dc30a3ea07d25a1f253d8c0260f700d4b20b3aa2f80b3", func := "loop.example/neumes/laws.FnHexKind", spec := "fnHexKind", named := ["loop.example/neumes/impl.letterNames"], apart := false, laid := [("loop.example/neumes/impl.letterNames", laid_loop_example_neumes_impl_letterNames)] }
def FnHexKindSaid : Prop := fnHexKindRow.holds Tryd.pinned (OpenSpec.ofChange fnHexKindSpec)

/-- ITS FALSE NEIGHBOUR: 'it returns false'. Refute it at one input. -/
def fnHexKindWrong : ChangeSpec := { name := "fnHexKind", vars := ["loop.example/neumes/impl.letterNames"], fn := fun _ => fun
  | [d, g1] => { results := [.lit (.bool false)], args := [d], vars := [g1] }
  | _ => none }
def FnHexKindWrongFalsely : Prop := fnHexKindRow.holds Tryd.pinned (OpenSpec.ofChange fnHexKindWrong)

/-- 'laws.FnHexTone': WHATEVER THE INPUT: true; the input reads as it did. -/
def fnHexToneSpec : ChangeSpec := { name := "fnHexTone", vars := ["loop.example/neumes/impl.letterNames", "loop.example/neumes/impl.letterHeights"], fn := fun _ => fun
  | [d, g1, g2] => { results := [.lit (.bool true)], args := [d], vars := [g1, g2] }
  | _ => none }
def fnHexToneRow : OpenClaim := { program := "ytjefoedojglhpaadoor", sum := "02e58e0db358bedacb5dc30a3ea07d25a1f253d8c0260f700d4b20b3aa2f80b3", func := "loop.example/neumes/laws.FnHexTone", spec := "fnHexTone", named := ["loop.example/neumes/impl.letterNames", "loop.example/neumes/impl.letterHeights"], apart := false, laid := [("loop.example/neumes/impl.letterNames", laid_loop_example_neumes_impl_letterNames), ("loop.example/neumes/impl.letterHeights", laid_loop_example_neumes_impl_letterHeights)] }
def FnHexToneSaid : Prop := fnHexToneRow.holds Tryd.pinned (OpenSpec.ofChange fnHexToneSpec)

/-- ITS FALSE NEIGHBOUR: 'it returns false'. Refute it at one input. -/
def fnHexToneWrong : ChangeSpec := { name := "fnHexTone", vars := ["loop.example/neumes/impl.letterNames", "loop.example/neumes/impl.letterHeights"], fn := fun _ => fun
  | [d, g1, g2] => { results := [.lit (.bool false)], args := [d], vars := [g1, g2] }
  | _ => none }
def FnHexToneWrongFalsely : Prop := fnHexToneRow.holds Tryd.pinned (OpenSpec.ofChange fnHexToneWrong)

/-- 'laws.FnHexSyllable': WHATEVER THE INPUT: true; the input reads as it did. -/
def fnHexSyllableSpec : ChangeSpec := { name := "fnHexSyllable", vars := ["loop.example/neumes/impl.letterNames", "loop.example/neumes/impl.letterHeights"], fn := fun _ => fun
  | [d1, d2, g1, g2] => { results := [.lit (.bool true)], args := [d1, d2], vars := [g1, g2] }
  | _ => none }
def fnHexSyllableRow : OpenClaim := { program := "ytjefoedojglhpaadoor", sum := "02e58e0db358bedacb5dc30a3ea07d25a1f253d8c0260f700d4b20b3aa2f80b3", func := "loop.example/neumes/laws.FnHexSyllable", spec := "fnHexSyllable", named := ["loop.example/neumes/impl.letterNames", "loop.example/neumes/impl.letterHeights"], apart := false, laid := [("loop.example/neumes/impl.letterNames", laid_loop_example_neumes_impl_letterNames), ("loop.example/neumes/impl.letterHeights", laid_loop_example_neumes_impl_letterHeights)] }
def FnHexSyllableSaid : Prop := fnHexSyllableRow.holds Tryd.pinned (OpenSpec.ofChange fnHexSyllableSpec)

/-- ITS FALSE NEIGHBOUR: 'it returns false'. Refute it at one input. -/
def fnHexSyllableWrong : ChangeSpec := { name := "fnHexSyllable", vars := ["loop.example/neumes/impl.letterNames", "loop.example/neumes/impl.letterHeights"], fn := fun _ => fun
  | [d1, d2, g1, g2] => { results := [.lit (.bool false)], args := [d1, d2], vars := [g1, g2] }
  | _ => none }
def FnHexSyllableWrongFalsely : Prop := fnHexSyllableRow.holds Tryd.pinned (OpenSpec.ofChange fnHexSyllableWrong)

/-- 'laws.FnHexAll': WHATEVER THE INPUT: true; the input reads as it did. -/
def fnHexAllSpec : ChangeSpec := { name := "fnHexAll", vars := ["loop.example/neumes/impl.letterNames", "loop.example/neumes/impl.syllableNames"], fn := fun _ => fun
  | [d, g1, g2] => { results := [.lit (.bool true)], args := [d], vars := [g1, g2] }
  | _ => none }
def fnHexAllRow : OpenClaim := { program := "ytjefoedojglhpaadoor", sum := "02e58e0db358bedacb5dc30a3ea07d25a1f253d8c0260f700d4b20b3aa2f80b3", func := "loop.example/neumes/laws.FnHexAll", spec := "fnHexAll", named := ["loop.example/neumes/impl.letterNames", "loop.example/neumes/impl.syllableNames"], apart := false, laid := [("loop.example/neumes/impl.letterNames", laid_loop_example_neumes_impl_letterNames), ("loop.example/neumes/impl.syllableNames", laid_loop_example_neumes_impl_syllableNames)] }
def FnHexAllSaid : Prop := fnHexAllRow.holds Tryd.pinned (OpenSpec.ofChange fnHexAllSpec)

/-- ITS FALSE NEIGHBOUR: 'it returns false'. Refute it at one input. -/
def fnHexAllWrong : ChangeSpec := { name := "fnHexAll", vars := ["loop.example/neumes/impl.letterNames", "loop.example/neumes/impl.syllableNames"], fn := fun _ => fun
  | [d, g1, g2] => { results := [.lit (.bool false)], args := [d], vars := [g1, g2] }
  | _ => none }
def FnHexAllWrongFalsely : Prop := fnHexAllRow.holds Tryd.pinned (OpenSpec.ofChange fnHexAllWrong)

/-- 'laws.FnExactSingOk': WHATEVER THE INPUT: true; the input reads as it did. -/
def fnExactSingOkSpec : ChangeSpec := { name := "fnExactSingOk", vars := ["loop.example/neumes/impl.letterNames"], fn := fun _ => fun
  | [d1, d2, g1] => { results := [.lit (.bool true)], args := [d1, d2], vars := [g1] }
  | _ => none }
def fnExactSingOkRow : OpenClaim := { program := "ytjefoedojglhpaadoor", sum := "02e58e0db358bedacb5dc30a3ea07d25a1f253d8c0260f700d4b20b3aa2f80b3", func := "loop.example/neumes/laws.FnExactSingOk", spec := "fnExactSingOk", named := ["loop.example/neumes/impl.letterNames"], apart := false, laid := [("loop.example/neumes/impl.letterNames", laid_loop_example_neumes_impl_letterNames)] }
def FnExactSingOkSaid : Prop := fnExactSingOkRow.holds Tryd.pinned (OpenSpec.ofChange fnExactSingOkSpec)

/-- ITS FALSE NEIGHBOUR: 'it returns false'. Refute it at one input. -/
def fnExactSingOkWrong : ChangeSpec := { name := "fnExactSingOk", vars := ["loop.example/neumes/impl.letterNames"], fn := fun _ => fun
  | [d1, d2, g1] => { results := [.lit (.bool false)], args := [d1, d2], vars := [g1] }
  | _ => none }
def FnExactSingOkWrongFalsely : Prop := fnExactSingOkRow.holds Tryd.pinned (OpenSpec.ofChange fnExactSingOkWrong)

/-- 'laws.FnExactSingMutations': WHATEVER THE INPUT: true; the input reads as it did. -/
def fnExactSingMutationsSpec : ChangeSpec := { name := "fnExactSingMutations", vars := ["loop.example/neumes/impl.letterNames"], fn := fun _ => fun
  | [d1, d2, g1] => { results := [.lit (.bool true)], args := [d1, d2], vars := [g1] }
  | _ => none }
def fnExactSingMutationsRow : OpenClaim := { program := "ytjefoedojglhpaadoor", sum := "02e58e0db358bedacb5dc30a3ea07d25a1f253d8c0260f700d4b20b3aa2f80b3", func := "loop.example/neumes/laws.FnExactSingMutations", spec := "fnExactSingMutations", named := ["loop.example/neumes/impl.letterNames"], apart := false, laid := [("loop.example/neumes/impl.letterNames", laid_loop_example_neumes_impl_letterNames)] }
def FnExactSingMutationsSaid : Prop := fnExactSingMutationsRow.holds Tryd.pinned (OpenSpec.ofChange fnExactSingMutationsSpec)

/-- ITS FALSE NEIGHBOUR: 'it returns false'. Refute it at one input. -/
def fnExactSingMutationsWrong : ChangeSpec := { name := "fnExactSingMutations", vars := ["loop.example/neumes/impl.letterNames"], fn := fun _ => fun
  | [d1, d2, g1] => { results := [.lit (.bool false)], args := [d1, d2], vars := [g1] }
  | _ => none }
def FnExactSingMutationsWrongFalsely : Prop := fnExactSingMutationsRow.holds Tryd.pinned (OpenSpec.ofChange fnExactSingMutationsWrong)

/-- 'laws.FnSingMutations': WHATEVER THE INPUT: true; the input reads as it did. -/
def fnSingMutationsSpec : ChangeSpec := { name := "fnSingMutations", vars := ["loop.example/neumes/impl.letterNames"], fn := fun _ => fun
  | [d1, d2, g1] => { results := [.lit (.bool true)], args := [d1, d2], vars := [g1] }
  | _ => none }
def fnSingMutationsRow : OpenClaim := { program := "ytjefoedojglhpaadoor", sum := "02e58e0db358bedacb5dc30a3ea07d25a1f253d8c0260f700d4b20b3aa2f80b3", func := "loop.example/neumes/laws.FnSingMutations", spec := "fnSingMutations", named := ["loop.example/neumes/impl.letterNames"], apart := false, laid := [("loop.example/neumes/impl.letterNames", laid_loop_example_neumes_impl_letterNames)] }
def FnSingMutationsSaid : Prop := fnSingMutationsRow.holds Tryd.pinned (OpenSpec.ofChange fnSingMutationsSpec)

/-- ITS FALSE NEIGHBOUR: 'it returns false'. Refute it at one input. -/
def fnSingMutationsWrong : ChangeSpec := { name := "fnSingMutations", vars := ["loop.example/neumes/impl.letterNames"], fn := fun _ => fun
  | [d1, d2, g1] => { results := [.lit (.bool false)], args := [d1, d2], vars := [g1] }
  | _ => none }
def FnSingMutationsWrongFalsely : Prop := fnSingMutationsRow.holds Tryd.pinned (OpenSpec.ofChange fnSingMutationsWrong)

/-- 'laws.FnExactSingText': WHATEVER THE INPUT: true; the input reads as it did. -/
def fnExactSingTextSpec : ChangeSpec := { name := "fnExactSingText", vars := ["loop.example/neumes/impl.syllableNames", "loop.example/neumes/impl.letterNames"], fn := fun _ => fun
  | [d1, d2, g1, g2] => { results := [.lit (.bool true)], args := [d1, d2], vars := [g1, g2] }
  | _ => none }
def fnExactSingTextRow : OpenClaim := { program := "ytjefoedojglhpaadoor", sum := "02e58e0db358bedacb5dc30a3ea07d25a1f253d8c0260f700d4b20b3aa2f80b3", func := "loop.example/neumes/laws.FnExactSingText", spec := "fnExactSingText", inPlace := ["internal/abi.NoEscape", "internal/bytealg.MakeNoZero"], named := ["loop.example/neumes/impl.syllableNames", "loop.example/neumes/impl.letterNames"], apart := false, laid := [("loop.example/neumes/impl.letterNames", laid_loop_example_neumes_impl_letterNames), ("loop.example/neumes/impl.syllableNames", laid_loop_example_neumes_impl_syllableNames)] }
def FnExactSingTextSaid : Prop := fnExactSingTextRow.holds Tryd.pinned (OpenSpec.ofChange fnExactSingTextSpec)

/-- ITS FALSE NEIGHBOUR: 'it returns false'. Refute it at one input. -/
def fnExactSingTextWrong : ChangeSpec := { name := "fnExactSingText", vars := ["loop.example/neumes/impl.syllableNames", "loop.example/neumes/impl.letterNames"], fn := fun _ => fun
  | [d1, d2, g1, g2] => { results := [.lit (.bool false)], args := [d1, d2], vars := [g1, g2] }
  | _ => none }
def FnExactSingTextWrongFalsely : Prop := fnExactSingTextRow.holds Tryd.pinned (OpenSpec.ofChange fnExactSingTextWrong)

/- THE SECOND FORM. 'bulk': how many values and letters a reading holds, each counted each time it is reached (what is shared counts as often as it is met; a slice's spare places count too). A statement '..UptoSaid' is the law's where the arguments, and the package variables that the reading takes, are together of bulk at most 1048576: NARROWER than '..Said'. Prove '..Said' where nothing that the law and all that it calls make is longer than what came in: it says more and counts as full. Else prove '..UptoSaid'. A law counts once. -/
mutual
def uptoBulk {H : Type} : DataW H → Nat
  | .lit (.string bytes) => bytes.length + 1
  | .lit _ => 1
  | .nil => 1
  | .ptr d => uptoBulk d + 1
  | .slice elems spare => uptoBulkAll elems + uptoBulkAll spare + 1
  | .agg parts => uptoBulkAll parts + 1
  | .iface _ d => uptoBulk d + 1
  | .map entries => uptoBulkEntries entries + 1
  | .held _ => 1
def uptoBulkAll {H : Type} : List (DataW H) → Nat
  | [] => 0
  | d :: r => uptoBulk d + uptoBulkAll r
def uptoBulkEntries {H : Type} : List (Lit × DataW H) → Nat
  | [] => 0
  | x :: r => uptoBulkEntry x + uptoBulkEntries r
def uptoBulkEntry {H : Type} : Lit × DataW H → Nat
  | (.string bytes, d) => bytes.length + uptoBulk d + 1
  | (_, d) => uptoBulk d + 1
 end
def uptoSmall : (H : Type) → List (DataW H) → Bool := fun _ ds => decide (uptoBulkAll ds ≤ 1048576)
def OpenSpec.upto (s : _root_.Go.ChangeSpec) : _root_.Go.OpenSpec := { _root_.Go.OpenSpec.ofChange s with cond := some uptoSmall }

/-- 'laws.FnExactHexValid', WHERE WHAT IT READS IS OF BULK AT MOST 1048576: true; the input reads as it did. -/
def fnExactHexValidUptoRow : OpenClaim := { program := "ytjefoedojglhpaadoor", sum := "02e58e0db358bedacb5dc30a3ea07d25a1f253d8c0260f700d4b20b3aa2f80b3", func := "loop.example/neumes/laws.FnExactHexValid", spec := "fnExactHexValid", named := ["loop.example/neumes/impl.letterNames"], apart := false, laid := [("loop.example/neumes/impl.letterNames", laid_loop_example_neumes_impl_letterNames)], narrowed := true }
def FnExactHexValidUptoSaid : Prop := fnExactHexValidUptoRow.holds Tryd.pinned (OpenSpec.upto fnExactHexValidSpec)

/-- 'laws.FnExactHexKind', WHERE WHAT IT READS IS OF BULK AT MOST 1048576: true; the input reads as it did. -/
def fnExactHexKindUptoRow : OpenClaim := { program := "ytjefoedojglhpaadoor", sum := "02e58e0db358bedacb5dc30a3ea07d25a1f253d8c0260f700d4b20b3aa2f80b3", func := "loop.example/neumes/laws.FnExactHexKind", spec := "fnExactHexKind", named := ["loop.example/neumes/impl.letterNames"], apart := false, laid := [("loop.example/neumes/impl.letterNames", laid_loop_example_neumes_impl_letterNames)], narrowed := true }
def FnExactHexKindUptoSaid : Prop := fnExactHexKindUptoRow.holds Tryd.pinned (OpenSpec.upto fnExactHexKindSpec)

/-- 'laws.FnExactHexTone', WHERE WHAT IT READS IS OF BULK AT MOST 1048576: true; the input reads as it did. -/
def fnExactHexToneUptoRow : OpenClaim := { program := "ytjefoedojglhpaadoor", sum := "02e58e0db358bedacb5dc30a3ea07d25a1f253d8c0260f700d4b20b3aa2f80b3", func := "loop.example/neumes/laws.FnExactHexTone", spec := "fnExactHexTone", named := ["loop.example/neumes/impl.letterNames"], apart := false, laid := [("loop.example/neumes/impl.letterNames", laid_loop_example_neumes_impl_letterNames)], narrowed := true }
def FnExactHexToneUptoSaid : Prop := fnExactHexToneUptoRow.holds Tryd.pinned (OpenSpec.upto fnExactHexToneSpec)

/-- 'laws.FnExactHexSyllable', WHERE WHAT IT READS IS OF BULK AT MOST 1048576: true; the input reads as it did. -/
def fnExactHexSyllableUptoRow : OpenClaim := { program := "ytjefoedojglhpaadoor", sum := "02e58e0db358bedacb5dc30a3ea07d25a1f253d8c0260f700d4b20b3aa2f80b3", func := "loop.example/neumes/laws.FnExactHexSyllable", spec := "fnExactHexSyllable", named := ["loop.example/neumes/impl.letterNames"], apart := false, laid := [("loop.example/neumes/impl.letterNames", laid_loop_example_neumes_impl_letterNames)], narrowed := true }
def FnExactHexSyllableUptoSaid : Prop := fnExactHexSyllableUptoRow.holds Tryd.pinned (OpenSpec.upto fnExactHexSyllableSpec)

/-- 'laws.FnHexKind', WHERE WHAT IT READS IS OF BULK AT MOST 1048576: true; the input reads as it did. -/
def fnHexKindUptoRow : OpenClaim := { program := "ytjefoedojglhpaadoor", sum := "02e58e0db358bedacb5dc30a3ea07d25a1f253d8c0260f700d4b20b3aa2f80b3", func := "loop.example/neumes/laws.FnHexKind", spec := "fnHexKind", named := ["loop.example/neumes/impl.letterNames"], apart := false, laid := [("loop.example/neumes/impl.letterNames", laid_loop_example_neumes_impl_letterNames)], narrowed := true }
def FnHexKindUptoSaid : Prop := fnHexKindUptoRow.holds Tryd.pinned (OpenSpec.upto fnHexKindSpec)

/-- 'laws.FnHexTone', WHERE WHAT IT READS IS OF BULK AT MOST 1048576: true; the input reads as it did. -/
def fnHexToneUptoRow : OpenClaim := { program := "ytjefoedojglhpaadoor", sum := "02e58e0db358bedacb5dc30a3ea07d25a1f253d8c0260f700d4b20b3aa2f80b3", func := "loop.example/neumes/laws.FnHexTone", spec := "fnHexTone", named := ["loop.example/neumes/impl.letterNames", "loop.example/neumes/impl.letterHeights"], apart := false, laid := [("loop.example/neumes/impl.letterNames", laid_loop_example_neumes_impl_letterNames), ("loop.example/neumes/impl.letterHeights", laid_loop_example_neumes_impl_letterHeights)], narrowed := true }
def FnHexToneUptoSaid : Prop := fnHexToneUptoRow.holds Tryd.pinned (OpenSpec.upto fnHexToneSpec)

/-- 'laws.FnHexSyllable', WHERE WHAT IT READS IS OF BULK AT MOST 1048576: true; the input reads as it did. -/
def fnHexSyllableUptoRow : OpenClaim := { program := "ytjefoedojglhpaadoor", sum := "02e58e0db358bedacb5dc30a3ea07d25a1f253d8c0260f700d4b20b3aa2f80b3", func := "loop.example/neumes/laws.FnHexSyllable", spec := "fnHexSyllable", named := ["loop.example/neumes/impl.letterNames", "loop.example/neumes/impl.letterHeights"], apart := false, laid := [("loop.example/neumes/impl.letterNames", laid_loop_example_neumes_impl_letterNames), ("loop.example/neumes/impl.letterHeights", laid_loop_example_neumes_impl_letterHeights)], narrowed := true }
def FnHexSyllableUptoSaid : Prop := fnHexSyllableUptoRow.holds Tryd.pinned (OpenSpec.upto fnHexSyllableSpec)

/-- 'laws.FnHexAll', WHERE WHAT IT READS IS OF BULK AT MOST 1048576: true; the input reads as it did. -/
def fnHexAllUptoRow : OpenClaim := { program := "ytjefoedojglhpaadoor", sum := "02e58e0db358bedacb5dc30a3ea07d25a1f253d8c0260f700d4b20b3aa2f80b3", func := "loop.example/neumes/laws.FnHexAll", spec := "fnHexAll", named := ["loop.example/neumes/impl.letterNames", "loop.example/neumes/impl.syllableNames"], apart := false, laid := [("loop.example/neumes/impl.letterNames", laid_loop_example_neumes_impl_letterNames), ("loop.example/neumes/impl.syllableNames", laid_loop_example_neumes_impl_syllableNames)], narrowed := true }
def FnHexAllUptoSaid : Prop := fnHexAllUptoRow.holds Tryd.pinned (OpenSpec.upto fnHexAllSpec)

/-- 'laws.FnExactSingOk', WHERE WHAT IT READS IS OF BULK AT MOST 1048576: true; the input reads as it did. -/
def fnExactSingOkUptoRow : OpenClaim := { program := "ytjefoedojglhpaadoor", sum := "02e58e0db358bedacb5dc30a3ea07d25a1f253d8c0260f700d4b20b3aa2f80b3", func := "loop.example/neumes/laws.FnExactSingOk", spec := "fnExactSingOk", named := ["loop.example/neumes/impl.letterNames"], apart := false, laid := [("loop.example/neumes/impl.letterNames", laid_loop_example_neumes_impl_letterNames)], narrowed := true }
def FnExactSingOkUptoSaid : Prop := fnExactSingOkUptoRow.holds Tryd.pinned (OpenSpec.upto fnExactSingOkSpec)

/-- 'laws.FnExactSingMutations', WHERE WHAT IT READS IS OF BULK AT MOST 1048576: true; the input reads as it did. -/
def fnExactSingMutationsUptoRow : OpenClaim := { program := "ytjefoedojglhpaadoor", sum := "02e58e0db358bedacb5dc30a3ea07d25a1f253d8c0260f700d4b20b3aa2f80b3", func := "loop.example/neumes/laws.FnExactSingMutations", spec := "fnExactSingMutations", named := ["loop.example/neumes/impl.letterNames"], apart := false, laid := [("loop.example/neumes/impl.letterNames", laid_loop_example_neumes_impl_letterNames)], narrowed := true }
def FnExactSingMutationsUptoSaid : Prop := fnExactSingMutationsUptoRow.holds Tryd.pinned (OpenSpec.upto fnExactSingMutationsSpec)

/-- 'laws.FnSingMutations', WHERE WHAT IT READS IS OF BULK AT MOST 1048576: true; the input reads as it did. -/
def fnSingMutationsUptoRow : OpenClaim := { program := "ytjefoedojglhpaadoor", sum := "02e58e0db358bedacb5dc30a3ea07d25a1f253d8c0260f700d4b20b3aa2f80b3", func := "loop.example/neumes/laws.FnSingMutations", spec := "fnSingMutations", named := ["loop.example/neumes/impl.letterNames"], apart := false, laid := [("loop.example/neumes/impl.letterNames", laid_loop_example_neumes_impl_letterNames)], narrowed := true }
def FnSingMutationsUptoSaid : Prop := fnSingMutationsUptoRow.holds Tryd.pinned (OpenSpec.upto fnSingMutationsSpec)

/-- 'laws.FnExactSingText', WHERE WHAT IT READS IS OF BULK AT MOST 1048576: true; the input reads as it did. -/
def fnExactSingTextUptoRow : OpenClaim := { program := "ytjefoedojglhpaadoor", sum := "02e58e0db358bedacb5dc30a3ea07d25a1f253d8c0260f700d4b20b3aa2f80b3", func := "loop.example/neumes/laws.FnExactSingText", spec := "fnExactSingText", inPlace := ["internal/abi.NoEscape", "internal/bytealg.MakeNoZero"], named := ["loop.example/neumes/impl.syllableNames", "loop.example/neumes/impl.letterNames"], apart := false, laid := [("loop.example/neumes/impl.letterNames", laid_loop_example_neumes_impl_letterNames), ("loop.example/neumes/impl.syllableNames", laid_loop_example_neumes_impl_syllableNames)], narrowed := true }
def FnExactSingTextUptoSaid : Prop := fnExactSingTextUptoRow.holds Tryd.pinned (OpenSpec.upto fnExactSingTextSpec)

end Rows
end Go.Proofs.YtjefoedojglhpaaDoor
