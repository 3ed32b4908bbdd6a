/-
  No cell of these rows narrows 'for every input' (looked for: loops, veiled, ifaces, maps, wideKeys, modest, calm, conditions, laid).
  DERIVED. THE GIVEN ROWS OF THIS SEAT. 7 by the template 'for every input the law returns true; each argument reads behind the call as it read before'; 0 by the template 'total and deterministic' (their statements: YtgiobmceippanaaTotals.lean).
  GIVEN WITH THE SEED: the statements are not yours to turn. If you find one false, say at which input.
  Laid BY PROGRAM, IN A SANDBOX (cutbox-rows.mjs): the forced cells as the released guide's own fill.sh prints them over the translation 516c82d31d176c02… (all of the seat's roots in one cut). By AI agents, Wed Nov 11 2026. No macro, syntax, notation, axiom, sorry.
-/
import Derived.Test.YtgiobmceippanaaChecked
import GoSem.Claim
import GoSem.ClaimJoined
import GoSem.ClaimMapViews
import Derived.JoinedTies
import Derived.KernelRfl
namespace Go.Proofs.Ytgiobmceippanaa
/- THE CELL 'sum', in the pinned program and in every row, IS THE sha256 OF THE DUMP (.gsa) THAT YtgiobmceippanaaProg.lean LOADS. Nothing in Lean hashes anything: it is a label: what it is worth is what the hold of that sum in a sandbox is worth. -/
noncomputable def Try.pinned : Pinned := { name := "ytgiobmceippanaa", sum := "516c82d31d176c02e5d217d0ab170059f769a2e2d033943b7a1e2807424d7906", checked := Try.checked }
namespace Rows
def none {H : Type} : Left H := { results := [], args := [] }

/-- 'laws.FnExactDiscantTogether': WHATEVER THE INPUT: true; the input reads as it did. -/
def fnExactDiscantTogetherSpec : ChangeSpec := { name := "fnExactDiscantTogether", fn := fun _ => fun
  | [d1, d2] => { results := [.lit (.bool true)], args := [d1, d2] }
  | _ => none }
def fnExactDiscantTogetherRow : OpenClaim := { program := "ytgiobmceippanaa", sum := "516c82d31d176c02e5d217d0ab170059f769a2e2d033943b7a1e2807424d7906", func := "loop.example/neumes/laws.FnExactDiscantTogether", spec := "fnExactDiscantTogether", apart := false }
def FnExactDiscantTogetherSaid : Prop := fnExactDiscantTogetherRow.holds Try.pinned (OpenSpec.ofChange fnExactDiscantTogetherSpec)

/-- ITS FALSE NEIGHBOUR: 'it returns false'. Refute it at one input. -/
def fnExactDiscantTogetherWrong : ChangeSpec := { name := "fnExactDiscantTogether", fn := fun _ => fun
  | [d1, d2] => { results := [.lit (.bool false)], args := [d1, d2] }
  | _ => none }
def FnExactDiscantTogetherWrongFalsely : Prop := fnExactDiscantTogetherRow.holds Try.pinned (OpenSpec.ofChange fnExactDiscantTogetherWrong)

/-- 'laws.FnExactDiscantCross': WHATEVER THE INPUT: true; the input reads as it did. -/
def fnExactDiscantCrossSpec : ChangeSpec := { name := "fnExactDiscantCross", fn := fun _ => fun
  | [d1, d2] => { results := [.lit (.bool true)], args := [d1, d2] }
  | _ => none }
def fnExactDiscantCrossRow : OpenClaim := { program := "ytgiobmceippanaa", sum := "516c82d31d176c02e5d217d0ab170059f769a2e2d033943b7a1e2807424d7906", func := "loop.example/neumes/laws.FnExactDiscantCross", spec := "fnExactDiscantCross", apart := false }
def FnExactDiscantCrossSaid : Prop := fnExactDiscantCrossRow.holds Try.pinned (OpenSpec.ofChange fnExactDiscantCrossSpec)

/-- ITS FALSE NEIGHBOUR: 'it returns false'. Refute it at one input. -/
def fnExactDiscantCrossWrong : ChangeSpec := { name := "fnExactDiscantCross", fn := fun _ => fun
  | [d1, d2] => { results := [.lit (.bool false)], args := [d1, d2] }
  | _ => none }
def FnExactDiscantCrossWrongFalsely : Prop := fnExactDiscantCrossRow.holds Try.pinned (OpenSpec.ofChange fnExactDiscantCrossWrong)

/-- 'laws.FnExactDiscantContrary': WHATEVER THE INPUT: true; the input reads as it did. -/
def fnExactDiscantContrarySpec : ChangeSpec := { name := "fnExactDiscantContrary", fn := fun _ => fun
  | [d1, d2] => { results := [.lit (.bool true)], args := [d1, d2] }
  | _ => none }
def fnExactDiscantContraryRow : OpenClaim := { program := "ytgiobmceippanaa", sum := "516c82d31d176c02e5d217d0ab170059f769a2e2d033943b7a1e2807424d7906", func := "loop.example/neumes/laws.FnExactDiscantContrary", spec := "fnExactDiscantContrary", apart := false }
def FnExactDiscantContrarySaid : Prop := fnExactDiscantContraryRow.holds Try.pinned (OpenSpec.ofChange fnExactDiscantContrarySpec)

/-- ITS FALSE NEIGHBOUR: 'it returns false'. Refute it at one input. -/
def fnExactDiscantContraryWrong : ChangeSpec := { name := "fnExactDiscantContrary", fn := fun _ => fun
  | [d1, d2] => { results := [.lit (.bool false)], args := [d1, d2] }
  | _ => none }
def FnExactDiscantContraryWrongFalsely : Prop := fnExactDiscantContraryRow.holds Try.pinned (OpenSpec.ofChange fnExactDiscantContraryWrong)

/-- 'laws.FnContrary': WHATEVER THE INPUT: true; the input reads as it did. -/
def fnContrarySpec : ChangeSpec := { name := "fnContrary", fn := fun _ => fun
  | [d] => { results := [.lit (.bool true)], args := [d] }
  | _ => none }
def fnContraryRow : OpenClaim := { program := "ytgiobmceippanaa", sum := "516c82d31d176c02e5d217d0ab170059f769a2e2d033943b7a1e2807424d7906", func := "loop.example/neumes/laws.FnContrary", spec := "fnContrary", apart := false }
def FnContrarySaid : Prop := fnContraryRow.holds Try.pinned (OpenSpec.ofChange fnContrarySpec)

/-- ITS FALSE NEIGHBOUR: 'it returns false'. Refute it at one input. -/
def fnContraryWrong : ChangeSpec := { name := "fnContrary", fn := fun _ => fun
  | [d] => { results := [.lit (.bool false)], args := [d] }
  | _ => none }
def FnContraryWrongFalsely : Prop := fnContraryRow.holds Try.pinned (OpenSpec.ofChange fnContraryWrong)

/-- 'laws.FnPart': WHATEVER THE INPUT: true; the input reads as it did. -/
def fnPartSpec : ChangeSpec := { name := "fnPart", fn := fun _ => fun
  | [d] => { results := [.lit (.bool true)], args := [d] }
  | _ => none }
def fnPartRow : OpenClaim := { program := "ytgiobmceippanaa", sum := "516c82d31d176c02e5d217d0ab170059f769a2e2d033943b7a1e2807424d7906", func := "loop.example/neumes/laws.FnPart", spec := "fnPart", apart := false }
def FnPartSaid : Prop := fnPartRow.holds Try.pinned (OpenSpec.ofChange fnPartSpec)

/-- ITS FALSE NEIGHBOUR: 'it returns false'. Refute it at one input. -/
def fnPartWrong : ChangeSpec := { name := "fnPart", fn := fun _ => fun
  | [d] => { results := [.lit (.bool false)], args := [d] }
  | _ => none }
def FnPartWrongFalsely : Prop := fnPartRow.holds Try.pinned (OpenSpec.ofChange fnPartWrong)

/-- 'laws.FnExactPartMake': WHATEVER THE INPUT: true; the input reads as it did. -/
def fnExactPartMakeSpec : ChangeSpec := { name := "fnExactPartMake", fn := fun _ => fun
  | [d1, d2] => { results := [.lit (.bool true)], args := [d1, d2] }
  | _ => none }
def fnExactPartMakeRow : OpenClaim := { program := "ytgiobmceippanaa", sum := "516c82d31d176c02e5d217d0ab170059f769a2e2d033943b7a1e2807424d7906", func := "loop.example/neumes/laws.FnExactPartMake", spec := "fnExactPartMake", apart := false }
def FnExactPartMakeSaid : Prop := fnExactPartMakeRow.holds Try.pinned (OpenSpec.ofChange fnExactPartMakeSpec)

/-- ITS FALSE NEIGHBOUR: 'it returns false'. Refute it at one input. -/
def fnExactPartMakeWrong : ChangeSpec := { name := "fnExactPartMake", fn := fun _ => fun
  | [d1, d2] => { results := [.lit (.bool false)], args := [d1, d2] }
  | _ => none }
def FnExactPartMakeWrongFalsely : Prop := fnExactPartMakeRow.holds Try.pinned (OpenSpec.ofChange fnExactPartMakeWrong)

/-- 'laws.FnPartOrdo': WHATEVER THE INPUT: true; the input reads as it did. -/
def fnPartOrdoSpec : ChangeSpec := { name := "fnPartOrdo", fn := fun _ => fun
  | [d1, d2] => { results := [.lit (.bool true)], args := [d1, d2] }
  | _ => none }
def fnPartOrdoRow : OpenClaim := { program := "ytgiobmceippanaa", sum := "516c82d31d176c02e5d217d0ab170059f769a2e2d033943b7a1e2807424d7906", func := "loop.example/neumes/laws.FnPartOrdo", spec := "fnPartOrdo", apart := false }
def FnPartOrdoSaid : Prop := fnPartOrdoRow.holds Try.pinned (OpenSpec.ofChange fnPartOrdoSpec)

/-- ITS FALSE NEIGHBOUR: 'it returns false'. Refute it at one input. -/
def fnPartOrdoWrong : ChangeSpec := { name := "fnPartOrdo", fn := fun _ => fun
  | [d1, d2] => { results := [.lit (.bool false)], args := [d1, d2] }
  | _ => none }
def FnPartOrdoWrongFalsely : Prop := fnPartOrdoRow.holds Try.pinned (OpenSpec.ofChange fnPartOrdoWrong)

/- THE SECOND FORM. 'bulk': how many values and letters a reading holds, each counted each time it is reached (what is shared counts as often as it is met; a slice's spare places count too). A statement '..UptoSaid' is the law's where the arguments, and the package variables that the reading takes, are together of bulk at most 1048576: NARROWER than '..Said'. Prove '..Said' where nothing that the law and all that it calls make is longer than what came in: it says more and counts as full. Else prove '..UptoSaid'. A law counts once. -/
mutual
def uptoBulk {H : Type} : DataW H → Nat
  | .lit (.string bytes) => bytes.length + 1
  | .lit _ => 1
  | .nil => 1
  | .ptr d => uptoBulk d + 1
  | .slice elems spare => uptoBulkAll elems + uptoBulkAll spare + 1
  | .agg parts => uptoBulkAll parts + 1
  | .iface _ d => uptoBulk d + 1
  | .map entries => uptoBulkEntries entries + 1
  | .held _ => 1
def uptoBulkAll {H : Type} : List (DataW H) → Nat
  | [] => 0
  | d :: r => uptoBulk d + uptoBulkAll r
def uptoBulkEntries {H : Type} : List (Lit × DataW H) → Nat
  | [] => 0
  | x :: r => uptoBulkEntry x + uptoBulkEntries r
def uptoBulkEntry {H : Type} : Lit × DataW H → Nat
  | (.string bytes, d) => bytes.length + uptoBulk d + 1
  | (_, d) => uptoBulk d + 1
 end
def uptoSmall : (H : Type) → List (DataW H) → Bool := fun _ ds => decide (uptoBulkAll ds ≤ 1048576)
def OpenSpec.upto (s : _root_.Go.ChangeSpec) : _root_.Go.OpenSpec := { _root_.Go.OpenSpec.ofChange s with cond := some uptoSmall }

/-- 'laws.FnExactDiscantTogether', WHERE WHAT IT READS IS OF BULK AT MOST 1048576: true; the input reads as it did. -/
def fnExactDiscantTogetherUptoRow : OpenClaim := { program := "ytgiobmceippanaa", sum := "516c82d31d176c02e5d217d0ab170059f769a2e2d033943b7a1e2807424d7906", func := "loop.example/neumes/laws.FnExactDiscantTogether", spec := "fnExactDiscantTogether", apart := false, narrowed := true }
def FnExactDiscantTogetherUptoSaid : Prop := fnExactDiscantTogetherUptoRow.holds Try.pinned (OpenSpec.upto fnExactDiscantTogetherSpec)

/-- 'laws.FnExactDiscantCross', WHERE WHAT IT READS IS OF BULK AT MOST 1048576: true; the input reads as it did. -/
def fnExactDiscantCrossUptoRow : OpenClaim := { program := "ytgiobmceippanaa", sum := "516c82d31d176c02e5d217d0ab170059f769a2e2d033943b7a1e2807424d7906", func := "loop.example/neumes/laws.FnExactDiscantCross", spec := "fnExactDiscantCross", apart := false, narrowed := true }
def FnExactDiscantCrossUptoSaid : Prop := fnExactDiscantCrossUptoRow.holds Try.pinned (OpenSpec.upto fnExactDiscantCrossSpec)

/-- 'laws.FnExactDiscantContrary', WHERE WHAT IT READS IS OF BULK AT MOST 1048576: true; the input reads as it did. -/
def fnExactDiscantContraryUptoRow : OpenClaim := { program := "ytgiobmceippanaa", sum := "516c82d31d176c02e5d217d0ab170059f769a2e2d033943b7a1e2807424d7906", func := "loop.example/neumes/laws.FnExactDiscantContrary", spec := "fnExactDiscantContrary", apart := false, narrowed := true }
def FnExactDiscantContraryUptoSaid : Prop := fnExactDiscantContraryUptoRow.holds Try.pinned (OpenSpec.upto fnExactDiscantContrarySpec)

/-- 'laws.FnContrary', WHERE WHAT IT READS IS OF BULK AT MOST 1048576: true; the input reads as it did. -/
def fnContraryUptoRow : OpenClaim := { program := "ytgiobmceippanaa", sum := "516c82d31d176c02e5d217d0ab170059f769a2e2d033943b7a1e2807424d7906", func := "loop.example/neumes/laws.FnContrary", spec := "fnContrary", apart := false, narrowed := true }
def FnContraryUptoSaid : Prop := fnContraryUptoRow.holds Try.pinned (OpenSpec.upto fnContrarySpec)

/-- 'laws.FnPart', WHERE WHAT IT READS IS OF BULK AT MOST 1048576: true; the input reads as it did. -/
def fnPartUptoRow : OpenClaim := { program := "ytgiobmceippanaa", sum := "516c82d31d176c02e5d217d0ab170059f769a2e2d033943b7a1e2807424d7906", func := "loop.example/neumes/laws.FnPart", spec := "fnPart", apart := false, narrowed := true }
def FnPartUptoSaid : Prop := fnPartUptoRow.holds Try.pinned (OpenSpec.upto fnPartSpec)

/-- 'laws.FnExactPartMake', WHERE WHAT IT READS IS OF BULK AT MOST 1048576: true; the input reads as it did. -/
def fnExactPartMakeUptoRow : OpenClaim := { program := "ytgiobmceippanaa", sum := "516c82d31d176c02e5d217d0ab170059f769a2e2d033943b7a1e2807424d7906", func := "loop.example/neumes/laws.FnExactPartMake", spec := "fnExactPartMake", apart := false, narrowed := true }
def FnExactPartMakeUptoSaid : Prop := fnExactPartMakeUptoRow.holds Try.pinned (OpenSpec.upto fnExactPartMakeSpec)

/-- 'laws.FnPartOrdo', WHERE WHAT IT READS IS OF BULK AT MOST 1048576: true; the input reads as it did. -/
def fnPartOrdoUptoRow : OpenClaim := { program := "ytgiobmceippanaa", sum := "516c82d31d176c02e5d217d0ab170059f769a2e2d033943b7a1e2807424d7906", func := "loop.example/neumes/laws.FnPartOrdo", spec := "fnPartOrdo", apart := false, narrowed := true }
def FnPartOrdoUptoSaid : Prop := fnPartOrdoUptoRow.holds Try.pinned (OpenSpec.upto fnPartOrdoSpec)

end Rows
end Go.Proofs.Ytgiobmceippanaa
