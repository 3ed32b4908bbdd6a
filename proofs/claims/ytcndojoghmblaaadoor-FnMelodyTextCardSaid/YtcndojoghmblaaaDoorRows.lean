/-
  NARROWER THAN 'FOR EVERY INPUT', by the rows' own cells (each row's printed sentence says how): FnConcords: laid · FnParallels: laid · FnDiscantMove: laid · FnDiscantOk: laid · FnSingBest: laid · FnSingFew: laid · FnSing: laid · FnMelodyJoin: laid · FnMelodyText: laid · FnMelodyFrom: laid · FnStemFill: laid.
  DERIVED. THE GIVEN ROWS OF THIS SEAT. 11 by the template 'for every input the law returns true; each argument reads behind the call as it read before'; 0 by the template 'total and deterministic' (their statements: YtcndojoghmblaaaDoorTotals.lean).
  GIVEN WITH THE SEED: the statements are not yours to turn. If you find one false, say at which input.
  Laid BY PROGRAM, IN A SANDBOX (cutbox-rows.mjs): the forced cells as the released guide's own fill.sh prints them over the translation d736ccfb6b3acd47… (all of the seat's roots in one cut). By AI agents, Wed Nov 11 2026. No macro, syntax, notation, axiom, sorry.
-/
import Derived.Test.YtcndojoghmblaaaDoorChecked
import GoSem.PinnedTables
import GoSem.Claim
import GoSem.ClaimJoined
import GoSem.ClaimMapViews
import Derived.JoinedTies
import Derived.KernelRfl
namespace Go.Proofs.YtcndojoghmblaaaDoor
/- THE CELL 'sum', in the pinned program and in every row, IS THE sha256 OF THE DUMP (.gsa) THAT YtcndojoghmblaaaDoorProg.lean LOADS. Nothing in Lean hashes anything: it is a label: what it is worth is what the hold of that sum in a sandbox is worth. -/
noncomputable def Tryd.pinned : Pinned := { name := "ytcndojoghmblaaadoor", sum := "d736ccfb6b3acd473a46d22885e2343b62e627cb736f611cc8ea335c3eb3424b", checked := Tryd.checked }
namespace Rows
def none {H : Type} : Left H := { results := [], args := [] }

/- WHAT THE LISTED PACKAGE-LEVEL VARIABLES READ AS WHEN THE CALL BEGINS. Each datum BY PROGRAM (the guide's laid-datum.mjs) off the statement by which the dump's own 'gosem.cut.vars' lays the variable. In a bare row this is a premise. The card (YtcndojoghmblaaaDoorCards.lean) ties it to the program's text. -/
def laid_math_bits_deBruijn32tab {H : Type} : DataW H := .agg [.lit (.int .u8 0), .lit (.int .u8 1), .lit (.int .u8 28), .lit (.int .u8 2), .lit (.int .u8 29), .lit (.int .u8 14), .lit (.int .u8 24), .lit (.int .u8 3), .lit (.int .u8 30), .lit (.int .u8 22), .lit (.int .u8 20), .lit (.int .u8 15), .lit (.int .u8 25), .lit (.int .u8 17), .lit (.int .u8 4), .lit (.int .u8 8), .lit (.int .u8 31), .lit (.int .u8 27), .lit (.int .u8 13), .lit (.int .u8 23), .lit (.int .u8 21), .lit (.int .u8 19), .lit (.int .u8 16), .lit (.int .u8 7), .lit (.int .u8 26), .lit (.int .u8 12), .lit (.int .u8 18), .lit (.int .u8 6), .lit (.int .u8 11), .lit (.int .u8 5), .lit (.int .u8 10), .lit (.int .u8 9)]
def laid_math_bits_deBruijn64tab {H : Type} : DataW H := .agg [.lit (.int .u8 0), .lit (.int .u8 1), .lit (.int .u8 56), .lit (.int .u8 2), .lit (.int .u8 57), .lit (.int .u8 49), .lit (.int .u8 28), .lit (.int .u8 3), .lit (.int .u8 61), .lit (.int .u8 58), .lit (.int .u8 42), .lit (.int .u8 50), .lit (.int .u8 38), .lit (.int .u8 29), .lit (.int .u8 17), .lit (.int .u8 4), .lit (.int .u8 62), .lit (.int .u8 47), .lit (.int .u8 59), .lit (.int .u8 36), .lit (.int .u8 45), .lit (.int .u8 43), .lit (.int .u8 51), .lit (.int .u8 22), .lit (.int .u8 53), .lit (.int .u8 39), .lit (.int .u8 33), .lit (.int .u8 30), .lit (.int .u8 24), .lit (.int .u8 18), .lit (.int .u8 12), .lit (.int .u8 5), .lit (.int .u8 63), .lit (.int .u8 55), .lit (.int .u8 48), .lit (.int .u8 27), .lit (.int .u8 60), .lit (.int .u8 41), .lit (.int .u8 37), .lit (.int .u8 16), .lit (.int .u8 46), .lit (.int .u8 35), .lit (.int .u8 44), .lit (.int .u8 21), .lit (.int .u8 52), .lit (.int .u8 32), .lit (.int .u8 23), .lit (.int .u8 11), .lit (.int .u8 54), .lit (.int .u8 26), .lit (.int .u8 40), .lit (.int .u8 15), .lit (.int .u8 34), .lit (.int .u8 20), .lit (.int .u8 31), .lit (.int .u8 10), .lit (.int .u8 25), .lit (.int .u8 14), .lit (.int .u8 19), .lit (.int .u8 9), .lit (.int .u8 13), .lit (.int .u8 8), .lit (.int .u8 7), .lit (.int .u8 6)]
def laid_internal_strconv_uint64pow10 {H : Type} : DataW H := .agg [.lit (.int .u64 1), .lit (.int .u64 10), .lit (.int .u64 100), .lit (.int .u64 1000), .lit (.int .u64 10000), .lit (.int .u64 100000), .lit (.int .u64 1000000), .lit (.int .u64 10000000), .lit (.int .u64 100000000), .lit (.int .u64 1000000000), .lit (.int .u64 10000000000), .lit (.int .u64 100000000000), .lit (.int .u64 1000000000000), .lit (.int .u64 10000000000000), .lit (.int .u64 100000000000000), .lit (.int .u64 1000000000000000), .lit (.int .u64 10000000000000000), .lit (.int .u64 100000000000000000), .lit (.int .u64 1000000000000000000), .lit (.int .u64 10000000000000000000)]
def laid_loop_example_neumes_impl_letterHeights {H : Type} : DataW H := .agg [.lit (.int .i64 0), .lit (.int .i64 2), .lit (.int .i64 4), .lit (.int .i64 5), .lit (.int .i64 7), .lit (.int .i64 9), .lit (.int .i64 10)]
def laid_loop_example_neumes_impl_leastSemis {H : Type} : DataW H := .agg [.lit (.int .i64 0), .lit (.int .i64 1), .lit (.int .i64 3), .lit (.int .i64 5), .lit (.int .i64 7), .lit (.int .i64 8), .lit (.int .i64 10)]
def laid_loop_example_neumes_impl_letterNames {H : Type} : DataW H := .agg [.lit (.string [71]), .lit (.string [65]), .lit (.string [66]), .lit (.string [67]), .lit (.string [68]), .lit (.string [69]), .lit (.string [70])]
def laid_loop_example_neumes_impl_syllableNames {H : Type} : DataW H := .agg [.lit (.string [117, 116]), .lit (.string [114, 101]), .lit (.string [109, 105]), .lit (.string [102, 97]), .lit (.string [115, 111, 108]), .lit (.string [108, 97])]
def laid_unicode_utf8_acceptRanges {H : Type} : DataW H := .agg [.agg [.lit (.int .u8 128), .lit (.int .u8 191)], .agg [.lit (.int .u8 160), .lit (.int .u8 191)], .agg [.lit (.int .u8 128), .lit (.int .u8 159)], .agg [.lit (.int .u8 144), .lit (.int .u8 191)], .agg [.lit (.int .u8 128), .lit (.int .u8 143)], .agg [.lit (.int .u8 0), .lit (.int .u8 0)], .agg [.lit (.int .u8 0), .lit (.int .u8 0)], .agg [.lit (.int .u8 0), .lit (.int .u8 0)], .agg [.lit (.int .u8 0), .lit (.int .u8 0)], .agg [.lit (.int .u8 0), .lit (.int .u8 0)], .agg [.lit (.int .u8 0), .lit (.int .u8 0)], .agg [.lit (.int .u8 0), .lit (.int .u8 0)], .agg [.lit (.int .u8 0), .lit (.int .u8 0)], .agg [.lit (.int .u8 0), .lit (.int .u8 0)], .agg [.lit (.int .u8 0), .lit (.int .u8 0)], .agg [.lit (.int .u8 0), .lit (.int .u8 0)]]
/-- One of Go's own tables, pinned by name: the form's constant. -/
def laid_unicode_utf8_first : DataW Unit := Go.Pinned.utf8First

/-- 'laws.FnConcords': WHATEVER THE INPUT: true; the input reads as it did. -/
def fnConcordsSpec : ChangeSpec := { name := "fnConcords", vars := ["loop.example/neumes/impl.letterHeights", "loop.example/neumes/impl.leastSemis"], fn := fun _ => fun
  | [d, g1, g2] => { results := [.lit (.bool true)], args := [d], vars := [g1, g2] }
  | _ => none }
def fnConcordsRow : OpenClaim := { program := "ytcndojoghmblaaadoor", sum := "d736ccfb6b3acd473a46d22885e2343b62e627cb736f611cc8ea335c3eb3424b", func := "loop.example/neumes/laws.FnConcords", spec := "fnConcords", recurses := true, named := ["loop.example/neumes/impl.letterHeights", "internal/strconv.uint64pow10", "math/bits.deBruijn32tab", "math/bits.deBruijn64tab", "loop.example/neumes/impl.leastSemis"], apart := false, laid := [("math/bits.deBruijn32tab", laid_math_bits_deBruijn32tab), ("math/bits.deBruijn64tab", laid_math_bits_deBruijn64tab), ("internal/strconv.uint64pow10", laid_internal_strconv_uint64pow10), ("loop.example/neumes/impl.letterHeights", laid_loop_example_neumes_impl_letterHeights), ("loop.example/neumes/impl.leastSemis", laid_loop_example_neumes_impl_leastSemis)] }
def FnConcordsSaid : Prop := fnConcordsRow.holds Tryd.pinned (OpenSpec.ofChange fnConcordsSpec)

/-- ITS FALSE NEIGHBOUR: 'it returns false'. Refute it at one input. -/
def fnConcordsWrong : ChangeSpec := { name := "fnConcords", vars := ["loop.example/neumes/impl.letterHeights", "loop.example/neumes/impl.leastSemis"], fn := fun _ => fun
  | [d, g1, g2] => { results := [.lit (.bool false)], args := [d], vars := [g1, g2] }
  | _ => none }
def FnConcordsWrongFalsely : Prop := fnConcordsRow.holds Tryd.pinned (OpenSpec.ofChange fnConcordsWrong)

/-- 'laws.FnParallels': WHATEVER THE INPUT: true; the input reads as it did. -/
def fnParallelsSpec : ChangeSpec := { name := "fnParallels", vars := ["loop.example/neumes/impl.letterHeights", "loop.example/neumes/impl.leastSemis"], fn := fun _ => fun
  | [d, g1, g2] => { results := [.lit (.bool true)], args := [d], vars := [g1, g2] }
  | _ => none }
def fnParallelsRow : OpenClaim := { program := "ytcndojoghmblaaadoor", sum := "d736ccfb6b3acd473a46d22885e2343b62e627cb736f611cc8ea335c3eb3424b", func := "loop.example/neumes/laws.FnParallels", spec := "fnParallels", recurses := true, named := ["loop.example/neumes/impl.letterHeights", "internal/strconv.uint64pow10", "math/bits.deBruijn32tab", "math/bits.deBruijn64tab", "loop.example/neumes/impl.leastSemis"], apart := false, laid := [("math/bits.deBruijn32tab", laid_math_bits_deBruijn32tab), ("math/bits.deBruijn64tab", laid_math_bits_deBruijn64tab), ("internal/strconv.uint64pow10", laid_internal_strconv_uint64pow10), ("loop.example/neumes/impl.letterHeights", laid_loop_example_neumes_impl_letterHeights), ("loop.example/neumes/impl.leastSemis", laid_loop_example_neumes_impl_leastSemis)] }
def FnParallelsSaid : Prop := fnParallelsRow.holds Tryd.pinned (OpenSpec.ofChange fnParallelsSpec)

/-- ITS FALSE NEIGHBOUR: 'it returns false'. Refute it at one input. -/
def fnParallelsWrong : ChangeSpec := { name := "fnParallels", vars := ["loop.example/neumes/impl.letterHeights", "loop.example/neumes/impl.leastSemis"], fn := fun _ => fun
  | [d, g1, g2] => { results := [.lit (.bool false)], args := [d], vars := [g1, g2] }
  | _ => none }
def FnParallelsWrongFalsely : Prop := fnParallelsRow.holds Tryd.pinned (OpenSpec.ofChange fnParallelsWrong)

/-- 'laws.FnDiscantMove': WHATEVER THE INPUT: true; the input reads as it did. -/
def fnDiscantMoveSpec : ChangeSpec := { name := "fnDiscantMove", vars := ["loop.example/neumes/impl.letterHeights", "loop.example/neumes/impl.leastSemis"], fn := fun _ => fun
  | [d, g1, g2] => { results := [.lit (.bool true)], args := [d], vars := [g1, g2] }
  | _ => none }
def fnDiscantMoveRow : OpenClaim := { program := "ytcndojoghmblaaadoor", sum := "d736ccfb6b3acd473a46d22885e2343b62e627cb736f611cc8ea335c3eb3424b", func := "loop.example/neumes/laws.FnDiscantMove", spec := "fnDiscantMove", named := ["loop.example/neumes/impl.letterHeights", "internal/strconv.uint64pow10", "math/bits.deBruijn32tab", "math/bits.deBruijn64tab", "loop.example/neumes/impl.leastSemis"], apart := false, laid := [("math/bits.deBruijn32tab", laid_math_bits_deBruijn32tab), ("math/bits.deBruijn64tab", laid_math_bits_deBruijn64tab), ("internal/strconv.uint64pow10", laid_internal_strconv_uint64pow10), ("loop.example/neumes/impl.letterHeights", laid_loop_example_neumes_impl_letterHeights), ("loop.example/neumes/impl.leastSemis", laid_loop_example_neumes_impl_leastSemis)] }
def FnDiscantMoveSaid : Prop := fnDiscantMoveRow.holds Tryd.pinned (OpenSpec.ofChange fnDiscantMoveSpec)

/-- ITS FALSE NEIGHBOUR: 'it returns false'. Refute it at one input. -/
def fnDiscantMoveWrong : ChangeSpec := { name := "fnDiscantMove", vars := ["loop.example/neumes/impl.letterHeights", "loop.example/neumes/impl.leastSemis"], fn := fun _ => fun
  | [d, g1, g2] => { results := [.lit (.bool false)], args := [d], vars := [g1, g2] }
  | _ => none }
def FnDiscantMoveWrongFalsely : Prop := fnDiscantMoveRow.holds Tryd.pinned (OpenSpec.ofChange fnDiscantMoveWrong)

/-- 'laws.FnDiscantOk': WHATEVER THE INPUT: true; the input reads as it did. -/
def fnDiscantOkSpec : ChangeSpec := { name := "fnDiscantOk", vars := ["loop.example/neumes/impl.letterHeights", "loop.example/neumes/impl.leastSemis"], fn := fun _ => fun
  | [d, g1, g2] => { results := [.lit (.bool true)], args := [d], vars := [g1, g2] }
  | _ => none }
def fnDiscantOkRow : OpenClaim := { program := "ytcndojoghmblaaadoor", sum := "d736ccfb6b3acd473a46d22885e2343b62e627cb736f611cc8ea335c3eb3424b", func := "loop.example/neumes/laws.FnDiscantOk", spec := "fnDiscantOk", recurses := true, named := ["loop.example/neumes/impl.letterHeights", "internal/strconv.uint64pow10", "math/bits.deBruijn32tab", "math/bits.deBruijn64tab", "loop.example/neumes/impl.leastSemis"], apart := false, laid := [("math/bits.deBruijn32tab", laid_math_bits_deBruijn32tab), ("math/bits.deBruijn64tab", laid_math_bits_deBruijn64tab), ("internal/strconv.uint64pow10", laid_internal_strconv_uint64pow10), ("loop.example/neumes/impl.letterHeights", laid_loop_example_neumes_impl_letterHeights), ("loop.example/neumes/impl.leastSemis", laid_loop_example_neumes_impl_leastSemis)] }
def FnDiscantOkSaid : Prop := fnDiscantOkRow.holds Tryd.pinned (OpenSpec.ofChange fnDiscantOkSpec)

/-- ITS FALSE NEIGHBOUR: 'it returns false'. Refute it at one input. -/
def fnDiscantOkWrong : ChangeSpec := { name := "fnDiscantOk", vars := ["loop.example/neumes/impl.letterHeights", "loop.example/neumes/impl.leastSemis"], fn := fun _ => fun
  | [d, g1, g2] => { results := [.lit (.bool false)], args := [d], vars := [g1, g2] }
  | _ => none }
def FnDiscantOkWrongFalsely : Prop := fnDiscantOkRow.holds Tryd.pinned (OpenSpec.ofChange fnDiscantOkWrong)

/-- 'laws.FnSingBest': WHATEVER THE INPUT: true; the input reads as it did. -/
def fnSingBestSpec : ChangeSpec := { name := "fnSingBest", vars := ["loop.example/neumes/impl.letterNames"], fn := fun _ => fun
  | [d, g1] => { results := [.lit (.bool true)], args := [d], vars := [g1] }
  | _ => none }
def fnSingBestRow : OpenClaim := { program := "ytcndojoghmblaaadoor", sum := "d736ccfb6b3acd473a46d22885e2343b62e627cb736f611cc8ea335c3eb3424b", func := "loop.example/neumes/laws.FnSingBest", spec := "fnSingBest", named := ["loop.example/neumes/impl.letterNames"], apart := false, laid := [("loop.example/neumes/impl.letterNames", laid_loop_example_neumes_impl_letterNames)] }
def FnSingBestSaid : Prop := fnSingBestRow.holds Tryd.pinned (OpenSpec.ofChange fnSingBestSpec)

/-- ITS FALSE NEIGHBOUR: 'it returns false'. Refute it at one input. -/
def fnSingBestWrong : ChangeSpec := { name := "fnSingBest", vars := ["loop.example/neumes/impl.letterNames"], fn := fun _ => fun
  | [d, g1] => { results := [.lit (.bool false)], args := [d], vars := [g1] }
  | _ => none }
def FnSingBestWrongFalsely : Prop := fnSingBestRow.holds Tryd.pinned (OpenSpec.ofChange fnSingBestWrong)

/-- 'laws.FnSingFew': WHATEVER THE INPUT: true; the input reads as it did. -/
def fnSingFewSpec : ChangeSpec := { name := "fnSingFew", vars := ["loop.example/neumes/impl.letterNames"], fn := fun _ => fun
  | [d, g1] => { results := [.lit (.bool true)], args := [d], vars := [g1] }
  | _ => none }
def fnSingFewRow : OpenClaim := { program := "ytcndojoghmblaaadoor", sum := "d736ccfb6b3acd473a46d22885e2343b62e627cb736f611cc8ea335c3eb3424b", func := "loop.example/neumes/laws.FnSingFew", spec := "fnSingFew", named := ["loop.example/neumes/impl.letterNames"], apart := false, laid := [("loop.example/neumes/impl.letterNames", laid_loop_example_neumes_impl_letterNames)] }
def FnSingFewSaid : Prop := fnSingFewRow.holds Tryd.pinned (OpenSpec.ofChange fnSingFewSpec)

/-- ITS FALSE NEIGHBOUR: 'it returns false'. Refute it at one input. -/
def fnSingFewWrong : ChangeSpec := { name := "fnSingFew", vars := ["loop.example/neumes/impl.letterNames"], fn := fun _ => fun
  | [d, g1] => { results := [.lit (.bool false)], args := [d], vars := [g1] }
  | _ => none }
def FnSingFewWrongFalsely : Prop := fnSingFewRow.holds Tryd.pinned (OpenSpec.ofChange fnSingFewWrong)

/-- 'laws.FnSing': WHATEVER THE INPUT: true; the input reads as it did. -/
def fnSingSpec : ChangeSpec := { name := "fnSing", vars := ["loop.example/neumes/impl.syllableNames", "loop.example/neumes/impl.letterNames"], fn := fun _ => fun
  | [d, g1, g2] => { results := [.lit (.bool true)], args := [d], vars := [g1, g2] }
  | _ => none }
def fnSingRow : OpenClaim := { program := "ytcndojoghmblaaadoor", sum := "d736ccfb6b3acd473a46d22885e2343b62e627cb736f611cc8ea335c3eb3424b", func := "loop.example/neumes/laws.FnSing", spec := "fnSing", inPlace := ["internal/abi.NoEscape", "internal/bytealg.MakeNoZero"], named := ["loop.example/neumes/impl.syllableNames", "loop.example/neumes/impl.letterNames"], apart := false, laid := [("loop.example/neumes/impl.letterNames", laid_loop_example_neumes_impl_letterNames), ("loop.example/neumes/impl.syllableNames", laid_loop_example_neumes_impl_syllableNames)] }
def FnSingSaid : Prop := fnSingRow.holds Tryd.pinned (OpenSpec.ofChange fnSingSpec)

/-- ITS FALSE NEIGHBOUR: 'it returns false'. Refute it at one input. -/
def fnSingWrong : ChangeSpec := { name := "fnSing", vars := ["loop.example/neumes/impl.syllableNames", "loop.example/neumes/impl.letterNames"], fn := fun _ => fun
  | [d, g1, g2] => { results := [.lit (.bool false)], args := [d], vars := [g1, g2] }
  | _ => none }
def FnSingWrongFalsely : Prop := fnSingRow.holds Tryd.pinned (OpenSpec.ofChange fnSingWrong)

/-- 'laws.FnMelodyJoin': WHATEVER THE INPUT: true; the input reads as it did. -/
def fnMelodyJoinSpec : ChangeSpec := { name := "fnMelodyJoin", vars := ["loop.example/neumes/impl.letterNames"], fn := fun _ => fun
  | [d, g1] => { results := [.lit (.bool true)], args := [d], vars := [g1] }
  | _ => none }
def fnMelodyJoinRow : OpenClaim := { program := "ytcndojoghmblaaadoor", sum := "d736ccfb6b3acd473a46d22885e2343b62e627cb736f611cc8ea335c3eb3424b", func := "loop.example/neumes/laws.FnMelodyJoin", spec := "fnMelodyJoin", inPlace := ["internal/abi.NoEscape", "internal/bytealg.MakeNoZero"], named := ["loop.example/neumes/impl.letterNames", "internal/strconv.uint64pow10", "math/bits.deBruijn32tab", "math/bits.deBruijn64tab"], apart := false, laid := [("math/bits.deBruijn32tab", laid_math_bits_deBruijn32tab), ("math/bits.deBruijn64tab", laid_math_bits_deBruijn64tab), ("internal/strconv.uint64pow10", laid_internal_strconv_uint64pow10), ("loop.example/neumes/impl.letterNames", laid_loop_example_neumes_impl_letterNames)] }
def FnMelodyJoinSaid : Prop := fnMelodyJoinRow.holds Tryd.pinned (OpenSpec.ofChange fnMelodyJoinSpec)

/-- ITS FALSE NEIGHBOUR: 'it returns false'. Refute it at one input. -/
def fnMelodyJoinWrong : ChangeSpec := { name := "fnMelodyJoin", vars := ["loop.example/neumes/impl.letterNames"], fn := fun _ => fun
  | [d, g1] => { results := [.lit (.bool false)], args := [d], vars := [g1] }
  | _ => none }
def FnMelodyJoinWrongFalsely : Prop := fnMelodyJoinRow.holds Tryd.pinned (OpenSpec.ofChange fnMelodyJoinWrong)

/-- 'laws.FnMelodyText': WHATEVER THE INPUT: true; the input reads as it did. -/
def fnMelodyTextSpec : ChangeSpec := { name := "fnMelodyText", vars := ["loop.example/neumes/impl.letterNames"], fn := fun _ => fun
  | [d, g1] => { results := [.lit (.bool true)], args := [d], vars := [g1] }
  | _ => none }
def fnMelodyTextRow : OpenClaim := { program := "ytcndojoghmblaaadoor", sum := "d736ccfb6b3acd473a46d22885e2343b62e627cb736f611cc8ea335c3eb3424b", func := "loop.example/neumes/laws.FnMelodyText", spec := "fnMelodyText", inPlace := ["internal/abi.NoEscape", "internal/bytealg.MakeNoZero", "internal/bytealg.CountString", "internal/bytealg.IndexByteString", "internal/bytealg.IndexString"], recurses := true, named := ["loop.example/neumes/impl.letterNames", "internal/strconv.uint64pow10", "math/bits.deBruijn32tab", "math/bits.deBruijn64tab", "unicode/utf8.first", "unicode/utf8.acceptRanges", "internal/bytealg.MaxLen"], apart := false, laid := [("math/bits.deBruijn32tab", laid_math_bits_deBruijn32tab), ("math/bits.deBruijn64tab", laid_math_bits_deBruijn64tab), ("internal/strconv.uint64pow10", laid_internal_strconv_uint64pow10), ("unicode/utf8.acceptRanges", laid_unicode_utf8_acceptRanges), ("loop.example/neumes/impl.letterNames", laid_loop_example_neumes_impl_letterNames), ("unicode/utf8.first", laid_unicode_utf8_first)] }
def FnMelodyTextSaid : Prop := fnMelodyTextRow.holds Tryd.pinned (OpenSpec.ofChange fnMelodyTextSpec)

/-- ITS FALSE NEIGHBOUR: 'it returns false'. Refute it at one input. -/
def fnMelodyTextWrong : ChangeSpec := { name := "fnMelodyText", vars := ["loop.example/neumes/impl.letterNames"], fn := fun _ => fun
  | [d, g1] => { results := [.lit (.bool false)], args := [d], vars := [g1] }
  | _ => none }
def FnMelodyTextWrongFalsely : Prop := fnMelodyTextRow.holds Tryd.pinned (OpenSpec.ofChange fnMelodyTextWrong)

/-- 'laws.FnMelodyFrom': WHATEVER THE INPUT: true; the input reads as it did. -/
def fnMelodyFromSpec : ChangeSpec := { name := "fnMelodyFrom", vars := ["loop.example/neumes/impl.letterNames"], fn := fun _ => fun
  | [d, g1] => { results := [.lit (.bool true)], args := [d], vars := [g1] }
  | _ => none }
def fnMelodyFromRow : OpenClaim := { program := "ytcndojoghmblaaadoor", sum := "d736ccfb6b3acd473a46d22885e2343b62e627cb736f611cc8ea335c3eb3424b", func := "loop.example/neumes/laws.FnMelodyFrom", spec := "fnMelodyFrom", inPlace := ["internal/bytealg.CountString", "internal/bytealg.IndexByteString", "internal/bytealg.IndexString", "internal/abi.NoEscape", "internal/bytealg.MakeNoZero"], recurses := true, named := ["unicode/utf8.first", "unicode/utf8.acceptRanges", "internal/bytealg.MaxLen", "loop.example/neumes/impl.letterNames", "internal/strconv.uint64pow10", "math/bits.deBruijn32tab", "math/bits.deBruijn64tab"], apart := false, laid := [("math/bits.deBruijn32tab", laid_math_bits_deBruijn32tab), ("math/bits.deBruijn64tab", laid_math_bits_deBruijn64tab), ("internal/strconv.uint64pow10", laid_internal_strconv_uint64pow10), ("unicode/utf8.acceptRanges", laid_unicode_utf8_acceptRanges), ("loop.example/neumes/impl.letterNames", laid_loop_example_neumes_impl_letterNames), ("unicode/utf8.first", laid_unicode_utf8_first)] }
def FnMelodyFromSaid : Prop := fnMelodyFromRow.holds Tryd.pinned (OpenSpec.ofChange fnMelodyFromSpec)

/-- ITS FALSE NEIGHBOUR: 'it returns false'. Refute it at one input. -/
def fnMelodyFromWrong : ChangeSpec := { name := "fnMelodyFrom", vars := ["loop.example/neumes/impl.letterNames"], fn := fun _ => fun
  | [d, g1] => { results := [.lit (.bool false)], args := [d], vars := [g1] }
  | _ => none }
def FnMelodyFromWrongFalsely : Prop := fnMelodyFromRow.holds Tryd.pinned (OpenSpec.ofChange fnMelodyFromWrong)

/-- 'laws.FnStemFill': WHATEVER THE INPUT: true; the input reads as it did. -/
def fnStemFillSpec : ChangeSpec := { name := "fnStemFill", fn := fun _ => fun
  | [d1, d2] => { results := [.lit (.bool true)], args := [d1, d2] }
  | _ => none }
def fnStemFillRow : OpenClaim := { program := "ytcndojoghmblaaadoor", sum := "d736ccfb6b3acd473a46d22885e2343b62e627cb736f611cc8ea335c3eb3424b", func := "loop.example/neumes/laws.FnStemFill", spec := "fnStemFill", inPlace := ["internal/bytealg.IndexByteString", "internal/bytealg.IndexString"], named := ["unicode/utf8.first", "unicode/utf8.acceptRanges", "internal/bytealg.MaxLen"], apart := false, laid := [("unicode/utf8.acceptRanges", laid_unicode_utf8_acceptRanges), ("unicode/utf8.first", laid_unicode_utf8_first)] }
def FnStemFillSaid : Prop := fnStemFillRow.holds Tryd.pinned (OpenSpec.ofChange fnStemFillSpec)

/-- ITS FALSE NEIGHBOUR: 'it returns false'. Refute it at one input. -/
def fnStemFillWrong : ChangeSpec := { name := "fnStemFill", fn := fun _ => fun
  | [d1, d2] => { results := [.lit (.bool false)], args := [d1, d2] }
  | _ => none }
def FnStemFillWrongFalsely : Prop := fnStemFillRow.holds Tryd.pinned (OpenSpec.ofChange fnStemFillWrong)

/- THE SECOND FORM. 'bulk': how many values and letters a reading holds, each counted each time it is reached (what is shared counts as often as it is met; a slice's spare places count too). A statement '..UptoSaid' is the law's where the arguments, and the package variables that the reading takes, are together of bulk at most 1048576: NARROWER than '..Said'. Prove '..Said' where nothing that the law and all that it calls make is longer than what came in: it says more and counts as full. Else prove '..UptoSaid'. A law counts once. -/
mutual
def uptoBulk {H : Type} : DataW H → Nat
  | .lit (.string bytes) => bytes.length + 1
  | .lit _ => 1
  | .nil => 1
  | .ptr d => uptoBulk d + 1
  | .slice elems spare => uptoBulkAll elems + uptoBulkAll spare + 1
  | .agg parts => uptoBulkAll parts + 1
  | .iface _ d => uptoBulk d + 1
  | .map entries => uptoBulkEntries entries + 1
  | .held _ => 1
def uptoBulkAll {H : Type} : List (DataW H) → Nat
  | [] => 0
  | d :: r => uptoBulk d + uptoBulkAll r
def uptoBulkEntries {H : Type} : List (Lit × DataW H) → Nat
  | [] => 0
  | x :: r => uptoBulkEntry x + uptoBulkEntries r
def uptoBulkEntry {H : Type} : Lit × DataW H → Nat
  | (.string bytes, d) => bytes.length + uptoBulk d + 1
  | (_, d) => uptoBulk d + 1
 end
def uptoSmall : (H : Type) → List (DataW H) → Bool := fun _ ds => decide (uptoBulkAll ds ≤ 1048576)
def OpenSpec.upto (s : _root_.Go.ChangeSpec) : _root_.Go.OpenSpec := { _root_.Go.OpenSpec.ofChange s with cond := some uptoSmall }

/-- 'laws.FnConcords', WHERE WHAT IT READS IS OF BULK AT MOST 1048576: true; the input reads as it did. -/
def fnConcordsUptoRow : OpenClaim := { program := "ytcndojoghmblaaadoor", sum := "d736ccfb6b3acd473a46d22885e2343b62e627cb736f611cc8ea335c3eb3424b", func := "loop.example/neumes/laws.FnConcords", spec := "fnConcords", recurses := true, named := ["loop.example/neumes/impl.letterHeights", "internal/strconv.uint64pow10", "math/bits.deBruijn32tab", "math/bits.deBruijn64tab", "loop.example/neumes/impl.leastSemis"], apart := false, laid := [("math/bits.deBruijn32tab", laid_math_bits_deBruijn32tab), ("math/bits.deBruijn64tab", laid_math_bits_deBruijn64tab), ("internal/strconv.uint64pow10", laid_internal_strconv_uint64pow10), ("loop.example/neumes/impl.letterHeights", laid_loop_example_neumes_impl_letterHeights), ("loop.example/neumes/impl.leastSemis", laid_loop_example_neumes_impl_leastSemis)], narrowed := true }
def FnConcordsUptoSaid : Prop := fnConcordsUptoRow.holds Tryd.pinned (OpenSpec.upto fnConcordsSpec)

/-- 'laws.FnParallels', WHERE WHAT IT READS IS OF BULK AT MOST 1048576: true; the input reads as it did. -/
def fnParallelsUptoRow : OpenClaim := { program := "ytcndojoghmblaaadoor", sum := "d736ccfb6b3acd473a46d22885e2343b62e627cb736f611cc8ea335c3eb3424b", func := "loop.example/neumes/laws.FnParallels", spec := "fnParallels", recurses := true, named := ["loop.example/neumes/impl.letterHeights", "internal/strconv.uint64pow10", "math/bits.deBruijn32tab", "math/bits.deBruijn64tab", "loop.example/neumes/impl.leastSemis"], apart := false, laid := [("math/bits.deBruijn32tab", laid_math_bits_deBruijn32tab), ("math/bits.deBruijn64tab", laid_math_bits_deBruijn64tab), ("internal/strconv.uint64pow10", laid_internal_strconv_uint64pow10), ("loop.example/neumes/impl.letterHeights", laid_loop_example_neumes_impl_letterHeights), ("loop.example/neumes/impl.leastSemis", laid_loop_example_neumes_impl_leastSemis)], narrowed := true }
def FnParallelsUptoSaid : Prop := fnParallelsUptoRow.holds Tryd.pinned (OpenSpec.upto fnParallelsSpec)

/-- 'laws.FnDiscantMove', WHERE WHAT IT READS IS OF BULK AT MOST 1048576: true; the input reads as it did. -/
def fnDiscantMoveUptoRow : OpenClaim := { program := "ytcndojoghmblaaadoor", sum := "d736ccfb6b3acd473a46d22885e2343b62e627cb736f611cc8ea335c3eb3424b", func := "loop.example/neumes/laws.FnDiscantMove", spec := "fnDiscantMove", named := ["loop.example/neumes/impl.letterHeights", "internal/strconv.uint64pow10", "math/bits.deBruijn32tab", "math/bits.deBruijn64tab", "loop.example/neumes/impl.leastSemis"], apart := false, laid := [("math/bits.deBruijn32tab", laid_math_bits_deBruijn32tab), ("math/bits.deBruijn64tab", laid_math_bits_deBruijn64tab), ("internal/strconv.uint64pow10", laid_internal_strconv_uint64pow10), ("loop.example/neumes/impl.letterHeights", laid_loop_example_neumes_impl_letterHeights), ("loop.example/neumes/impl.leastSemis", laid_loop_example_neumes_impl_leastSemis)], narrowed := true }
def FnDiscantMoveUptoSaid : Prop := fnDiscantMoveUptoRow.holds Tryd.pinned (OpenSpec.upto fnDiscantMoveSpec)

/-- 'laws.FnDiscantOk', WHERE WHAT IT READS IS OF BULK AT MOST 1048576: true; the input reads as it did. -/
def fnDiscantOkUptoRow : OpenClaim := { program := "ytcndojoghmblaaadoor", sum := "d736ccfb6b3acd473a46d22885e2343b62e627cb736f611cc8ea335c3eb3424b", func := "loop.example/neumes/laws.FnDiscantOk", spec := "fnDiscantOk", recurses := true, named := ["loop.example/neumes/impl.letterHeights", "internal/strconv.uint64pow10", "math/bits.deBruijn32tab", "math/bits.deBruijn64tab", "loop.example/neumes/impl.leastSemis"], apart := false, laid := [("math/bits.deBruijn32tab", laid_math_bits_deBruijn32tab), ("math/bits.deBruijn64tab", laid_math_bits_deBruijn64tab), ("internal/strconv.uint64pow10", laid_internal_strconv_uint64pow10), ("loop.example/neumes/impl.letterHeights", laid_loop_example_neumes_impl_letterHeights), ("loop.example/neumes/impl.leastSemis", laid_loop_example_neumes_impl_leastSemis)], narrowed := true }
def FnDiscantOkUptoSaid : Prop := fnDiscantOkUptoRow.holds Tryd.pinned (OpenSpec.upto fnDiscantOkSpec)

/-- 'laws.FnSingBest', WHERE WHAT IT READS IS OF BULK AT MOST 1048576: true; the input reads as it did. -/
def fnSingBestUptoRow : OpenClaim := { program := "ytcndojoghmblaaadoor", sum := "d736ccfb6b3acd473a46d22885e2343b62e627cb736f611cc8ea335c3eb3424b", func := "loop.example/neumes/laws.FnSingBest", spec := "fnSingBest", named := ["loop.example/neumes/impl.letterNames"], apart := false, laid := [("loop.example/neumes/impl.letterNames", laid_loop_example_neumes_impl_letterNames)], narrowed := true }
def FnSingBestUptoSaid : Prop := fnSingBestUptoRow.holds Tryd.pinned (OpenSpec.upto fnSingBestSpec)

/-- 'laws.FnSingFew', WHERE WHAT IT READS IS OF BULK AT MOST 1048576: true; the input reads as it did. -/
def fnSingFewUptoRow : OpenClaim := { program := "ytcndojoghmblaaadoor", sum := "d736ccfb6b3acd473a46d22885e2343b62e627cb736f611cc8ea335c3eb3424b", func := "loop.example/neumes/laws.FnSingFew", spec := "fnSingFew", named := ["loop.example/neumes/impl.letterNames"], apart := false, laid := [("loop.example/neumes/impl.letterNames", laid_loop_example_neumes_impl_letterNames)], narrowed := true }
def FnSingFewUptoSaid : Prop := fnSingFewUptoRow.holds Tryd.pinned (OpenSpec.upto fnSingFewSpec)

/-- 'laws.FnSing', WHERE WHAT IT READS IS OF BULK AT MOST 1048576: true; the input reads as it did. -/
def fnSingUptoRow : OpenClaim := { program := "ytcndojoghmblaaadoor", sum := "d736ccfb6b3acd473a46d22885e2343b62e627cb736f611cc8ea335c3eb3424b", func := "loop.example/neumes/laws.FnSing", spec := "fnSing", inPlace := ["internal/abi.NoEscape", "internal/bytealg.MakeNoZero"], named := ["loop.example/neumes/impl.syllableNames", "loop.example/neumes/impl.letterNames"], apart := false, laid := [("loop.example/neumes/impl.letterNames", laid_loop_example_neumes_impl_letterNames), ("loop.example/neumes/impl.syllableNames", laid_loop_example_neumes_impl_syllableNames)], narrowed := true }
def FnSingUptoSaid : Prop := fnSingUptoRow.holds Tryd.pinned (OpenSpec.upto fnSingSpec)

/-- 'laws.FnMelodyJoin', WHERE WHAT IT READS IS OF BULK AT MOST 1048576: true; the input reads as it did. -/
def fnMelodyJoinUptoRow : OpenClaim := { program := "ytcndojoghmblaaadoor", sum := "d736ccfb6b3acd473a46d22885e2343b62e627cb736f611cc8ea335c3eb3424b", func := "loop.example/neumes/laws.FnMelodyJoin", spec := "fnMelodyJoin", inPlace := ["internal/abi.NoEscape", "internal/bytealg.MakeNoZero"], named := ["loop.example/neumes/impl.letterNames", "internal/strconv.uint64pow10", "math/bits.deBruijn32tab", "math/bits.deBruijn64tab"], apart := false, laid := [("math/bits.deBruijn32tab", laid_math_bits_deBruijn32tab), ("math/bits.deBruijn64tab", laid_math_bits_deBruijn64tab), ("internal/strconv.uint64pow10", laid_internal_strconv_uint64pow10), ("loop.example/neumes/impl.letterNames", laid_loop_example_neumes_impl_letterNames)], narrowed := true }
def FnMelodyJoinUptoSaid : Prop := fnMelodyJoinUptoRow.holds Tryd.pinned (OpenSpec.upto fnMelodyJoinSpec)

/-- 'laws.FnMelodyText', WHERE WHAT IT READS IS OF BULK AT MOST 1048576: true; the input reads as it did. -/
def fnMelodyTextUptoRow : OpenClaim := { program := "ytcndojoghmblaaadoor", sum := "d736ccfb6b3acd473a46d22885e2343b62e627cb736f611cc8ea335c3eb3424b", func := "loop.example/neumes/laws.FnMelodyText", spec := "fnMelodyText", inPlace := ["internal/abi.NoEscape", "internal/bytealg.MakeNoZero", "internal/bytealg.CountString", "internal/bytealg.IndexByteString", "internal/bytealg.IndexString"], recurses := true, named := ["loop.example/neumes/impl.letterNames", "internal/strconv.uint64pow10", "math/bits.deBruijn32tab", "math/bits.deBruijn64tab", "unicode/utf8.first", "unicode/utf8.acceptRanges", "internal/bytealg.MaxLen"], apart := false, laid := [("math/bits.deBruijn32tab", laid_math_bits_deBruijn32tab), ("math/bits.deBruijn64tab", laid_math_bits_deBruijn64tab), ("internal/strconv.uint64pow10", laid_internal_strconv_uint64pow10), ("unicode/utf8.acceptRanges", laid_unicode_utf8_acceptRanges), ("loop.example/neumes/impl.letterNames", laid_loop_example_neumes_impl_letterNames), ("unicode/utf8.first", laid_unicode_utf8_first)], narrowed := true }
def FnMelodyTextUptoSaid : Prop := fnMelodyTextUptoRow.holds Tryd.pinned (OpenSpec.upto fnMelodyTextSpec)

/-- 'laws.FnMelodyFrom', WHERE WHAT IT READS IS OF BULK AT MOST 1048576: true; the input reads as it did. -/
def fnMelodyFromUptoRow : OpenClaim := { program := "ytcndojoghmblaaadoor", sum := "d736ccfb6b3acd473a46d22885e2343b62e627cb736f611cc8ea335c3eb3424b", func := "loop.example/neumes/laws.FnMelodyFrom", spec := "fnMelodyFrom", inPlace := ["internal/bytealg.CountString", "internal/bytealg.IndexByteString", "internal/bytealg.IndexString", "internal/abi.NoEscape", "internal/bytealg.MakeNoZero"], recurses := true, named := ["unicode/utf8.first", "unicode/utf8.acceptRanges", "internal/bytealg.MaxLen", "loop.example/neumes/impl.letterNames", "internal/strconv.uint64pow10", "math/bits.deBruijn32tab", "math/bits.deBruijn64tab"], apart := false, laid := [("math/bits.deBruijn32tab", laid_math_bits_deBruijn32tab), ("math/bits.deBruijn64tab", laid_math_bits_deBruijn64tab), ("internal/strconv.uint64pow10", laid_internal_strconv_uint64pow10), ("unicode/utf8.acceptRanges", laid_unicode_utf8_acceptRanges), ("loop.example/neumes/impl.letterNames", laid_loop_example_neumes_impl_letterNames), ("unicode/utf8.first", laid_unicode_utf8_first)], narrowed := true }
def FnMelodyFromUptoSaid : Prop := fnMelodyFromUptoRow.holds Tryd.pinned (OpenSpec.upto fnMelodyFromSpec)

/-- 'laws.FnStemFill', WHERE WHAT IT READS IS OF BULK AT MOST 1048576: true; the input reads as it did. -/
def fnStemFillUptoRow : OpenClaim := { program := "ytcndojoghmblaaadoor", sum := "d736ccfb6b3acd473a46d22885e2343b62e627cb736f611cc8ea335c3eb3424b", func := "loop.example/neumes/laws.FnStemFill", spec := "fnStemFill", inPlace := ["internal/bytealg.IndexByteString", "internal/bytealg.IndexString"], named := ["unicode/utf8.first", "unicode/utf8.acceptRanges", "internal/bytealg.MaxLen"], apart := false, laid := [("unicode/utf8.acceptRanges", laid_unicode_utf8_acceptRanges), ("unicode/utf8.first", laid_unicode_utf8_first)], narrowed := true }
def FnStemFillUptoSaid : Prop := fnStemFillUptoRow.holds Tryd.pinned (OpenSpec.upto fnStemFillSpec)

end Rows
end Go.Proofs.YtcndojoghmblaaaDoor
