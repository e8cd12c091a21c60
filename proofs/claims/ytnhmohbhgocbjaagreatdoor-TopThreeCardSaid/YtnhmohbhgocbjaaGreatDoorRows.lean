/-
  NARROWER THAN 'FOR EVERY INPUT', by the rows' own cells (each row's printed sentence says how): TopThree: laid · TopOrders: laid · TopRows: laid · TopPlans: laid · TopWhole: laid · TopSteps: laid · TopReads: laid · TopRefused: laid · TopRuns: laid · TopMemory: laid · TopEnds: laid · TopIndexes: laid.
  DERIVED. THE GIVEN ROWS OF THIS SEAT. 12 by the template 'for every input the law returns true; each argument reads behind the call as it read before'; 0 by the template 'total and deterministic' (their statements: YtnhmohbhgocbjaaGreatDoorTotals.lean).
  GIVEN WITH THE SEED: the statements are not yours to turn. If you find one false, say at which input.
  Laid BY PROGRAM, IN A SANDBOX (cutbox-rows.mjs): the forced cells as the released guide's own fill.sh prints them over the translation 782b0f76c11341c2… (all of the seat's roots in one cut). By AI agents, Wed Nov 11 2026. No macro, syntax, notation, axiom, sorry.
-/
import Derived.Test.YtnhmohbhgocbjaaGreatDoorChecked
import GoSem.Claim
import GoSem.ClaimJoined
import GoSem.ClaimMapViews
import Derived.JoinedTies
import Derived.KernelRfl
namespace Go.Proofs.YtnhmohbhgocbjaaGreatDoor
/- THE CELL 'sum', in the pinned program and in every row, IS THE sha256 OF THE DUMP (.gsa) THAT YtnhmohbhgocbjaaGreatDoorProg.lean LOADS. Nothing in Lean hashes anything: it is a label: what it is worth is what the hold of that sum in a sandbox is worth. -/
noncomputable def Tryz.pinned : Pinned := { name := "ytnhmohbhgocbjaagreatdoor", sum := "782b0f76c11341c2164e3722c8381448a980e2cd3c0e23a1c3b1382edeca5c26", checked := Tryz.checked }
namespace Rows
def none {H : Type} : Left H := { results := [], args := [] }

/- WHAT THE LISTED PACKAGE-LEVEL VARIABLES READ AS WHEN THE CALL BEGINS. Each datum BY PROGRAM (the guide's laid-datum.mjs) off the statement by which the dump's own 'gosem.cut.vars' lays the variable. In a bare row this is a premise. The card (YtnhmohbhgocbjaaGreatDoorCards.lean) ties it to the program's text. -/
def laid_math_bits_deBruijn32tab {H : Type} : DataW H := .agg [.lit (.int .u8 0), .lit (.int .u8 1), .lit (.int .u8 28), .lit (.int .u8 2), .lit (.int .u8 29), .lit (.int .u8 14), .lit (.int .u8 24), .lit (.int .u8 3), .lit (.int .u8 30), .lit (.int .u8 22), .lit (.int .u8 20), .lit (.int .u8 15), .lit (.int .u8 25), .lit (.int .u8 17), .lit (.int .u8 4), .lit (.int .u8 8), .lit (.int .u8 31), .lit (.int .u8 27), .lit (.int .u8 13), .lit (.int .u8 23), .lit (.int .u8 21), .lit (.int .u8 19), .lit (.int .u8 16), .lit (.int .u8 7), .lit (.int .u8 26), .lit (.int .u8 12), .lit (.int .u8 18), .lit (.int .u8 6), .lit (.int .u8 11), .lit (.int .u8 5), .lit (.int .u8 10), .lit (.int .u8 9)]
def laid_math_bits_deBruijn64tab {H : Type} : DataW H := .agg [.lit (.int .u8 0), .lit (.int .u8 1), .lit (.int .u8 56), .lit (.int .u8 2), .lit (.int .u8 57), .lit (.int .u8 49), .lit (.int .u8 28), .lit (.int .u8 3), .lit (.int .u8 61), .lit (.int .u8 58), .lit (.int .u8 42), .lit (.int .u8 50), .lit (.int .u8 38), .lit (.int .u8 29), .lit (.int .u8 17), .lit (.int .u8 4), .lit (.int .u8 62), .lit (.int .u8 47), .lit (.int .u8 59), .lit (.int .u8 36), .lit (.int .u8 45), .lit (.int .u8 43), .lit (.int .u8 51), .lit (.int .u8 22), .lit (.int .u8 53), .lit (.int .u8 39), .lit (.int .u8 33), .lit (.int .u8 30), .lit (.int .u8 24), .lit (.int .u8 18), .lit (.int .u8 12), .lit (.int .u8 5), .lit (.int .u8 63), .lit (.int .u8 55), .lit (.int .u8 48), .lit (.int .u8 27), .lit (.int .u8 60), .lit (.int .u8 41), .lit (.int .u8 37), .lit (.int .u8 16), .lit (.int .u8 46), .lit (.int .u8 35), .lit (.int .u8 44), .lit (.int .u8 21), .lit (.int .u8 52), .lit (.int .u8 32), .lit (.int .u8 23), .lit (.int .u8 11), .lit (.int .u8 54), .lit (.int .u8 26), .lit (.int .u8 40), .lit (.int .u8 15), .lit (.int .u8 34), .lit (.int .u8 20), .lit (.int .u8 31), .lit (.int .u8 10), .lit (.int .u8 25), .lit (.int .u8 14), .lit (.int .u8 19), .lit (.int .u8 9), .lit (.int .u8 13), .lit (.int .u8 8), .lit (.int .u8 7), .lit (.int .u8 6)]
def laid_internal_strconv_uint64pow10 {H : Type} : DataW H := .agg [.lit (.int .u64 1), .lit (.int .u64 10), .lit (.int .u64 100), .lit (.int .u64 1000), .lit (.int .u64 10000), .lit (.int .u64 100000), .lit (.int .u64 1000000), .lit (.int .u64 10000000), .lit (.int .u64 100000000), .lit (.int .u64 1000000000), .lit (.int .u64 10000000000), .lit (.int .u64 100000000000), .lit (.int .u64 1000000000000), .lit (.int .u64 10000000000000), .lit (.int .u64 100000000000000), .lit (.int .u64 1000000000000000), .lit (.int .u64 10000000000000000), .lit (.int .u64 100000000000000000), .lit (.int .u64 1000000000000000000), .lit (.int .u64 10000000000000000000)]
def laid_strconv_ErrRange {H : Type} : DataW H := .iface "*errors.errorString" (.ptr (.agg [.lit (.string [118, 97, 108, 117, 101, 32, 111, 117, 116, 32, 111, 102, 32, 114, 97, 110, 103, 101])]))
def laid_strconv_ErrSyntax {H : Type} : DataW H := .iface "*errors.errorString" (.ptr (.agg [.lit (.string [105, 110, 118, 97, 108, 105, 100, 32, 115, 121, 110, 116, 97, 120])]))
def laid_askance_syntax_words {H : Type} : DataW H := .slice [.lit (.string [97, 110, 100]), .lit (.string [98, 121]), .lit (.string [99, 114, 101, 97, 116, 101]), .lit (.string [100, 101, 108, 101, 116, 101]), .lit (.string [100, 101, 115, 99]), .lit (.string [100, 114, 111, 112]), .lit (.string [102, 114, 111, 109]), .lit (.string [105, 110, 100, 101, 120]), .lit (.string [105, 110, 115, 101, 114, 116]), .lit (.string [105, 110, 116]), .lit (.string [105, 110, 116, 111]), .lit (.string [105, 115]), .lit (.string [108, 105, 109, 105, 116]), .lit (.string [109, 117, 115, 116]), .lit (.string [110, 111, 116]), .lit (.string [110, 117, 108, 108]), .lit (.string [111, 110]), .lit (.string [111, 114]), .lit (.string [111, 114, 100, 101, 114]), .lit (.string [115, 101, 108, 101, 99, 116]), .lit (.string [115, 101, 116]), .lit (.string [116, 97, 98, 108, 101]), .lit (.string [116, 101, 120, 116]), .lit (.string [117, 112, 100, 97, 116, 101]), .lit (.string [118, 97, 108, 117, 101, 115]), .lit (.string [119, 104, 101, 114, 101])] []

/-- 'askancetop.TopThree': WHATEVER THE INPUT: true; the input reads as it did. -/
def topThreeSpec : ChangeSpec := { name := "topThree", fn := fun _ => fun
  | [d1, d2, d3] => { results := [.lit (.bool true)], args := [d1, d2, d3] }
  | _ => none }
def topThreeRow : OpenClaim := { program := "ytnhmohbhgocbjaagreatdoor", sum := "782b0f76c11341c2164e3722c8381448a980e2cd3c0e23a1c3b1382edeca5c26", func := "askance/askancetop.TopThree", spec := "topThree", inPlace := ["internal/bytealg.IndexByteString", "internal/bytealg.abigen_runtime_cmpstring", "slices.overlaps[askance/api.Table]", "slices.overlaps[askance/api.Index]", "slices.overlaps[string]", "slices.overlaps[askance/api.Page]"], unfollowed := true, recurses := true, named := ["askance/syntax.words", "strconv.ErrSyntax", "strconv.ErrRange", "internal/strconv.uint64pow10", "math/bits.deBruijn32tab", "math/bits.deBruijn64tab"], apart := false, laid := [("math/bits.deBruijn32tab", laid_math_bits_deBruijn32tab), ("math/bits.deBruijn64tab", laid_math_bits_deBruijn64tab), ("internal/strconv.uint64pow10", laid_internal_strconv_uint64pow10), ("strconv.ErrRange", laid_strconv_ErrRange), ("strconv.ErrSyntax", laid_strconv_ErrSyntax), ("askance/syntax.words", laid_askance_syntax_words)] }
def TopThreeSaid : Prop := topThreeRow.holds Tryz.pinned (OpenSpec.ofChange topThreeSpec)

/-- ITS FALSE NEIGHBOUR: 'it returns false'. Refute it at one input. -/
def topThreeWrong : ChangeSpec := { name := "topThree", fn := fun _ => fun
  | [d1, d2, d3] => { results := [.lit (.bool false)], args := [d1, d2, d3] }
  | _ => none }
def TopThreeWrongFalsely : Prop := topThreeRow.holds Tryz.pinned (OpenSpec.ofChange topThreeWrong)

/-- 'askancetop.TopOrders': WHATEVER THE INPUT: true; the input reads as it did. -/
def topOrdersSpec : ChangeSpec := { name := "topOrders", fn := fun _ => fun
  | [d1, d2, d3, d4] => { results := [.lit (.bool true)], args := [d1, d2, d3, d4] }
  | _ => none }
def topOrdersRow : OpenClaim := { program := "ytnhmohbhgocbjaagreatdoor", sum := "782b0f76c11341c2164e3722c8381448a980e2cd3c0e23a1c3b1382edeca5c26", func := "askance/askancetop.TopOrders", spec := "topOrders", inPlace := ["internal/bytealg.IndexByteString", "internal/bytealg.abigen_runtime_cmpstring", "slices.overlaps[askance/api.Table]", "slices.overlaps[askance/api.Index]", "slices.overlaps[string]", "slices.overlaps[askance/api.Page]"], unfollowed := true, recurses := true, named := ["askance/syntax.words", "strconv.ErrSyntax", "strconv.ErrRange", "internal/strconv.uint64pow10", "math/bits.deBruijn32tab", "math/bits.deBruijn64tab"], apart := false, laid := [("math/bits.deBruijn32tab", laid_math_bits_deBruijn32tab), ("math/bits.deBruijn64tab", laid_math_bits_deBruijn64tab), ("internal/strconv.uint64pow10", laid_internal_strconv_uint64pow10), ("strconv.ErrRange", laid_strconv_ErrRange), ("strconv.ErrSyntax", laid_strconv_ErrSyntax), ("askance/syntax.words", laid_askance_syntax_words)] }
def TopOrdersSaid : Prop := topOrdersRow.holds Tryz.pinned (OpenSpec.ofChange topOrdersSpec)

/-- ITS FALSE NEIGHBOUR: 'it returns false'. Refute it at one input. -/
def topOrdersWrong : ChangeSpec := { name := "topOrders", fn := fun _ => fun
  | [d1, d2, d3, d4] => { results := [.lit (.bool false)], args := [d1, d2, d3, d4] }
  | _ => none }
def TopOrdersWrongFalsely : Prop := topOrdersRow.holds Tryz.pinned (OpenSpec.ofChange topOrdersWrong)

/-- 'askancetop.TopRows': WHATEVER THE INPUT: true; the input reads as it did. -/
def topRowsSpec : ChangeSpec := { name := "topRows", fn := fun _ => fun
  | [d] => { results := [.lit (.bool true)], args := [d] }
  | _ => none }
def topRowsRow : OpenClaim := { program := "ytnhmohbhgocbjaagreatdoor", sum := "782b0f76c11341c2164e3722c8381448a980e2cd3c0e23a1c3b1382edeca5c26", func := "askance/askancetop.TopRows", spec := "topRows", inPlace := ["internal/bytealg.IndexByteString", "internal/bytealg.abigen_runtime_cmpstring", "slices.overlaps[askance/api.Table]", "slices.overlaps[askance/api.Index]", "slices.overlaps[string]", "slices.overlaps[askance/api.Page]"], unfollowed := true, recurses := true, named := ["askance/syntax.words", "strconv.ErrSyntax", "strconv.ErrRange", "internal/strconv.uint64pow10", "math/bits.deBruijn32tab", "math/bits.deBruijn64tab"], apart := false, laid := [("math/bits.deBruijn32tab", laid_math_bits_deBruijn32tab), ("math/bits.deBruijn64tab", laid_math_bits_deBruijn64tab), ("internal/strconv.uint64pow10", laid_internal_strconv_uint64pow10), ("strconv.ErrRange", laid_strconv_ErrRange), ("strconv.ErrSyntax", laid_strconv_ErrSyntax), ("askance/syntax.words", laid_askance_syntax_words)] }
def TopRowsSaid : Prop := topRowsRow.holds Tryz.pinned (OpenSpec.ofChange topRowsSpec)

/-- ITS FALSE NEIGHBOUR: 'it returns false'. Refute it at one input. -/
def topRowsWrong : ChangeSpec := { name := "topRows", fn := fun _ => fun
  | [d] => { results := [.lit (.bool false)], args := [d] }
  | _ => none }
def TopRowsWrongFalsely : Prop := topRowsRow.holds Tryz.pinned (OpenSpec.ofChange topRowsWrong)

/-- 'askancetop.TopPlans': WHATEVER THE INPUT: true; the input reads as it did. -/
def topPlansSpec : ChangeSpec := { name := "topPlans", fn := fun _ => fun
  | [d1, d2, d3, d4] => { results := [.lit (.bool true)], args := [d1, d2, d3, d4] }
  | _ => none }
def topPlansRow : OpenClaim := { program := "ytnhmohbhgocbjaagreatdoor", sum := "782b0f76c11341c2164e3722c8381448a980e2cd3c0e23a1c3b1382edeca5c26", func := "askance/askancetop.TopPlans", spec := "topPlans", inPlace := ["internal/bytealg.IndexByteString", "internal/bytealg.abigen_runtime_cmpstring", "slices.overlaps[askance/api.Table]", "slices.overlaps[askance/api.Index]", "slices.overlaps[string]", "slices.overlaps[askance/api.Page]"], unfollowed := true, recurses := true, named := ["askance/syntax.words", "strconv.ErrSyntax", "strconv.ErrRange", "internal/strconv.uint64pow10", "math/bits.deBruijn32tab", "math/bits.deBruijn64tab"], apart := false, laid := [("math/bits.deBruijn32tab", laid_math_bits_deBruijn32tab), ("math/bits.deBruijn64tab", laid_math_bits_deBruijn64tab), ("internal/strconv.uint64pow10", laid_internal_strconv_uint64pow10), ("strconv.ErrRange", laid_strconv_ErrRange), ("strconv.ErrSyntax", laid_strconv_ErrSyntax), ("askance/syntax.words", laid_askance_syntax_words)] }
def TopPlansSaid : Prop := topPlansRow.holds Tryz.pinned (OpenSpec.ofChange topPlansSpec)

/-- ITS FALSE NEIGHBOUR: 'it returns false'. Refute it at one input. -/
def topPlansWrong : ChangeSpec := { name := "topPlans", fn := fun _ => fun
  | [d1, d2, d3, d4] => { results := [.lit (.bool false)], args := [d1, d2, d3, d4] }
  | _ => none }
def TopPlansWrongFalsely : Prop := topPlansRow.holds Tryz.pinned (OpenSpec.ofChange topPlansWrong)

/-- 'askancetop.TopWhole': WHATEVER THE INPUT: true; the input reads as it did. -/
def topWholeSpec : ChangeSpec := { name := "topWhole", fn := fun _ => fun
  | [d] => { results := [.lit (.bool true)], args := [d] }
  | _ => none }
def topWholeRow : OpenClaim := { program := "ytnhmohbhgocbjaagreatdoor", sum := "782b0f76c11341c2164e3722c8381448a980e2cd3c0e23a1c3b1382edeca5c26", func := "askance/askancetop.TopWhole", spec := "topWhole", inPlace := ["internal/bytealg.IndexByteString", "internal/bytealg.abigen_runtime_cmpstring", "slices.overlaps[askance/api.Table]", "slices.overlaps[askance/api.Index]", "slices.overlaps[string]", "slices.overlaps[askance/api.Page]"], unfollowed := true, recurses := true, named := ["askance/syntax.words", "strconv.ErrSyntax", "strconv.ErrRange", "internal/strconv.uint64pow10", "math/bits.deBruijn32tab", "math/bits.deBruijn64tab"], apart := false, laid := [("math/bits.deBruijn32tab", laid_math_bits_deBruijn32tab), ("math/bits.deBruijn64tab", laid_math_bits_deBruijn64tab), ("internal/strconv.uint64pow10", laid_internal_strconv_uint64pow10), ("strconv.ErrRange", laid_strconv_ErrRange), ("strconv.ErrSyntax", laid_strconv_ErrSyntax), ("askance/syntax.words", laid_askance_syntax_words)] }
def TopWholeSaid : Prop := topWholeRow.holds Tryz.pinned (OpenSpec.ofChange topWholeSpec)

/-- ITS FALSE NEIGHBOUR: 'it returns false'. Refute it at one input. -/
def topWholeWrong : ChangeSpec := { name := "topWhole", fn := fun _ => fun
  | [d] => { results := [.lit (.bool false)], args := [d] }
  | _ => none }
def TopWholeWrongFalsely : Prop := topWholeRow.holds Tryz.pinned (OpenSpec.ofChange topWholeWrong)

/-- 'askancetop.TopSteps': WHATEVER THE INPUT: true; the input reads as it did. -/
def topStepsSpec : ChangeSpec := { name := "topSteps", fn := fun _ => fun
  | [d1, d2, d3] => { results := [.lit (.bool true)], args := [d1, d2, d3] }
  | _ => none }
def topStepsRow : OpenClaim := { program := "ytnhmohbhgocbjaagreatdoor", sum := "782b0f76c11341c2164e3722c8381448a980e2cd3c0e23a1c3b1382edeca5c26", func := "askance/askancetop.TopSteps", spec := "topSteps", inPlace := ["internal/bytealg.IndexByteString", "internal/bytealg.abigen_runtime_cmpstring", "slices.overlaps[askance/api.Table]", "slices.overlaps[askance/api.Index]", "slices.overlaps[string]", "slices.overlaps[askance/api.Page]"], unfollowed := true, recurses := true, named := ["askance/syntax.words", "strconv.ErrSyntax", "strconv.ErrRange", "internal/strconv.uint64pow10", "math/bits.deBruijn32tab", "math/bits.deBruijn64tab"], apart := false, laid := [("math/bits.deBruijn32tab", laid_math_bits_deBruijn32tab), ("math/bits.deBruijn64tab", laid_math_bits_deBruijn64tab), ("internal/strconv.uint64pow10", laid_internal_strconv_uint64pow10), ("strconv.ErrRange", laid_strconv_ErrRange), ("strconv.ErrSyntax", laid_strconv_ErrSyntax), ("askance/syntax.words", laid_askance_syntax_words)] }
def TopStepsSaid : Prop := topStepsRow.holds Tryz.pinned (OpenSpec.ofChange topStepsSpec)

/-- ITS FALSE NEIGHBOUR: 'it returns false'. Refute it at one input. -/
def topStepsWrong : ChangeSpec := { name := "topSteps", fn := fun _ => fun
  | [d1, d2, d3] => { results := [.lit (.bool false)], args := [d1, d2, d3] }
  | _ => none }
def TopStepsWrongFalsely : Prop := topStepsRow.holds Tryz.pinned (OpenSpec.ofChange topStepsWrong)

/-- 'askancetop.TopReads': WHATEVER THE INPUT: true; the input reads as it did. -/
def topReadsSpec : ChangeSpec := { name := "topReads", fn := fun _ => fun
  | [d1, d2] => { results := [.lit (.bool true)], args := [d1, d2] }
  | _ => none }
def topReadsRow : OpenClaim := { program := "ytnhmohbhgocbjaagreatdoor", sum := "782b0f76c11341c2164e3722c8381448a980e2cd3c0e23a1c3b1382edeca5c26", func := "askance/askancetop.TopReads", spec := "topReads", inPlace := ["internal/bytealg.IndexByteString", "internal/bytealg.abigen_runtime_cmpstring", "slices.overlaps[askance/api.Table]", "slices.overlaps[askance/api.Index]", "slices.overlaps[string]", "slices.overlaps[askance/api.Page]"], unfollowed := true, recurses := true, named := ["askance/syntax.words", "strconv.ErrSyntax", "strconv.ErrRange", "internal/strconv.uint64pow10", "math/bits.deBruijn32tab", "math/bits.deBruijn64tab"], apart := false, laid := [("math/bits.deBruijn32tab", laid_math_bits_deBruijn32tab), ("math/bits.deBruijn64tab", laid_math_bits_deBruijn64tab), ("internal/strconv.uint64pow10", laid_internal_strconv_uint64pow10), ("strconv.ErrRange", laid_strconv_ErrRange), ("strconv.ErrSyntax", laid_strconv_ErrSyntax), ("askance/syntax.words", laid_askance_syntax_words)] }
def TopReadsSaid : Prop := topReadsRow.holds Tryz.pinned (OpenSpec.ofChange topReadsSpec)

/-- ITS FALSE NEIGHBOUR: 'it returns false'. Refute it at one input. -/
def topReadsWrong : ChangeSpec := { name := "topReads", fn := fun _ => fun
  | [d1, d2] => { results := [.lit (.bool false)], args := [d1, d2] }
  | _ => none }
def TopReadsWrongFalsely : Prop := topReadsRow.holds Tryz.pinned (OpenSpec.ofChange topReadsWrong)

/-- 'askancetop.TopRefused': WHATEVER THE INPUT: true; the input reads as it did. -/
def topRefusedSpec : ChangeSpec := { name := "topRefused", fn := fun _ => fun
  | [d1, d2] => { results := [.lit (.bool true)], args := [d1, d2] }
  | _ => none }
def topRefusedRow : OpenClaim := { program := "ytnhmohbhgocbjaagreatdoor", sum := "782b0f76c11341c2164e3722c8381448a980e2cd3c0e23a1c3b1382edeca5c26", func := "askance/askancetop.TopRefused", spec := "topRefused", inPlace := ["internal/bytealg.IndexByteString", "internal/bytealg.abigen_runtime_cmpstring", "slices.overlaps[askance/api.Table]", "slices.overlaps[askance/api.Index]", "slices.overlaps[string]", "slices.overlaps[askance/api.Page]"], unfollowed := true, recurses := true, named := ["askance/syntax.words", "strconv.ErrSyntax", "strconv.ErrRange", "internal/strconv.uint64pow10", "math/bits.deBruijn32tab", "math/bits.deBruijn64tab"], apart := false, laid := [("math/bits.deBruijn32tab", laid_math_bits_deBruijn32tab), ("math/bits.deBruijn64tab", laid_math_bits_deBruijn64tab), ("internal/strconv.uint64pow10", laid_internal_strconv_uint64pow10), ("strconv.ErrRange", laid_strconv_ErrRange), ("strconv.ErrSyntax", laid_strconv_ErrSyntax), ("askance/syntax.words", laid_askance_syntax_words)] }
def TopRefusedSaid : Prop := topRefusedRow.holds Tryz.pinned (OpenSpec.ofChange topRefusedSpec)

/-- ITS FALSE NEIGHBOUR: 'it returns false'. Refute it at one input. -/
def topRefusedWrong : ChangeSpec := { name := "topRefused", fn := fun _ => fun
  | [d1, d2] => { results := [.lit (.bool false)], args := [d1, d2] }
  | _ => none }
def TopRefusedWrongFalsely : Prop := topRefusedRow.holds Tryz.pinned (OpenSpec.ofChange topRefusedWrong)

/-- 'askancetop.TopRuns': WHATEVER THE INPUT: true; the input reads as it did. -/
def topRunsSpec : ChangeSpec := { name := "topRuns", fn := fun _ => fun
  | [d1, d2] => { results := [.lit (.bool true)], args := [d1, d2] }
  | _ => none }
def topRunsRow : OpenClaim := { program := "ytnhmohbhgocbjaagreatdoor", sum := "782b0f76c11341c2164e3722c8381448a980e2cd3c0e23a1c3b1382edeca5c26", func := "askance/askancetop.TopRuns", spec := "topRuns", inPlace := ["internal/bytealg.IndexByteString", "internal/bytealg.abigen_runtime_cmpstring", "slices.overlaps[askance/api.Table]", "slices.overlaps[askance/api.Index]", "slices.overlaps[string]", "slices.overlaps[askance/api.Page]"], unfollowed := true, recurses := true, named := ["askance/syntax.words", "strconv.ErrSyntax", "strconv.ErrRange", "internal/strconv.uint64pow10", "math/bits.deBruijn32tab", "math/bits.deBruijn64tab"], apart := false, laid := [("math/bits.deBruijn32tab", laid_math_bits_deBruijn32tab), ("math/bits.deBruijn64tab", laid_math_bits_deBruijn64tab), ("internal/strconv.uint64pow10", laid_internal_strconv_uint64pow10), ("strconv.ErrRange", laid_strconv_ErrRange), ("strconv.ErrSyntax", laid_strconv_ErrSyntax), ("askance/syntax.words", laid_askance_syntax_words)] }
def TopRunsSaid : Prop := topRunsRow.holds Tryz.pinned (OpenSpec.ofChange topRunsSpec)

/-- ITS FALSE NEIGHBOUR: 'it returns false'. Refute it at one input. -/
def topRunsWrong : ChangeSpec := { name := "topRuns", fn := fun _ => fun
  | [d1, d2] => { results := [.lit (.bool false)], args := [d1, d2] }
  | _ => none }
def TopRunsWrongFalsely : Prop := topRunsRow.holds Tryz.pinned (OpenSpec.ofChange topRunsWrong)

/-- 'askancetop.TopMemory': WHATEVER THE INPUT: true; the input reads as it did. -/
def topMemorySpec : ChangeSpec := { name := "topMemory", fn := fun _ => fun
  | [d] => { results := [.lit (.bool true)], args := [d] }
  | _ => none }
def topMemoryRow : OpenClaim := { program := "ytnhmohbhgocbjaagreatdoor", sum := "782b0f76c11341c2164e3722c8381448a980e2cd3c0e23a1c3b1382edeca5c26", func := "askance/askancetop.TopMemory", spec := "topMemory", inPlace := ["internal/bytealg.IndexByteString", "internal/bytealg.abigen_runtime_cmpstring", "slices.overlaps[askance/api.Table]", "slices.overlaps[askance/api.Index]", "slices.overlaps[string]", "slices.overlaps[askance/api.Page]"], unfollowed := true, recurses := true, named := ["askance/syntax.words", "strconv.ErrSyntax", "strconv.ErrRange", "internal/strconv.uint64pow10", "math/bits.deBruijn32tab", "math/bits.deBruijn64tab"], apart := false, laid := [("math/bits.deBruijn32tab", laid_math_bits_deBruijn32tab), ("math/bits.deBruijn64tab", laid_math_bits_deBruijn64tab), ("internal/strconv.uint64pow10", laid_internal_strconv_uint64pow10), ("strconv.ErrRange", laid_strconv_ErrRange), ("strconv.ErrSyntax", laid_strconv_ErrSyntax), ("askance/syntax.words", laid_askance_syntax_words)] }
def TopMemorySaid : Prop := topMemoryRow.holds Tryz.pinned (OpenSpec.ofChange topMemorySpec)

/-- ITS FALSE NEIGHBOUR: 'it returns false'. Refute it at one input. -/
def topMemoryWrong : ChangeSpec := { name := "topMemory", fn := fun _ => fun
  | [d] => { results := [.lit (.bool false)], args := [d] }
  | _ => none }
def TopMemoryWrongFalsely : Prop := topMemoryRow.holds Tryz.pinned (OpenSpec.ofChange topMemoryWrong)

/-- 'askancetop.TopEnds': WHATEVER THE INPUT: true; the input reads as it did. -/
def topEndsSpec : ChangeSpec := { name := "topEnds", fn := fun _ => fun
  | [d1, d2] => { results := [.lit (.bool true)], args := [d1, d2] }
  | _ => none }
def topEndsRow : OpenClaim := { program := "ytnhmohbhgocbjaagreatdoor", sum := "782b0f76c11341c2164e3722c8381448a980e2cd3c0e23a1c3b1382edeca5c26", func := "askance/askancetop.TopEnds", spec := "topEnds", inPlace := ["internal/bytealg.IndexByteString", "internal/bytealg.abigen_runtime_cmpstring", "slices.overlaps[askance/api.Table]", "slices.overlaps[askance/api.Index]", "slices.overlaps[string]", "slices.overlaps[askance/api.Page]"], unfollowed := true, recurses := true, named := ["askance/syntax.words", "strconv.ErrSyntax", "strconv.ErrRange", "internal/strconv.uint64pow10", "math/bits.deBruijn32tab", "math/bits.deBruijn64tab"], apart := false, laid := [("math/bits.deBruijn32tab", laid_math_bits_deBruijn32tab), ("math/bits.deBruijn64tab", laid_math_bits_deBruijn64tab), ("internal/strconv.uint64pow10", laid_internal_strconv_uint64pow10), ("strconv.ErrRange", laid_strconv_ErrRange), ("strconv.ErrSyntax", laid_strconv_ErrSyntax), ("askance/syntax.words", laid_askance_syntax_words)] }
def TopEndsSaid : Prop := topEndsRow.holds Tryz.pinned (OpenSpec.ofChange topEndsSpec)

/-- ITS FALSE NEIGHBOUR: 'it returns false'. Refute it at one input. -/
def topEndsWrong : ChangeSpec := { name := "topEnds", fn := fun _ => fun
  | [d1, d2] => { results := [.lit (.bool false)], args := [d1, d2] }
  | _ => none }
def TopEndsWrongFalsely : Prop := topEndsRow.holds Tryz.pinned (OpenSpec.ofChange topEndsWrong)

/-- 'askancetop.TopIndexes': WHATEVER THE INPUT: true; the input reads as it did. -/
def topIndexesSpec : ChangeSpec := { name := "topIndexes", fn := fun _ => fun
  | [d] => { results := [.lit (.bool true)], args := [d] }
  | _ => none }
def topIndexesRow : OpenClaim := { program := "ytnhmohbhgocbjaagreatdoor", sum := "782b0f76c11341c2164e3722c8381448a980e2cd3c0e23a1c3b1382edeca5c26", func := "askance/askancetop.TopIndexes", spec := "topIndexes", inPlace := ["internal/bytealg.IndexByteString", "internal/bytealg.abigen_runtime_cmpstring", "slices.overlaps[askance/api.Table]", "slices.overlaps[askance/api.Index]", "slices.overlaps[string]", "slices.overlaps[askance/api.Page]"], unfollowed := true, recurses := true, named := ["askance/syntax.words", "strconv.ErrSyntax", "strconv.ErrRange", "internal/strconv.uint64pow10", "math/bits.deBruijn32tab", "math/bits.deBruijn64tab"], apart := false, laid := [("math/bits.deBruijn32tab", laid_math_bits_deBruijn32tab), ("math/bits.deBruijn64tab", laid_math_bits_deBruijn64tab), ("internal/strconv.uint64pow10", laid_internal_strconv_uint64pow10), ("strconv.ErrRange", laid_strconv_ErrRange), ("strconv.ErrSyntax", laid_strconv_ErrSyntax), ("askance/syntax.words", laid_askance_syntax_words)] }
def TopIndexesSaid : Prop := topIndexesRow.holds Tryz.pinned (OpenSpec.ofChange topIndexesSpec)

/-- ITS FALSE NEIGHBOUR: 'it returns false'. Refute it at one input. -/
def topIndexesWrong : ChangeSpec := { name := "topIndexes", fn := fun _ => fun
  | [d] => { results := [.lit (.bool false)], args := [d] }
  | _ => none }
def TopIndexesWrongFalsely : Prop := topIndexesRow.holds Tryz.pinned (OpenSpec.ofChange topIndexesWrong)

/- THE SECOND FORM. 'bulk': how many values and letters a reading holds, each counted each time it is reached (what is shared counts as often as it is met; a slice's spare places count too). A statement '..UptoSaid' is the law's where the arguments, and the package variables that the reading takes, are together of bulk at most 1048576: NARROWER than '..Said'. Prove '..Said' where nothing that the law and all that it calls make is longer than what came in: it says more and counts as full. Else prove '..UptoSaid'. A law counts once. -/
mutual
def uptoBulk {H : Type} : DataW H → Nat
  | .lit (.string bytes) => bytes.length + 1
  | .lit _ => 1
  | .nil => 1
  | .ptr d => uptoBulk d + 1
  | .slice elems spare => uptoBulkAll elems + uptoBulkAll spare + 1
  | .agg parts => uptoBulkAll parts + 1
  | .iface _ d => uptoBulk d + 1
  | .map entries => uptoBulkEntries entries + 1
  | .held _ => 1
def uptoBulkAll {H : Type} : List (DataW H) → Nat
  | [] => 0
  | d :: r => uptoBulk d + uptoBulkAll r
def uptoBulkEntries {H : Type} : List (Lit × DataW H) → Nat
  | [] => 0
  | x :: r => uptoBulkEntry x + uptoBulkEntries r
def uptoBulkEntry {H : Type} : Lit × DataW H → Nat
  | (.string bytes, d) => bytes.length + uptoBulk d + 1
  | (_, d) => uptoBulk d + 1
 end
def uptoSmall : (H : Type) → List (DataW H) → Bool := fun _ ds => decide (uptoBulkAll ds ≤ 1048576)
def OpenSpec.upto (s : _root_.Go.ChangeSpec) : _root_.Go.OpenSpec := { _root_.Go.OpenSpec.ofChange s with cond := some uptoSmall }

/-- 'askancetop.TopThree', WHERE WHAT IT READS IS OF BULK AT MOST 1048576: true; the input reads as it did. -/
def topThreeUptoRow : OpenClaim := { program := "ytnhmohbhgocbjaagreatdoor", sum := "782b0f76c11341c2164e3722c8381448a980e2cd3c0e23a1c3b1382edeca5c26", func := "askance/askancetop.TopThree", spec := "topThree", inPlace := ["internal/bytealg.IndexByteString", "internal/bytealg.abigen_runtime_cmpstring", "slices.overlaps[askance/api.Table]", "slices.overlaps[askance/api.Index]", "slices.overlaps[string]", "slices.overlaps[askance/api.Page]"], unfollowed := true, recurses := true, named := ["askance/syntax.words", "strconv.ErrSyntax", "strconv.ErrRange", "internal/strconv.uint64pow10", "math/bits.deBruijn32tab", "math/bits.deBruijn64tab"], apart := false, laid := [("math/bits.deBruijn32tab", laid_math_bits_deBruijn32tab), ("math/bits.deBruijn64tab", laid_math_bits_deBruijn64tab), ("internal/strconv.uint64pow10", laid_internal_strconv_uint64pow10), ("strconv.ErrRange", laid_strconv_ErrRange), ("strconv.ErrSyntax", laid_strconv_ErrSyntax), ("askance/syntax.words", laid_askance_syntax_words)], narrowed := true }
def TopThreeUptoSaid : Prop := topThreeUptoRow.holds Tryz.pinned (OpenSpec.upto topThreeSpec)

/-- 'askancetop.TopOrders', WHERE WHAT IT READS IS OF BULK AT MOST 1048576: true; the input reads as it did. -/
def topOrdersUptoRow : OpenClaim := { program := "ytnhmohbhgocbjaagreatdoor", sum := "782b0f76c11341c2164e3722c8381448a980e2cd3c0e23a1c3b1382edeca5c26", func := "askance/askancetop.TopOrders", spec := "topOrders", inPlace := ["internal/bytealg.IndexByteString", "internal/bytealg.abigen_runtime_cmpstring", "slices.overlaps[askance/api.Table]", "slices.overlaps[askance/api.Index]", "slices.overlaps[string]", "slices.overlaps[askance/api.Page]"], unfollowed := true, recurses := true, named := ["askance/syntax.words", "strconv.ErrSyntax", "strconv.ErrRange", "internal/strconv.uint64pow10", "math/bits.deBruijn32tab", "math/bits.deBruijn64tab"], apart := false, laid := [("math/bits.deBruijn32tab", laid_math_bits_deBruijn32tab), ("math/bits.deBruijn64tab", laid_math_bits_deBruijn64tab), ("internal/strconv.uint64pow10", laid_internal_strconv_uint64pow10), ("strconv.ErrRange", laid_strconv_ErrRange), ("strconv.ErrSyntax", laid_strconv_ErrSyntax), ("askance/syntax.words", laid_askance_syntax_words)], narrowed := true }
def TopOrdersUptoSaid : Prop := topOrdersUptoRow.holds Tryz.pinned (OpenSpec.upto topOrdersSpec)

/-- 'askancetop.TopRows', WHERE WHAT IT READS IS OF BULK AT MOST 1048576: true; the input reads as it did. -/
def topRowsUptoRow : OpenClaim := { program := "ytnhmohbhgocbjaagreatdoor", sum := "782b0f76c11341c2164e3722c8381448a980e2cd3c0e23a1c3b1382edeca5c26", func := "askance/askancetop.TopRows", spec := "topRows", inPlace := ["internal/bytealg.IndexByteString", "internal/bytealg.abigen_runtime_cmpstring", "slices.overlaps[askance/api.Table]", "slices.overlaps[askance/api.Index]", "slices.overlaps[string]", "slices.overlaps[askance/api.Page]"], unfollowed := true, recurses := true, named := ["askance/syntax.words", "strconv.ErrSyntax", "strconv.ErrRange", "internal/strconv.uint64pow10", "math/bits.deBruijn32tab", "math/bits.deBruijn64tab"], apart := false, laid := [("math/bits.deBruijn32tab", laid_math_bits_deBruijn32tab), ("math/bits.deBruijn64tab", laid_math_bits_deBruijn64tab), ("internal/strconv.uint64pow10", laid_internal_strconv_uint64pow10), ("strconv.ErrRange", laid_strconv_ErrRange), ("strconv.ErrSyntax", laid_strconv_ErrSyntax), ("askance/syntax.words", laid_askance_syntax_words)], narrowed := true }
def TopRowsUptoSaid : Prop := topRowsUptoRow.holds Tryz.pinned (OpenSpec.upto topRowsSpec)

/-- 'askancetop.TopPlans', WHERE WHAT IT READS IS OF BULK AT MOST 1048576: true; the input reads as it did. -/
def topPlansUptoRow : OpenClaim := { program := "ytnhmohbhgocbjaagreatdoor", sum := "782b0f76c11341c2164e3722c8381448a980e2cd3c0e23a1c3b1382edeca5c26", func := "askance/askancetop.TopPlans", spec := "topPlans", inPlace := ["internal/bytealg.IndexByteString", "internal/bytealg.abigen_runtime_cmpstring", "slices.overlaps[askance/api.Table]", "slices.overlaps[askance/api.Index]", "slices.overlaps[string]", "slices.overlaps[askance/api.Page]"], unfollowed := true, recurses := true, named := ["askance/syntax.words", "strconv.ErrSyntax", "strconv.ErrRange", "internal/strconv.uint64pow10", "math/bits.deBruijn32tab", "math/bits.deBruijn64tab"], apart := false, laid := [("math/bits.deBruijn32tab", laid_math_bits_deBruijn32tab), ("math/bits.deBruijn64tab", laid_math_bits_deBruijn64tab), ("internal/strconv.uint64pow10", laid_internal_strconv_uint64pow10), ("strconv.ErrRange", laid_strconv_ErrRange), ("strconv.ErrSyntax", laid_strconv_ErrSyntax), ("askance/syntax.words", laid_askance_syntax_words)], narrowed := true }
def TopPlansUptoSaid : Prop := topPlansUptoRow.holds Tryz.pinned (OpenSpec.upto topPlansSpec)

/-- 'askancetop.TopWhole', WHERE WHAT IT READS IS OF BULK AT MOST 1048576: true; the input reads as it did. -/
def topWholeUptoRow : OpenClaim := { program := "ytnhmohbhgocbjaagreatdoor", sum := "782b0f76c11341c2164e3722c8381448a980e2cd3c0e23a1c3b1382edeca5c26", func := "askance/askancetop.TopWhole", spec := "topWhole", inPlace := ["internal/bytealg.IndexByteString", "internal/bytealg.abigen_runtime_cmpstring", "slices.overlaps[askance/api.Table]", "slices.overlaps[askance/api.Index]", "slices.overlaps[string]", "slices.overlaps[askance/api.Page]"], unfollowed := true, recurses := true, named := ["askance/syntax.words", "strconv.ErrSyntax", "strconv.ErrRange", "internal/strconv.uint64pow10", "math/bits.deBruijn32tab", "math/bits.deBruijn64tab"], apart := false, laid := [("math/bits.deBruijn32tab", laid_math_bits_deBruijn32tab), ("math/bits.deBruijn64tab", laid_math_bits_deBruijn64tab), ("internal/strconv.uint64pow10", laid_internal_strconv_uint64pow10), ("strconv.ErrRange", laid_strconv_ErrRange), ("strconv.ErrSyntax", laid_strconv_ErrSyntax), ("askance/syntax.words", laid_askance_syntax_words)], narrowed := true }
def TopWholeUptoSaid : Prop := topWholeUptoRow.holds Tryz.pinned (OpenSpec.upto topWholeSpec)

/-- 'askancetop.TopSteps', WHERE WHAT IT READS IS OF BULK AT MOST 1048576: true; the input reads as it did. -/
def topStepsUptoRow : OpenClaim := { program := "ytnhmohbhgocbjaagreatdoor", sum := "782b0f76c11341c2164e3722c8381448a980e2cd3c0e23a1c3b1382edeca5c26", func := "askance/askancetop.TopSteps", spec := "topSteps", inPlace := ["internal/bytealg.IndexByteString", "internal/bytealg.abigen_runtime_cmpstring", "slices.overlaps[askance/api.Table]", "slices.overlaps[askance/api.Index]", "slices.overlaps[string]", "slices.overlaps[askance/api.Page]"], unfollowed := true, recurses := true, named := ["askance/syntax.words", "strconv.ErrSyntax", "strconv.ErrRange", "internal/strconv.uint64pow10", "math/bits.deBruijn32tab", "math/bits.deBruijn64tab"], apart := false, laid := [("math/bits.deBruijn32tab", laid_math_bits_deBruijn32tab), ("math/bits.deBruijn64tab", laid_math_bits_deBruijn64tab), ("internal/strconv.uint64pow10", laid_internal_strconv_uint64pow10), ("strconv.ErrRange", laid_strconv_ErrRange), ("strconv.ErrSyntax", laid_strconv_ErrSyntax), ("askance/syntax.words", laid_askance_syntax_words)], narrowed := true }
def TopStepsUptoSaid : Prop := topStepsUptoRow.holds Tryz.pinned (OpenSpec.upto topStepsSpec)

/-- 'askancetop.TopReads', WHERE WHAT IT READS IS OF BULK AT MOST 1048576: true; the input reads as it did. -/
def topReadsUptoRow : OpenClaim := { program := "ytnhmohbhgocbjaagreatdoor", sum := "782b0f76c11341c2164e3722c8381448a980e2cd3c0e23a1c3b1382edeca5c26", func := "askance/askancetop.TopReads", spec := "topReads", inPlace := ["internal/bytealg.IndexByteString", "internal/bytealg.abigen_runtime_cmpstring", "slices.overlaps[askance/api.Table]", "slices.overlaps[askance/api.Index]", "slices.overlaps[string]", "slices.overlaps[askance/api.Page]"], unfollowed := true, recurses := true, named := ["askance/syntax.words", "strconv.ErrSyntax", "strconv.ErrRange", "internal/strconv.uint64pow10", "math/bits.deBruijn32tab", "math/bits.deBruijn64tab"], apart := false, laid := [("math/bits.deBruijn32tab", laid_math_bits_deBruijn32tab), ("math/bits.deBruijn64tab", laid_math_bits_deBruijn64tab), ("internal/strconv.uint64pow10", laid_internal_strconv_uint64pow10), ("strconv.ErrRange", laid_strconv_ErrRange), ("strconv.ErrSyntax", laid_strconv_ErrSyntax), ("askance/syntax.words", laid_askance_syntax_words)], narrowed := true }
def TopReadsUptoSaid : Prop := topReadsUptoRow.holds Tryz.pinned (OpenSpec.upto topReadsSpec)

/-- 'askancetop.TopRefused', WHERE WHAT IT READS IS OF BULK AT MOST 1048576: true; the input reads as it did. -/
def topRefusedUptoRow : OpenClaim := { program := "ytnhmohbhgocbjaagreatdoor", sum := "782b0f76c11341c2164e3722c8381448a980e2cd3c0e23a1c3b1382edeca5c26", func := "askance/askancetop.TopRefused", spec := "topRefused", inPlace := ["internal/bytealg.IndexByteString", "internal/bytealg.abigen_runtime_cmpstring", "slices.overlaps[askance/api.Table]", "slices.overlaps[askance/api.Index]", "slices.overlaps[string]", "slices.overlaps[askance/api.Page]"], unfollowed := true, recurses := true, named := ["askance/syntax.words", "strconv.ErrSyntax", "strconv.ErrRange", "internal/strconv.uint64pow10", "math/bits.deBruijn32tab", "math/bits.deBruijn64tab"], apart := false, laid := [("math/bits.deBruijn32tab", laid_math_bits_deBruijn32tab), ("math/bits.deBruijn64tab", laid_math_bits_deBruijn64tab), ("internal/strconv.uint64pow10", laid_internal_strconv_uint64pow10), ("strconv.ErrRange", laid_strconv_ErrRange), ("strconv.ErrSyntax", laid_strconv_ErrSyntax), ("askance/syntax.words", laid_askance_syntax_words)], narrowed := true }
def TopRefusedUptoSaid : Prop := topRefusedUptoRow.holds Tryz.pinned (OpenSpec.upto topRefusedSpec)

/-- 'askancetop.TopRuns', WHERE WHAT IT READS IS OF BULK AT MOST 1048576: true; the input reads as it did. -/
def topRunsUptoRow : OpenClaim := { program := "ytnhmohbhgocbjaagreatdoor", sum := "782b0f76c11341c2164e3722c8381448a980e2cd3c0e23a1c3b1382edeca5c26", func := "askance/askancetop.TopRuns", spec := "topRuns", inPlace := ["internal/bytealg.IndexByteString", "internal/bytealg.abigen_runtime_cmpstring", "slices.overlaps[askance/api.Table]", "slices.overlaps[askance/api.Index]", "slices.overlaps[string]", "slices.overlaps[askance/api.Page]"], unfollowed := true, recurses := true, named := ["askance/syntax.words", "strconv.ErrSyntax", "strconv.ErrRange", "internal/strconv.uint64pow10", "math/bits.deBruijn32tab", "math/bits.deBruijn64tab"], apart := false, laid := [("math/bits.deBruijn32tab", laid_math_bits_deBruijn32tab), ("math/bits.deBruijn64tab", laid_math_bits_deBruijn64tab), ("internal/strconv.uint64pow10", laid_internal_strconv_uint64pow10), ("strconv.ErrRange", laid_strconv_ErrRange), ("strconv.ErrSyntax", laid_strconv_ErrSyntax), ("askance/syntax.words", laid_askance_syntax_words)], narrowed := true }
def TopRunsUptoSaid : Prop := topRunsUptoRow.holds Tryz.pinned (OpenSpec.upto topRunsSpec)

/-- 'askancetop.TopMemory', WHERE WHAT IT READS IS OF BULK AT MOST 1048576: true; the input reads as it did. -/
def topMemoryUptoRow : OpenClaim := { program := "ytnhmohbhgocbjaagreatdoor", sum := "782b0f76c11341c2164e3722c8381448a980e2cd3c0e23a1c3b1382edeca5c26", func := "askance/askancetop.TopMemory", spec := "topMemory", inPlace := ["internal/bytealg.IndexByteString", "internal/bytealg.abigen_runtime_cmpstring", "slices.overlaps[askance/api.Table]", "slices.overlaps[askance/api.Index]", "slices.overlaps[string]", "slices.overlaps[askance/api.Page]"], unfollowed := true, recurses := true, named := ["askance/syntax.words", "strconv.ErrSyntax", "strconv.ErrRange", "internal/strconv.uint64pow10", "math/bits.deBruijn32tab", "math/bits.deBruijn64tab"], apart := false, laid := [("math/bits.deBruijn32tab", laid_math_bits_deBruijn32tab), ("math/bits.deBruijn64tab", laid_math_bits_deBruijn64tab), ("internal/strconv.uint64pow10", laid_internal_strconv_uint64pow10), ("strconv.ErrRange", laid_strconv_ErrRange), ("strconv.ErrSyntax", laid_strconv_ErrSyntax), ("askance/syntax.words", laid_askance_syntax_words)], narrowed := true }
def TopMemoryUptoSaid : Prop := topMemoryUptoRow.holds Tryz.pinned (OpenSpec.upto topMemorySpec)

/-- 'askancetop.TopEnds', WHERE WHAT IT READS IS OF BULK AT MOST 1048576: true; the input reads as it did. -/
def topEndsUptoRow : OpenClaim := { program := "ytnhmohbhgocbjaagreatdoor", sum := "782b0f76c11341c2164e3722c8381448a980e2cd3c0e23a1c3b1382edeca5c26", func := "askance/askancetop.TopEnds", spec := "topEnds", inPlace := ["internal/bytealg.IndexByteString", "internal/bytealg.abigen_runtime_cmpstring", "slices.overlaps[askance/api.Table]", "slices.overlaps[askance/api.Index]", "slices.overlaps[string]", "slices.overlaps[askance/api.Page]"], unfollowed := true, recurses := true, named := ["askance/syntax.words", "strconv.ErrSyntax", "strconv.ErrRange", "internal/strconv.uint64pow10", "math/bits.deBruijn32tab", "math/bits.deBruijn64tab"], apart := false, laid := [("math/bits.deBruijn32tab", laid_math_bits_deBruijn32tab), ("math/bits.deBruijn64tab", laid_math_bits_deBruijn64tab), ("internal/strconv.uint64pow10", laid_internal_strconv_uint64pow10), ("strconv.ErrRange", laid_strconv_ErrRange), ("strconv.ErrSyntax", laid_strconv_ErrSyntax), ("askance/syntax.words", laid_askance_syntax_words)], narrowed := true }
def TopEndsUptoSaid : Prop := topEndsUptoRow.holds Tryz.pinned (OpenSpec.upto topEndsSpec)

/-- 'askancetop.TopIndexes', WHERE WHAT IT READS IS OF BULK AT MOST 1048576: true; the input reads as it did. -/
def topIndexesUptoRow : OpenClaim := { program := "ytnhmohbhgocbjaagreatdoor", sum := "782b0f76c11341c2164e3722c8381448a980e2cd3c0e23a1c3b1382edeca5c26", func := "askance/askancetop.TopIndexes", spec := "topIndexes", inPlace := ["internal/bytealg.IndexByteString", "internal/bytealg.abigen_runtime_cmpstring", "slices.overlaps[askance/api.Table]", "slices.overlaps[askance/api.Index]", "slices.overlaps[string]", "slices.overlaps[askance/api.Page]"], unfollowed := true, recurses := true, named := ["askance/syntax.words", "strconv.ErrSyntax", "strconv.ErrRange", "internal/strconv.uint64pow10", "math/bits.deBruijn32tab", "math/bits.deBruijn64tab"], apart := false, laid := [("math/bits.deBruijn32tab", laid_math_bits_deBruijn32tab), ("math/bits.deBruijn64tab", laid_math_bits_deBruijn64tab), ("internal/strconv.uint64pow10", laid_internal_strconv_uint64pow10), ("strconv.ErrRange", laid_strconv_ErrRange), ("strconv.ErrSyntax", laid_strconv_ErrSyntax), ("askance/syntax.words", laid_askance_syntax_words)], narrowed := true }
def TopIndexesUptoSaid : Prop := topIndexesUptoRow.holds Tryz.pinned (OpenSpec.upto topIndexesSpec)

end Rows
end Go.Proofs.YtnhmohbhgocbjaaGreatDoor
