/-
  NARROWER THAN 'FOR EVERY INPUT', by the rows' own cells (each row's printed sentence says how): EvalThree: loops.
  DERIVED. THE GIVEN ROWS OF THIS SEAT. 9 by the template 'for every input the law returns true; each argument reads behind the call as it read before'; 0 by the template 'total and deterministic' (their statements: YtanlhpdjgelehaaTotals.lean).
  GIVEN WITH THE SEED: the statements are not yours to turn. If you find one false, say at which input.
  Laid BY PROGRAM, IN A SANDBOX (cutbox-rows.mjs): the forced cells as the released guide's own fill.sh prints them over the translation a1c1e9084c5c5b7e… (all of the seat's roots in one cut). By AI agents, Wed Nov 11 2026. No macro, syntax, notation, axiom, sorry.
-/
import Derived.Test.YtanlhpdjgelehaaChecked
import GoSem.Claim
import GoSem.ClaimJoined
import GoSem.ClaimMapViews
import Derived.JoinedTies
import Derived.KernelRfl
namespace Go.Proofs.Ytanlhpdjgelehaa
/- THE CELL 'sum', in the pinned program and in every row, IS THE sha256 OF THE DUMP (.gsa) THAT YtanlhpdjgelehaaProg.lean LOADS. Nothing in Lean hashes anything: it is a label: what it is worth is what the hold of that sum in a sandbox is worth. -/
noncomputable def Try.pinned : Pinned := { name := "ytanlhpdjgelehaa", sum := "a1c1e9084c5c5b7ee4c1268c9d519ed3055fa2f8a3490b056458b09a004bb102", checked := Try.checked }
namespace Rows
def none {H : Type} : Left H := { results := [], args := [] }

/-- 'askancelaw.Names': WHATEVER THE INPUT: true; the input reads as it did. -/
def namesSpec : ChangeSpec := { name := "names", fn := fun _ => fun
  | [] => { results := [.lit (.bool true)], args := [] }
  | _ => none }
def namesRow : OpenClaim := { program := "ytanlhpdjgelehaa", sum := "a1c1e9084c5c5b7ee4c1268c9d519ed3055fa2f8a3490b056458b09a004bb102", func := "askance/askancelaw.Names", spec := "names", apart := false }
def NamesSaid : Prop := namesRow.holds Try.pinned (OpenSpec.ofChange namesSpec)

/-- ITS FALSE NEIGHBOUR: 'it returns false'. Refute it at one input. -/
def namesWrong : ChangeSpec := { name := "names", fn := fun _ => fun
  | [] => { results := [.lit (.bool false)], args := [] }
  | _ => none }
def NamesWrongFalsely : Prop := namesRow.holds Try.pinned (OpenSpec.ofChange namesWrong)

/-- 'askancekeep.ValueBack': WHATEVER THE INPUT: true; the input reads as it did. -/
def valueBackSpec : ChangeSpec := { name := "valueBack", fn := fun _ => fun
  | [d1, d2] => { results := [.lit (.bool true)], args := [d1, d2] }
  | _ => none }
def valueBackRow : OpenClaim := { program := "ytanlhpdjgelehaa", sum := "a1c1e9084c5c5b7ee4c1268c9d519ed3055fa2f8a3490b056458b09a004bb102", func := "askance/askancekeep.ValueBack", spec := "valueBack", apart := false }
def ValueBackSaid : Prop := valueBackRow.holds Try.pinned (OpenSpec.ofChange valueBackSpec)

/-- ITS FALSE NEIGHBOUR: 'it returns false'. Refute it at one input. -/
def valueBackWrong : ChangeSpec := { name := "valueBack", fn := fun _ => fun
  | [d1, d2] => { results := [.lit (.bool false)], args := [d1, d2] }
  | _ => none }
def ValueBackWrongFalsely : Prop := valueBackRow.holds Try.pinned (OpenSpec.ofChange valueBackWrong)

/-- 'askancelaw.ValueKeys': WHATEVER THE INPUT: true; the input reads as it did. -/
def valueKeysSpec : ChangeSpec := { name := "valueKeys", fn := fun _ => fun
  | [d1, d2] => { results := [.lit (.bool true)], args := [d1, d2] }
  | _ => none }
def valueKeysRow : OpenClaim := { program := "ytanlhpdjgelehaa", sum := "a1c1e9084c5c5b7ee4c1268c9d519ed3055fa2f8a3490b056458b09a004bb102", func := "askance/askancelaw.ValueKeys", spec := "valueKeys", inPlace := ["internal/bytealg.IndexByteString"], apart := false }
def ValueKeysSaid : Prop := valueKeysRow.holds Try.pinned (OpenSpec.ofChange valueKeysSpec)

/-- ITS FALSE NEIGHBOUR: 'it returns false'. Refute it at one input. -/
def valueKeysWrong : ChangeSpec := { name := "valueKeys", fn := fun _ => fun
  | [d1, d2] => { results := [.lit (.bool false)], args := [d1, d2] }
  | _ => none }
def ValueKeysWrongFalsely : Prop := valueKeysRow.holds Try.pinned (OpenSpec.ofChange valueKeysWrong)

/-- 'askancekeep.ValueTruths': WHATEVER THE INPUT: true; the input reads as it did. -/
def valueTruthsSpec : ChangeSpec := { name := "valueTruths", fn := fun _ => fun
  | [d1, d2, d3] => { results := [.lit (.bool true)], args := [d1, d2, d3] }
  | _ => none }
def valueTruthsRow : OpenClaim := { program := "ytanlhpdjgelehaa", sum := "a1c1e9084c5c5b7ee4c1268c9d519ed3055fa2f8a3490b056458b09a004bb102", func := "askance/askancekeep.ValueTruths", spec := "valueTruths", apart := false }
def ValueTruthsSaid : Prop := valueTruthsRow.holds Try.pinned (OpenSpec.ofChange valueTruthsSpec)

/-- ITS FALSE NEIGHBOUR: 'it returns false'. Refute it at one input. -/
def valueTruthsWrong : ChangeSpec := { name := "valueTruths", fn := fun _ => fun
  | [d1, d2, d3] => { results := [.lit (.bool false)], args := [d1, d2, d3] }
  | _ => none }
def ValueTruthsWrongFalsely : Prop := valueTruthsRow.holds Try.pinned (OpenSpec.ofChange valueTruthsWrong)

/-- 'askancekeep.ValueOrder': WHATEVER THE INPUT: true; the input reads as it did. -/
def valueOrderSpec : ChangeSpec := { name := "valueOrder", fn := fun _ => fun
  | [d1, d2] => { results := [.lit (.bool true)], args := [d1, d2] }
  | _ => none }
def valueOrderRow : OpenClaim := { program := "ytanlhpdjgelehaa", sum := "a1c1e9084c5c5b7ee4c1268c9d519ed3055fa2f8a3490b056458b09a004bb102", func := "askance/askancekeep.ValueOrder", spec := "valueOrder", apart := false }
def ValueOrderSaid : Prop := valueOrderRow.holds Try.pinned (OpenSpec.ofChange valueOrderSpec)

/-- ITS FALSE NEIGHBOUR: 'it returns false'. Refute it at one input. -/
def valueOrderWrong : ChangeSpec := { name := "valueOrder", fn := fun _ => fun
  | [d1, d2] => { results := [.lit (.bool false)], args := [d1, d2] }
  | _ => none }
def ValueOrderWrongFalsely : Prop := valueOrderRow.holds Try.pinned (OpenSpec.ofChange valueOrderWrong)

/-- 'askancekeep.EvalThree': WHATEVER THE INPUT: true; the input reads as it did. -/
def evalThreeSpec : ChangeSpec := { name := "evalThree", fn := fun _ => fun
  | [d1, d2] => { results := [.lit (.bool true)], args := [d1, d2] }
  | _ => none }
def evalThreeRow : OpenClaim := { program := "ytanlhpdjgelehaa", sum := "a1c1e9084c5c5b7ee4c1268c9d519ed3055fa2f8a3490b056458b09a004bb102", func := "askance/askancekeep.EvalThree", spec := "evalThree", recurses := true, loops := true, apart := false }
def EvalThreeSaid : Prop := evalThreeRow.holds Try.pinned (OpenSpec.ofChange evalThreeSpec)

/-- ITS FALSE NEIGHBOUR: 'it returns false'. Refute it at one input. -/
def evalThreeWrong : ChangeSpec := { name := "evalThree", fn := fun _ => fun
  | [d1, d2] => { results := [.lit (.bool false)], args := [d1, d2] }
  | _ => none }
def EvalThreeWrongFalsely : Prop := evalThreeRow.holds Try.pinned (OpenSpec.ofChange evalThreeWrong)

/-- 'askancekeep.TreeRanges': WHATEVER THE INPUT: true; the input reads as it did. -/
def treeRangesSpec : ChangeSpec := { name := "treeRanges", fn := fun _ => fun
  | [d1, d2, d3, d4] => { results := [.lit (.bool true)], args := [d1, d2, d3, d4] }
  | _ => none }
def treeRangesRow : OpenClaim := { program := "ytanlhpdjgelehaa", sum := "a1c1e9084c5c5b7ee4c1268c9d519ed3055fa2f8a3490b056458b09a004bb102", func := "askance/askancekeep.TreeRanges", spec := "treeRanges", inPlace := ["slices.overlaps[string]", "slices.overlaps[askance/api.Page]"], apart := false }
def TreeRangesSaid : Prop := treeRangesRow.holds Try.pinned (OpenSpec.ofChange treeRangesSpec)

/-- ITS FALSE NEIGHBOUR: 'it returns false'. Refute it at one input. -/
def treeRangesWrong : ChangeSpec := { name := "treeRanges", fn := fun _ => fun
  | [d1, d2, d3, d4] => { results := [.lit (.bool false)], args := [d1, d2, d3, d4] }
  | _ => none }
def TreeRangesWrongFalsely : Prop := treeRangesRow.holds Try.pinned (OpenSpec.ofChange treeRangesWrong)

/-- 'askancekeep.TreeKeeps': WHATEVER THE INPUT: true; the input reads as it did. -/
def treeKeepsSpec : ChangeSpec := { name := "treeKeeps", fn := fun _ => fun
  | [d1, d2, d3, d4] => { results := [.lit (.bool true)], args := [d1, d2, d3, d4] }
  | _ => none }
def treeKeepsRow : OpenClaim := { program := "ytanlhpdjgelehaa", sum := "a1c1e9084c5c5b7ee4c1268c9d519ed3055fa2f8a3490b056458b09a004bb102", func := "askance/askancekeep.TreeKeeps", spec := "treeKeeps", inPlace := ["slices.overlaps[string]", "slices.overlaps[askance/api.Page]"], apart := false }
def TreeKeepsSaid : Prop := treeKeepsRow.holds Try.pinned (OpenSpec.ofChange treeKeepsSpec)

/-- ITS FALSE NEIGHBOUR: 'it returns false'. Refute it at one input. -/
def treeKeepsWrong : ChangeSpec := { name := "treeKeeps", fn := fun _ => fun
  | [d1, d2, d3, d4] => { results := [.lit (.bool false)], args := [d1, d2, d3, d4] }
  | _ => none }
def TreeKeepsWrongFalsely : Prop := treeKeepsRow.holds Try.pinned (OpenSpec.ofChange treeKeepsWrong)

/-- 'askancelaw.TreeDoes': WHATEVER THE INPUT: true; the input reads as it did. -/
def treeDoesSpec : ChangeSpec := { name := "treeDoes", fn := fun _ => fun
  | [d1, d2, d3, d4] => { results := [.lit (.bool true)], args := [d1, d2, d3, d4] }
  | _ => none }
def treeDoesRow : OpenClaim := { program := "ytanlhpdjgelehaa", sum := "a1c1e9084c5c5b7ee4c1268c9d519ed3055fa2f8a3490b056458b09a004bb102", func := "askance/askancelaw.TreeDoes", spec := "treeDoes", inPlace := ["slices.overlaps[string]", "slices.overlaps[askance/api.Page]"], apart := false }
def TreeDoesSaid : Prop := treeDoesRow.holds Try.pinned (OpenSpec.ofChange treeDoesSpec)

/-- ITS FALSE NEIGHBOUR: 'it returns false'. Refute it at one input. -/
def treeDoesWrong : ChangeSpec := { name := "treeDoes", fn := fun _ => fun
  | [d1, d2, d3, d4] => { results := [.lit (.bool false)], args := [d1, d2, d3, d4] }
  | _ => none }
def TreeDoesWrongFalsely : Prop := treeDoesRow.holds Try.pinned (OpenSpec.ofChange treeDoesWrong)

/- THE SECOND FORM. 'bulk': how many values and letters a reading holds, each counted each time it is reached (what is shared counts as often as it is met; a slice's spare places count too). A statement '..UptoSaid' is the law's where the arguments, and the package variables that the reading takes, are together of bulk at most 1048576: NARROWER than '..Said'. Prove '..Said' where nothing that the law and all that it calls make is longer than what came in: it says more and counts as full. Else prove '..UptoSaid'. A law counts once. -/
mutual
def uptoBulk {H : Type} : DataW H → Nat
  | .lit (.string bytes) => bytes.length + 1
  | .lit _ => 1
  | .nil => 1
  | .ptr d => uptoBulk d + 1
  | .slice elems spare => uptoBulkAll elems + uptoBulkAll spare + 1
  | .agg parts => uptoBulkAll parts + 1
  | .iface _ d => uptoBulk d + 1
  | .map entries => uptoBulkEntries entries + 1
  | .held _ => 1
def uptoBulkAll {H : Type} : List (DataW H) → Nat
  | [] => 0
  | d :: r => uptoBulk d + uptoBulkAll r
def uptoBulkEntries {H : Type} : List (Lit × DataW H) → Nat
  | [] => 0
  | x :: r => uptoBulkEntry x + uptoBulkEntries r
def uptoBulkEntry {H : Type} : Lit × DataW H → Nat
  | (.string bytes, d) => bytes.length + uptoBulk d + 1
  | (_, d) => uptoBulk d + 1
 end
def uptoSmall : (H : Type) → List (DataW H) → Bool := fun _ ds => decide (uptoBulkAll ds ≤ 1048576)
def OpenSpec.upto (s : _root_.Go.ChangeSpec) : _root_.Go.OpenSpec := { _root_.Go.OpenSpec.ofChange s with cond := some uptoSmall }

/-- 'askancelaw.Names', WHERE WHAT IT READS IS OF BULK AT MOST 1048576: true; the input reads as it did. -/
def namesUptoRow : OpenClaim := { program := "ytanlhpdjgelehaa", sum := "a1c1e9084c5c5b7ee4c1268c9d519ed3055fa2f8a3490b056458b09a004bb102", func := "askance/askancelaw.Names", spec := "names", apart := false, narrowed := true }
def NamesUptoSaid : Prop := namesUptoRow.holds Try.pinned (OpenSpec.upto namesSpec)

/-- 'askancekeep.ValueBack', WHERE WHAT IT READS IS OF BULK AT MOST 1048576: true; the input reads as it did. -/
def valueBackUptoRow : OpenClaim := { program := "ytanlhpdjgelehaa", sum := "a1c1e9084c5c5b7ee4c1268c9d519ed3055fa2f8a3490b056458b09a004bb102", func := "askance/askancekeep.ValueBack", spec := "valueBack", apart := false, narrowed := true }
def ValueBackUptoSaid : Prop := valueBackUptoRow.holds Try.pinned (OpenSpec.upto valueBackSpec)

/-- 'askancelaw.ValueKeys', WHERE WHAT IT READS IS OF BULK AT MOST 1048576: true; the input reads as it did. -/
def valueKeysUptoRow : OpenClaim := { program := "ytanlhpdjgelehaa", sum := "a1c1e9084c5c5b7ee4c1268c9d519ed3055fa2f8a3490b056458b09a004bb102", func := "askance/askancelaw.ValueKeys", spec := "valueKeys", inPlace := ["internal/bytealg.IndexByteString"], apart := false, narrowed := true }
def ValueKeysUptoSaid : Prop := valueKeysUptoRow.holds Try.pinned (OpenSpec.upto valueKeysSpec)

/-- 'askancekeep.ValueTruths', WHERE WHAT IT READS IS OF BULK AT MOST 1048576: true; the input reads as it did. -/
def valueTruthsUptoRow : OpenClaim := { program := "ytanlhpdjgelehaa", sum := "a1c1e9084c5c5b7ee4c1268c9d519ed3055fa2f8a3490b056458b09a004bb102", func := "askance/askancekeep.ValueTruths", spec := "valueTruths", apart := false, narrowed := true }
def ValueTruthsUptoSaid : Prop := valueTruthsUptoRow.holds Try.pinned (OpenSpec.upto valueTruthsSpec)

/-- 'askancekeep.ValueOrder', WHERE WHAT IT READS IS OF BULK AT MOST 1048576: true; the input reads as it did. -/
def valueOrderUptoRow : OpenClaim := { program := "ytanlhpdjgelehaa", sum := "a1c1e9084c5c5b7ee4c1268c9d519ed3055fa2f8a3490b056458b09a004bb102", func := "askance/askancekeep.ValueOrder", spec := "valueOrder", apart := false, narrowed := true }
def ValueOrderUptoSaid : Prop := valueOrderUptoRow.holds Try.pinned (OpenSpec.upto valueOrderSpec)

/-- 'askancekeep.EvalThree', WHERE WHAT IT READS IS OF BULK AT MOST 1048576: true; the input reads as it did. -/
def evalThreeUptoRow : OpenClaim := { program := "ytanlhpdjgelehaa", sum := "a1c1e9084c5c5b7ee4c1268c9d519ed3055fa2f8a3490b056458b09a004bb102", func := "askance/askancekeep.EvalThree", spec := "evalThree", recurses := true, loops := true, apart := false, narrowed := true }
def EvalThreeUptoSaid : Prop := evalThreeUptoRow.holds Try.pinned (OpenSpec.upto evalThreeSpec)

/-- 'askancekeep.TreeRanges', WHERE WHAT IT READS IS OF BULK AT MOST 1048576: true; the input reads as it did. -/
def treeRangesUptoRow : OpenClaim := { program := "ytanlhpdjgelehaa", sum := "a1c1e9084c5c5b7ee4c1268c9d519ed3055fa2f8a3490b056458b09a004bb102", func := "askance/askancekeep.TreeRanges", spec := "treeRanges", inPlace := ["slices.overlaps[string]", "slices.overlaps[askance/api.Page]"], apart := false, narrowed := true }
def TreeRangesUptoSaid : Prop := treeRangesUptoRow.holds Try.pinned (OpenSpec.upto treeRangesSpec)

/-- 'askancekeep.TreeKeeps', WHERE WHAT IT READS IS OF BULK AT MOST 1048576: true; the input reads as it did. -/
def treeKeepsUptoRow : OpenClaim := { program := "ytanlhpdjgelehaa", sum := "a1c1e9084c5c5b7ee4c1268c9d519ed3055fa2f8a3490b056458b09a004bb102", func := "askance/askancekeep.TreeKeeps", spec := "treeKeeps", inPlace := ["slices.overlaps[string]", "slices.overlaps[askance/api.Page]"], apart := false, narrowed := true }
def TreeKeepsUptoSaid : Prop := treeKeepsUptoRow.holds Try.pinned (OpenSpec.upto treeKeepsSpec)

/-- 'askancelaw.TreeDoes', WHERE WHAT IT READS IS OF BULK AT MOST 1048576: true; the input reads as it did. -/
def treeDoesUptoRow : OpenClaim := { program := "ytanlhpdjgelehaa", sum := "a1c1e9084c5c5b7ee4c1268c9d519ed3055fa2f8a3490b056458b09a004bb102", func := "askance/askancelaw.TreeDoes", spec := "treeDoes", inPlace := ["slices.overlaps[string]", "slices.overlaps[askance/api.Page]"], apart := false, narrowed := true }
def TreeDoesUptoSaid : Prop := treeDoesUptoRow.holds Try.pinned (OpenSpec.upto treeDoesSpec)

end Rows
end Go.Proofs.Ytanlhpdjgelehaa
