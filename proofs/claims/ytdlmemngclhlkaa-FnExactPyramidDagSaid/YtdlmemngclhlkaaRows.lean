/-
  No cell of these rows narrows 'for every input' (looked for: loops, veiled, ifaces, maps, wideKeys, modest, calm, conditions, laid).
  DERIVED. THE GIVEN ROWS OF THIS SEAT. 12 by the template 'for every input the law returns true; each argument reads behind the call as it read before'; 0 by the template 'total and deterministic' (their statements: YtdlmemngclhlkaaTotals.lean).
  GIVEN WITH THE SEED: the statements are not yours to turn. If you find one false, say at which input.
  Laid BY PROGRAM, IN A SANDBOX (cutbox-rows.mjs): the forced cells as the released guide's own fill.sh prints them over the translation 5023ec10c6cbec64… (all of the seat's roots in one cut). By AI agents, Wed Nov 11 2026. No macro, syntax, notation, axiom, sorry.
-/
import Derived.Test.YtdlmemngclhlkaaChecked
import GoSem.Claim
import GoSem.ClaimJoined
import GoSem.ClaimMapViews
import Derived.JoinedTies
import Derived.KernelRfl
namespace Go.Proofs.Ytdlmemngclhlkaa
/- THE CELL 'sum', in the pinned program and in every row, IS THE sha256 OF THE DUMP (.gsa) THAT YtdlmemngclhlkaaProg.lean LOADS. Nothing in Lean hashes anything: it is a label: what it is worth is what the hold of that sum in a sandbox is worth. -/
noncomputable def Try.pinned : Pinned := { name := "ytdlmemngclhlkaa", sum := "5023ec10c6cbec64ebb9dc99a02c3cb24bb35b212facb74118106873085e705a", checked := Try.checked }
namespace Rows
def none {H : Type} : Left H := { results := [], args := [] }

/-- 'laws.FnExactPigeonVariable': WHATEVER THE INPUT: true; the input reads as it did. -/
def fnExactPigeonVariableSpec : ChangeSpec := { name := "fnExactPigeonVariable", fn := fun _ => fun
  | [d1, d2, d3] => { results := [.lit (.bool true)], args := [d1, d2, d3] }
  | _ => none }
def fnExactPigeonVariableRow : OpenClaim := { program := "ytdlmemngclhlkaa", sum := "5023ec10c6cbec64ebb9dc99a02c3cb24bb35b212facb74118106873085e705a", func := "loop.example/g01080/laws.FnExactPigeonVariable", spec := "fnExactPigeonVariable", apart := false }
def FnExactPigeonVariableSaid : Prop := fnExactPigeonVariableRow.holds Try.pinned (OpenSpec.ofChange fnExactPigeonVariableSpec)

/-- ITS FALSE NEIGHBOUR: 'it returns false'. Refute it at one input. -/
def fnExactPigeonVariableWrong : ChangeSpec := { name := "fnExactPigeonVariable", fn := fun _ => fun
  | [d1, d2, d3] => { results := [.lit (.bool false)], args := [d1, d2, d3] }
  | _ => none }
def FnExactPigeonVariableWrongFalsely : Prop := fnExactPigeonVariableRow.holds Try.pinned (OpenSpec.ofChange fnExactPigeonVariableWrong)

/-- 'laws.FnExactLeafBound': WHATEVER THE INPUT: true; the input reads as it did. -/
def fnExactLeafBoundSpec : ChangeSpec := { name := "fnExactLeafBound", fn := fun _ => fun
  | [d1, d2] => { results := [.lit (.bool true)], args := [d1, d2] }
  | _ => none }
def fnExactLeafBoundRow : OpenClaim := { program := "ytdlmemngclhlkaa", sum := "5023ec10c6cbec64ebb9dc99a02c3cb24bb35b212facb74118106873085e705a", func := "loop.example/g01080/laws.FnExactLeafBound", spec := "fnExactLeafBound", apart := false }
def FnExactLeafBoundSaid : Prop := fnExactLeafBoundRow.holds Try.pinned (OpenSpec.ofChange fnExactLeafBoundSpec)

/-- ITS FALSE NEIGHBOUR: 'it returns false'. Refute it at one input. -/
def fnExactLeafBoundWrong : ChangeSpec := { name := "fnExactLeafBound", fn := fun _ => fun
  | [d1, d2] => { results := [.lit (.bool false)], args := [d1, d2] }
  | _ => none }
def FnExactLeafBoundWrongFalsely : Prop := fnExactLeafBoundRow.holds Try.pinned (OpenSpec.ofChange fnExactLeafBoundWrong)

/-- 'laws.FnExactHolePlane': WHATEVER THE INPUT: true; the input reads as it did. -/
def fnExactHolePlaneSpec : ChangeSpec := { name := "fnExactHolePlane", fn := fun _ => fun
  | [d1, d2, d3] => { results := [.lit (.bool true)], args := [d1, d2, d3] }
  | _ => none }
def fnExactHolePlaneRow : OpenClaim := { program := "ytdlmemngclhlkaa", sum := "5023ec10c6cbec64ebb9dc99a02c3cb24bb35b212facb74118106873085e705a", func := "loop.example/g01080/laws.FnExactHolePlane", spec := "fnExactHolePlane", apart := false }
def FnExactHolePlaneSaid : Prop := fnExactHolePlaneRow.holds Try.pinned (OpenSpec.ofChange fnExactHolePlaneSpec)

/-- ITS FALSE NEIGHBOUR: 'it returns false'. Refute it at one input. -/
def fnExactHolePlaneWrong : ChangeSpec := { name := "fnExactHolePlane", fn := fun _ => fun
  | [d1, d2, d3] => { results := [.lit (.bool false)], args := [d1, d2, d3] }
  | _ => none }
def FnExactHolePlaneWrongFalsely : Prop := fnExactHolePlaneRow.holds Try.pinned (OpenSpec.ofChange fnExactHolePlaneWrong)

/-- 'laws.FnExactIsInequality': WHATEVER THE INPUT: true; the input reads as it did. -/
def fnExactIsInequalitySpec : ChangeSpec := { name := "fnExactIsInequality", fn := fun _ => fun
  | [d1, d2] => { results := [.lit (.bool true)], args := [d1, d2] }
  | _ => none }
def fnExactIsInequalityRow : OpenClaim := { program := "ytdlmemngclhlkaa", sum := "5023ec10c6cbec64ebb9dc99a02c3cb24bb35b212facb74118106873085e705a", func := "loop.example/g01080/laws.FnExactIsInequality", spec := "fnExactIsInequality", unfollowed := true, recurses := true, apart := false }
def FnExactIsInequalitySaid : Prop := fnExactIsInequalityRow.holds Try.pinned (OpenSpec.ofChange fnExactIsInequalitySpec)

/-- ITS FALSE NEIGHBOUR: 'it returns false'. Refute it at one input. -/
def fnExactIsInequalityWrong : ChangeSpec := { name := "fnExactIsInequality", fn := fun _ => fun
  | [d1, d2] => { results := [.lit (.bool false)], args := [d1, d2] }
  | _ => none }
def FnExactIsInequalityWrongFalsely : Prop := fnExactIsInequalityRow.holds Try.pinned (OpenSpec.ofChange fnExactIsInequalityWrong)

/-- 'laws.FnExactAssignmentOfCode': WHATEVER THE INPUT: true; the input reads as it did. -/
def fnExactAssignmentOfCodeSpec : ChangeSpec := { name := "fnExactAssignmentOfCode", fn := fun _ => fun
  | [d1, d2] => { results := [.lit (.bool true)], args := [d1, d2] }
  | _ => none }
def fnExactAssignmentOfCodeRow : OpenClaim := { program := "ytdlmemngclhlkaa", sum := "5023ec10c6cbec64ebb9dc99a02c3cb24bb35b212facb74118106873085e705a", func := "loop.example/g01080/laws.FnExactAssignmentOfCode", spec := "fnExactAssignmentOfCode", apart := false }
def FnExactAssignmentOfCodeSaid : Prop := fnExactAssignmentOfCodeRow.holds Try.pinned (OpenSpec.ofChange fnExactAssignmentOfCodeSpec)

/-- ITS FALSE NEIGHBOUR: 'it returns false'. Refute it at one input. -/
def fnExactAssignmentOfCodeWrong : ChangeSpec := { name := "fnExactAssignmentOfCode", fn := fun _ => fun
  | [d1, d2] => { results := [.lit (.bool false)], args := [d1, d2] }
  | _ => none }
def FnExactAssignmentOfCodeWrongFalsely : Prop := fnExactAssignmentOfCodeRow.holds Try.pinned (OpenSpec.ofChange fnExactAssignmentOfCodeWrong)

/-- 'laws.FnExactPlaneOfLiteral': WHATEVER THE INPUT: true; the input reads as it did. -/
def fnExactPlaneOfLiteralSpec : ChangeSpec := { name := "fnExactPlaneOfLiteral", fn := fun _ => fun
  | [d1, d2] => { results := [.lit (.bool true)], args := [d1, d2] }
  | _ => none }
def fnExactPlaneOfLiteralRow : OpenClaim := { program := "ytdlmemngclhlkaa", sum := "5023ec10c6cbec64ebb9dc99a02c3cb24bb35b212facb74118106873085e705a", func := "loop.example/g01080/laws.FnExactPlaneOfLiteral", spec := "fnExactPlaneOfLiteral", apart := false }
def FnExactPlaneOfLiteralSaid : Prop := fnExactPlaneOfLiteralRow.holds Try.pinned (OpenSpec.ofChange fnExactPlaneOfLiteralSpec)

/-- ITS FALSE NEIGHBOUR: 'it returns false'. Refute it at one input. -/
def fnExactPlaneOfLiteralWrong : ChangeSpec := { name := "fnExactPlaneOfLiteral", fn := fun _ => fun
  | [d1, d2] => { results := [.lit (.bool false)], args := [d1, d2] }
  | _ => none }
def FnExactPlaneOfLiteralWrongFalsely : Prop := fnExactPlaneOfLiteralRow.holds Try.pinned (OpenSpec.ofChange fnExactPlaneOfLiteralWrong)

/-- 'laws.FnExactPathDag': WHATEVER THE INPUT: true; the input reads as it did. -/
def fnExactPathDagSpec : ChangeSpec := { name := "fnExactPathDag", fn := fun _ => fun
  | [d] => { results := [.lit (.bool true)], args := [d] }
  | _ => none }
def fnExactPathDagRow : OpenClaim := { program := "ytdlmemngclhlkaa", sum := "5023ec10c6cbec64ebb9dc99a02c3cb24bb35b212facb74118106873085e705a", func := "loop.example/g01080/laws.FnExactPathDag", spec := "fnExactPathDag", apart := false }
def FnExactPathDagSaid : Prop := fnExactPathDagRow.holds Try.pinned (OpenSpec.ofChange fnExactPathDagSpec)

/-- ITS FALSE NEIGHBOUR: 'it returns false'. Refute it at one input. -/
def fnExactPathDagWrong : ChangeSpec := { name := "fnExactPathDag", fn := fun _ => fun
  | [d] => { results := [.lit (.bool false)], args := [d] }
  | _ => none }
def FnExactPathDagWrongFalsely : Prop := fnExactPathDagRow.holds Try.pinned (OpenSpec.ofChange fnExactPathDagWrong)

/-- 'laws.FnExactIsDag': WHATEVER THE INPUT: true; the input reads as it did. -/
def fnExactIsDagSpec : ChangeSpec := { name := "fnExactIsDag", fn := fun _ => fun
  | [d] => { results := [.lit (.bool true)], args := [d] }
  | _ => none }
def fnExactIsDagRow : OpenClaim := { program := "ytdlmemngclhlkaa", sum := "5023ec10c6cbec64ebb9dc99a02c3cb24bb35b212facb74118106873085e705a", func := "loop.example/g01080/laws.FnExactIsDag", spec := "fnExactIsDag", apart := false }
def FnExactIsDagSaid : Prop := fnExactIsDagRow.holds Try.pinned (OpenSpec.ofChange fnExactIsDagSpec)

/-- ITS FALSE NEIGHBOUR: 'it returns false'. Refute it at one input. -/
def fnExactIsDagWrong : ChangeSpec := { name := "fnExactIsDag", fn := fun _ => fun
  | [d] => { results := [.lit (.bool false)], args := [d] }
  | _ => none }
def FnExactIsDagWrongFalsely : Prop := fnExactIsDagRow.holds Try.pinned (OpenSpec.ofChange fnExactIsDagWrong)

/-- 'laws.FnExactCodeOfAssignment': WHATEVER THE INPUT: true; the input reads as it did. -/
def fnExactCodeOfAssignmentSpec : ChangeSpec := { name := "fnExactCodeOfAssignment", fn := fun _ => fun
  | [d1, d2] => { results := [.lit (.bool true)], args := [d1, d2] }
  | _ => none }
def fnExactCodeOfAssignmentRow : OpenClaim := { program := "ytdlmemngclhlkaa", sum := "5023ec10c6cbec64ebb9dc99a02c3cb24bb35b212facb74118106873085e705a", func := "loop.example/g01080/laws.FnExactCodeOfAssignment", spec := "fnExactCodeOfAssignment", apart := false }
def FnExactCodeOfAssignmentSaid : Prop := fnExactCodeOfAssignmentRow.holds Try.pinned (OpenSpec.ofChange fnExactCodeOfAssignmentSpec)

/-- ITS FALSE NEIGHBOUR: 'it returns false'. Refute it at one input. -/
def fnExactCodeOfAssignmentWrong : ChangeSpec := { name := "fnExactCodeOfAssignment", fn := fun _ => fun
  | [d1, d2] => { results := [.lit (.bool false)], args := [d1, d2] }
  | _ => none }
def FnExactCodeOfAssignmentWrongFalsely : Prop := fnExactCodeOfAssignmentRow.holds Try.pinned (OpenSpec.ofChange fnExactCodeOfAssignmentWrong)

/-- 'laws.FnExactPyramidDag': WHATEVER THE INPUT: true; the input reads as it did. -/
def fnExactPyramidDagSpec : ChangeSpec := { name := "fnExactPyramidDag", fn := fun _ => fun
  | [d] => { results := [.lit (.bool true)], args := [d] }
  | _ => none }
def fnExactPyramidDagRow : OpenClaim := { program := "ytdlmemngclhlkaa", sum := "5023ec10c6cbec64ebb9dc99a02c3cb24bb35b212facb74118106873085e705a", func := "loop.example/g01080/laws.FnExactPyramidDag", spec := "fnExactPyramidDag", apart := false }
def FnExactPyramidDagSaid : Prop := fnExactPyramidDagRow.holds Try.pinned (OpenSpec.ofChange fnExactPyramidDagSpec)

/-- ITS FALSE NEIGHBOUR: 'it returns false'. Refute it at one input. -/
def fnExactPyramidDagWrong : ChangeSpec := { name := "fnExactPyramidDag", fn := fun _ => fun
  | [d] => { results := [.lit (.bool false)], args := [d] }
  | _ => none }
def FnExactPyramidDagWrongFalsely : Prop := fnExactPyramidDagRow.holds Try.pinned (OpenSpec.ofChange fnExactPyramidDagWrong)

/-- 'laws.FnExactLeftRange': WHATEVER THE INPUT: true; the input reads as it did. -/
def fnExactLeftRangeSpec : ChangeSpec := { name := "fnExactLeftRange", fn := fun _ => fun
  | [d1, d2] => { results := [.lit (.bool true)], args := [d1, d2] }
  | _ => none }
def fnExactLeftRangeRow : OpenClaim := { program := "ytdlmemngclhlkaa", sum := "5023ec10c6cbec64ebb9dc99a02c3cb24bb35b212facb74118106873085e705a", func := "loop.example/g01080/laws.FnExactLeftRange", spec := "fnExactLeftRange", unfollowed := true, recurses := true, apart := false }
def FnExactLeftRangeSaid : Prop := fnExactLeftRangeRow.holds Try.pinned (OpenSpec.ofChange fnExactLeftRangeSpec)

/-- ITS FALSE NEIGHBOUR: 'it returns false'. Refute it at one input. -/
def fnExactLeftRangeWrong : ChangeSpec := { name := "fnExactLeftRange", fn := fun _ => fun
  | [d1, d2] => { results := [.lit (.bool false)], args := [d1, d2] }
  | _ => none }
def FnExactLeftRangeWrongFalsely : Prop := fnExactLeftRangeRow.holds Try.pinned (OpenSpec.ofChange fnExactLeftRangeWrong)

/-- 'laws.FnExactHoldsAt': WHATEVER THE INPUT: true; the input reads as it did. -/
def fnExactHoldsAtSpec : ChangeSpec := { name := "fnExactHoldsAt", fn := fun _ => fun
  | [d1, d2, d3] => { results := [.lit (.bool true)], args := [d1, d2, d3] }
  | _ => none }
def fnExactHoldsAtRow : OpenClaim := { program := "ytdlmemngclhlkaa", sum := "5023ec10c6cbec64ebb9dc99a02c3cb24bb35b212facb74118106873085e705a", func := "loop.example/g01080/laws.FnExactHoldsAt", spec := "fnExactHoldsAt", unfollowed := true, recurses := true, apart := false }
def FnExactHoldsAtSaid : Prop := fnExactHoldsAtRow.holds Try.pinned (OpenSpec.ofChange fnExactHoldsAtSpec)

/-- ITS FALSE NEIGHBOUR: 'it returns false'. Refute it at one input. -/
def fnExactHoldsAtWrong : ChangeSpec := { name := "fnExactHoldsAt", fn := fun _ => fun
  | [d1, d2, d3] => { results := [.lit (.bool false)], args := [d1, d2, d3] }
  | _ => none }
def FnExactHoldsAtWrongFalsely : Prop := fnExactHoldsAtRow.holds Try.pinned (OpenSpec.ofChange fnExactHoldsAtWrong)

/- THE SECOND FORM. 'bulk': how many values and letters a reading holds, each counted each time it is reached (what is shared counts as often as it is met; a slice's spare places count too). A statement '..UptoSaid' is the law's where the arguments, and the package variables that the reading takes, are together of bulk at most 1048576: NARROWER than '..Said'. Prove '..Said' where nothing that the law and all that it calls make is longer than what came in: it says more and counts as full. Else prove '..UptoSaid'. A law counts once. -/
mutual
def uptoBulk {H : Type} : DataW H → Nat
  | .lit (.string bytes) => bytes.length + 1
  | .lit _ => 1
  | .nil => 1
  | .ptr d => uptoBulk d + 1
  | .slice elems spare => uptoBulkAll elems + uptoBulkAll spare + 1
  | .agg parts => uptoBulkAll parts + 1
  | .iface _ d => uptoBulk d + 1
  | .map entries => uptoBulkEntries entries + 1
  | .held _ => 1
def uptoBulkAll {H : Type} : List (DataW H) → Nat
  | [] => 0
  | d :: r => uptoBulk d + uptoBulkAll r
def uptoBulkEntries {H : Type} : List (Lit × DataW H) → Nat
  | [] => 0
  | x :: r => uptoBulkEntry x + uptoBulkEntries r
def uptoBulkEntry {H : Type} : Lit × DataW H → Nat
  | (.string bytes, d) => bytes.length + uptoBulk d + 1
  | (_, d) => uptoBulk d + 1
 end
def uptoSmall : (H : Type) → List (DataW H) → Bool := fun _ ds => decide (uptoBulkAll ds ≤ 1048576)
def OpenSpec.upto (s : _root_.Go.ChangeSpec) : _root_.Go.OpenSpec := { _root_.Go.OpenSpec.ofChange s with cond := some uptoSmall }

/-- 'laws.FnExactPigeonVariable', WHERE WHAT IT READS IS OF BULK AT MOST 1048576: true; the input reads as it did. -/
def fnExactPigeonVariableUptoRow : OpenClaim := { program := "ytdlmemngclhlkaa", sum := "5023ec10c6cbec64ebb9dc99a02c3cb24bb35b212facb74118106873085e705a", func := "loop.example/g01080/laws.FnExactPigeonVariable", spec := "fnExactPigeonVariable", apart := false, narrowed := true }
def FnExactPigeonVariableUptoSaid : Prop := fnExactPigeonVariableUptoRow.holds Try.pinned (OpenSpec.upto fnExactPigeonVariableSpec)

/-- 'laws.FnExactLeafBound', WHERE WHAT IT READS IS OF BULK AT MOST 1048576: true; the input reads as it did. -/
def fnExactLeafBoundUptoRow : OpenClaim := { program := "ytdlmemngclhlkaa", sum := "5023ec10c6cbec64ebb9dc99a02c3cb24bb35b212facb74118106873085e705a", func := "loop.example/g01080/laws.FnExactLeafBound", spec := "fnExactLeafBound", apart := false, narrowed := true }
def FnExactLeafBoundUptoSaid : Prop := fnExactLeafBoundUptoRow.holds Try.pinned (OpenSpec.upto fnExactLeafBoundSpec)

/-- 'laws.FnExactHolePlane', WHERE WHAT IT READS IS OF BULK AT MOST 1048576: true; the input reads as it did. -/
def fnExactHolePlaneUptoRow : OpenClaim := { program := "ytdlmemngclhlkaa", sum := "5023ec10c6cbec64ebb9dc99a02c3cb24bb35b212facb74118106873085e705a", func := "loop.example/g01080/laws.FnExactHolePlane", spec := "fnExactHolePlane", apart := false, narrowed := true }
def FnExactHolePlaneUptoSaid : Prop := fnExactHolePlaneUptoRow.holds Try.pinned (OpenSpec.upto fnExactHolePlaneSpec)

/-- 'laws.FnExactIsInequality', WHERE WHAT IT READS IS OF BULK AT MOST 1048576: true; the input reads as it did. -/
def fnExactIsInequalityUptoRow : OpenClaim := { program := "ytdlmemngclhlkaa", sum := "5023ec10c6cbec64ebb9dc99a02c3cb24bb35b212facb74118106873085e705a", func := "loop.example/g01080/laws.FnExactIsInequality", spec := "fnExactIsInequality", unfollowed := true, recurses := true, apart := false, narrowed := true }
def FnExactIsInequalityUptoSaid : Prop := fnExactIsInequalityUptoRow.holds Try.pinned (OpenSpec.upto fnExactIsInequalitySpec)

/-- 'laws.FnExactAssignmentOfCode', WHERE WHAT IT READS IS OF BULK AT MOST 1048576: true; the input reads as it did. -/
def fnExactAssignmentOfCodeUptoRow : OpenClaim := { program := "ytdlmemngclhlkaa", sum := "5023ec10c6cbec64ebb9dc99a02c3cb24bb35b212facb74118106873085e705a", func := "loop.example/g01080/laws.FnExactAssignmentOfCode", spec := "fnExactAssignmentOfCode", apart := false, narrowed := true }
def FnExactAssignmentOfCodeUptoSaid : Prop := fnExactAssignmentOfCodeUptoRow.holds Try.pinned (OpenSpec.upto fnExactAssignmentOfCodeSpec)

/-- 'laws.FnExactPlaneOfLiteral', WHERE WHAT IT READS IS OF BULK AT MOST 1048576: true; the input reads as it did. -/
def fnExactPlaneOfLiteralUptoRow : OpenClaim := { program := "ytdlmemngclhlkaa", sum := "5023ec10c6cbec64ebb9dc99a02c3cb24bb35b212facb74118106873085e705a", func := "loop.example/g01080/laws.FnExactPlaneOfLiteral", spec := "fnExactPlaneOfLiteral", apart := false, narrowed := true }
def FnExactPlaneOfLiteralUptoSaid : Prop := fnExactPlaneOfLiteralUptoRow.holds Try.pinned (OpenSpec.upto fnExactPlaneOfLiteralSpec)

/-- 'laws.FnExactPathDag', WHERE WHAT IT READS IS OF BULK AT MOST 1048576: true; the input reads as it did. -/
def fnExactPathDagUptoRow : OpenClaim := { program := "ytdlmemngclhlkaa", sum := "5023ec10c6cbec64ebb9dc99a02c3cb24bb35b212facb74118106873085e705a", func := "loop.example/g01080/laws.FnExactPathDag", spec := "fnExactPathDag", apart := false, narrowed := true }
def FnExactPathDagUptoSaid : Prop := fnExactPathDagUptoRow.holds Try.pinned (OpenSpec.upto fnExactPathDagSpec)

/-- 'laws.FnExactIsDag', WHERE WHAT IT READS IS OF BULK AT MOST 1048576: true; the input reads as it did. -/
def fnExactIsDagUptoRow : OpenClaim := { program := "ytdlmemngclhlkaa", sum := "5023ec10c6cbec64ebb9dc99a02c3cb24bb35b212facb74118106873085e705a", func := "loop.example/g01080/laws.FnExactIsDag", spec := "fnExactIsDag", apart := false, narrowed := true }
def FnExactIsDagUptoSaid : Prop := fnExactIsDagUptoRow.holds Try.pinned (OpenSpec.upto fnExactIsDagSpec)

/-- 'laws.FnExactCodeOfAssignment', WHERE WHAT IT READS IS OF BULK AT MOST 1048576: true; the input reads as it did. -/
def fnExactCodeOfAssignmentUptoRow : OpenClaim := { program := "ytdlmemngclhlkaa", sum := "5023ec10c6cbec64ebb9dc99a02c3cb24bb35b212facb74118106873085e705a", func := "loop.example/g01080/laws.FnExactCodeOfAssignment", spec := "fnExactCodeOfAssignment", apart := false, narrowed := true }
def FnExactCodeOfAssignmentUptoSaid : Prop := fnExactCodeOfAssignmentUptoRow.holds Try.pinned (OpenSpec.upto fnExactCodeOfAssignmentSpec)

/-- 'laws.FnExactPyramidDag', WHERE WHAT IT READS IS OF BULK AT MOST 1048576: true; the input reads as it did. -/
def fnExactPyramidDagUptoRow : OpenClaim := { program := "ytdlmemngclhlkaa", sum := "5023ec10c6cbec64ebb9dc99a02c3cb24bb35b212facb74118106873085e705a", func := "loop.example/g01080/laws.FnExactPyramidDag", spec := "fnExactPyramidDag", apart := false, narrowed := true }
def FnExactPyramidDagUptoSaid : Prop := fnExactPyramidDagUptoRow.holds Try.pinned (OpenSpec.upto fnExactPyramidDagSpec)

/-- 'laws.FnExactLeftRange', WHERE WHAT IT READS IS OF BULK AT MOST 1048576: true; the input reads as it did. -/
def fnExactLeftRangeUptoRow : OpenClaim := { program := "ytdlmemngclhlkaa", sum := "5023ec10c6cbec64ebb9dc99a02c3cb24bb35b212facb74118106873085e705a", func := "loop.example/g01080/laws.FnExactLeftRange", spec := "fnExactLeftRange", unfollowed := true, recurses := true, apart := false, narrowed := true }
def FnExactLeftRangeUptoSaid : Prop := fnExactLeftRangeUptoRow.holds Try.pinned (OpenSpec.upto fnExactLeftRangeSpec)

/-- 'laws.FnExactHoldsAt', WHERE WHAT IT READS IS OF BULK AT MOST 1048576: true; the input reads as it did. -/
def fnExactHoldsAtUptoRow : OpenClaim := { program := "ytdlmemngclhlkaa", sum := "5023ec10c6cbec64ebb9dc99a02c3cb24bb35b212facb74118106873085e705a", func := "loop.example/g01080/laws.FnExactHoldsAt", spec := "fnExactHoldsAt", unfollowed := true, recurses := true, apart := false, narrowed := true }
def FnExactHoldsAtUptoSaid : Prop := fnExactHoldsAtUptoRow.holds Try.pinned (OpenSpec.upto fnExactHoldsAtSpec)

end Rows
end Go.Proofs.Ytdlmemngclhlkaa
