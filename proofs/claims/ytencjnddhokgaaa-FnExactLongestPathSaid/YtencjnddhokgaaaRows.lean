/-
  No cell of these rows narrows 'for every input' (looked for: loops, veiled, ifaces, maps, wideKeys, modest, calm, conditions, laid).
  DERIVED. THE GIVEN ROWS OF THIS SEAT. 12 by the template 'for every input the law returns true; each argument reads behind the call as it read before'; 0 by the template 'total and deterministic' (their statements: YtencjnddhokgaaaTotals.lean).
  GIVEN WITH THE SEED: the statements are not yours to turn. If you find one false, say at which input.
  Laid BY PROGRAM, IN A SANDBOX (cutbox-rows.mjs): the forced cells as the released guide's own fill.sh prints them over the translation 14c31d49a5a7f146… (all of the seat's roots in one cut). By AI agents, Wed Nov 11 2026. No macro, syntax, notation, axiom, sorry.
-/
import Derived.Test.YtencjnddhokgaaaChecked
import GoSem.Claim
import GoSem.ClaimJoined
import GoSem.ClaimMapViews
import Derived.JoinedTies
import Derived.KernelRfl
namespace Go.Proofs.Ytencjnddhokgaaa
/- THE CELL 'sum', in the pinned program and in every row, IS THE sha256 OF THE DUMP (.gsa) THAT YtencjnddhokgaaaProg.lean LOADS. Nothing in Lean hashes anything: it is a label: what it is worth is what the hold of that sum in a sandbox is worth. -/
noncomputable def Try.pinned : Pinned := { name := "ytencjnddhokgaaa", sum := "14c31d49a5a7f1461c7976880a01c64dba62d7eed347682f9764d59f5022f651", checked := Try.checked }
namespace Rows
def none {H : Type} : Left H := { results := [], args := [] }

/-- 'laws.FnExactPlaneOfClause': WHATEVER THE INPUT: true; the input reads as it did. -/
def fnExactPlaneOfClauseSpec : ChangeSpec := { name := "fnExactPlaneOfClause", fn := fun _ => fun
  | [d1, d2] => { results := [.lit (.bool true)], args := [d1, d2] }
  | _ => none }
def fnExactPlaneOfClauseRow : OpenClaim := { program := "ytencjnddhokgaaa", sum := "14c31d49a5a7f1461c7976880a01c64dba62d7eed347682f9764d59f5022f651", func := "loop.example/g01080/laws.FnExactPlaneOfClause", spec := "fnExactPlaneOfClause", apart := false }
def FnExactPlaneOfClauseSaid : Prop := fnExactPlaneOfClauseRow.holds Try.pinned (OpenSpec.ofChange fnExactPlaneOfClauseSpec)

/-- ITS FALSE NEIGHBOUR: 'it returns false'. Refute it at one input. -/
def fnExactPlaneOfClauseWrong : ChangeSpec := { name := "fnExactPlaneOfClause", fn := fun _ => fun
  | [d1, d2] => { results := [.lit (.bool false)], args := [d1, d2] }
  | _ => none }
def FnExactPlaneOfClauseWrongFalsely : Prop := fnExactPlaneOfClauseRow.holds Try.pinned (OpenSpec.ofChange fnExactPlaneOfClauseWrong)

/-- 'laws.FnExactOppositePlane': WHATEVER THE INPUT: true; the input reads as it did. -/
def fnExactOppositePlaneSpec : ChangeSpec := { name := "fnExactOppositePlane", fn := fun _ => fun
  | [d1, d2] => { results := [.lit (.bool true)], args := [d1, d2] }
  | _ => none }
def fnExactOppositePlaneRow : OpenClaim := { program := "ytencjnddhokgaaa", sum := "14c31d49a5a7f1461c7976880a01c64dba62d7eed347682f9764d59f5022f651", func := "loop.example/g01080/laws.FnExactOppositePlane", spec := "fnExactOppositePlane", unfollowed := true, recurses := true, apart := false }
def FnExactOppositePlaneSaid : Prop := fnExactOppositePlaneRow.holds Try.pinned (OpenSpec.ofChange fnExactOppositePlaneSpec)

/-- ITS FALSE NEIGHBOUR: 'it returns false'. Refute it at one input. -/
def fnExactOppositePlaneWrong : ChangeSpec := { name := "fnExactOppositePlane", fn := fun _ => fun
  | [d1, d2] => { results := [.lit (.bool false)], args := [d1, d2] }
  | _ => none }
def FnExactOppositePlaneWrongFalsely : Prop := fnExactOppositePlaneRow.holds Try.pinned (OpenSpec.ofChange fnExactOppositePlaneWrong)

/-- 'laws.FnExactAddPlanes': WHATEVER THE INPUT: true; the input reads as it did. -/
def fnExactAddPlanesSpec : ChangeSpec := { name := "fnExactAddPlanes", fn := fun _ => fun
  | [d1, d2, d3] => { results := [.lit (.bool true)], args := [d1, d2, d3] }
  | _ => none }
def fnExactAddPlanesRow : OpenClaim := { program := "ytencjnddhokgaaa", sum := "14c31d49a5a7f1461c7976880a01c64dba62d7eed347682f9764d59f5022f651", func := "loop.example/g01080/laws.FnExactAddPlanes", spec := "fnExactAddPlanes", unfollowed := true, recurses := true, apart := false }
def FnExactAddPlanesSaid : Prop := fnExactAddPlanesRow.holds Try.pinned (OpenSpec.ofChange fnExactAddPlanesSpec)

/-- ITS FALSE NEIGHBOUR: 'it returns false'. Refute it at one input. -/
def fnExactAddPlanesWrong : ChangeSpec := { name := "fnExactAddPlanes", fn := fun _ => fun
  | [d1, d2, d3] => { results := [.lit (.bool false)], args := [d1, d2, d3] }
  | _ => none }
def FnExactAddPlanesWrongFalsely : Prop := fnExactAddPlanesRow.holds Try.pinned (OpenSpec.ofChange fnExactAddPlanesWrong)

/-- 'laws.FnExactScalePlane': WHATEVER THE INPUT: true; the input reads as it did. -/
def fnExactScalePlaneSpec : ChangeSpec := { name := "fnExactScalePlane", fn := fun _ => fun
  | [d1, d2, d3] => { results := [.lit (.bool true)], args := [d1, d2, d3] }
  | _ => none }
def fnExactScalePlaneRow : OpenClaim := { program := "ytencjnddhokgaaa", sum := "14c31d49a5a7f1461c7976880a01c64dba62d7eed347682f9764d59f5022f651", func := "loop.example/g01080/laws.FnExactScalePlane", spec := "fnExactScalePlane", unfollowed := true, recurses := true, apart := false }
def FnExactScalePlaneSaid : Prop := fnExactScalePlaneRow.holds Try.pinned (OpenSpec.ofChange fnExactScalePlaneSpec)

/-- ITS FALSE NEIGHBOUR: 'it returns false'. Refute it at one input. -/
def fnExactScalePlaneWrong : ChangeSpec := { name := "fnExactScalePlane", fn := fun _ => fun
  | [d1, d2, d3] => { results := [.lit (.bool false)], args := [d1, d2, d3] }
  | _ => none }
def FnExactScalePlaneWrongFalsely : Prop := fnExactScalePlaneRow.holds Try.pinned (OpenSpec.ofChange fnExactScalePlaneWrong)

/-- 'laws.FnExactDividePlane': WHATEVER THE INPUT: true; the input reads as it did. -/
def fnExactDividePlaneSpec : ChangeSpec := { name := "fnExactDividePlane", fn := fun _ => fun
  | [d1, d2, d3] => { results := [.lit (.bool true)], args := [d1, d2, d3] }
  | _ => none }
def fnExactDividePlaneRow : OpenClaim := { program := "ytencjnddhokgaaa", sum := "14c31d49a5a7f1461c7976880a01c64dba62d7eed347682f9764d59f5022f651", func := "loop.example/g01080/laws.FnExactDividePlane", spec := "fnExactDividePlane", unfollowed := true, recurses := true, apart := false }
def FnExactDividePlaneSaid : Prop := fnExactDividePlaneRow.holds Try.pinned (OpenSpec.ofChange fnExactDividePlaneSpec)

/-- ITS FALSE NEIGHBOUR: 'it returns false'. Refute it at one input. -/
def fnExactDividePlaneWrong : ChangeSpec := { name := "fnExactDividePlane", fn := fun _ => fun
  | [d1, d2, d3] => { results := [.lit (.bool false)], args := [d1, d2, d3] }
  | _ => none }
def FnExactDividePlaneWrongFalsely : Prop := fnExactDividePlaneRow.holds Try.pinned (OpenSpec.ofChange fnExactDividePlaneWrong)

/-- 'laws.FnExactCountHolding': WHATEVER THE INPUT: true; the input reads as it did. -/
def fnExactCountHoldingSpec : ChangeSpec := { name := "fnExactCountHolding", fn := fun _ => fun
  | [d1, d2] => { results := [.lit (.bool true)], args := [d1, d2] }
  | _ => none }
def fnExactCountHoldingRow : OpenClaim := { program := "ytencjnddhokgaaa", sum := "14c31d49a5a7f1461c7976880a01c64dba62d7eed347682f9764d59f5022f651", func := "loop.example/g01080/laws.FnExactCountHolding", spec := "fnExactCountHolding", unfollowed := true, recurses := true, apart := false }
def FnExactCountHoldingSaid : Prop := fnExactCountHoldingRow.holds Try.pinned (OpenSpec.ofChange fnExactCountHoldingSpec)

/-- ITS FALSE NEIGHBOUR: 'it returns false'. Refute it at one input. -/
def fnExactCountHoldingWrong : ChangeSpec := { name := "fnExactCountHolding", fn := fun _ => fun
  | [d1, d2] => { results := [.lit (.bool false)], args := [d1, d2] }
  | _ => none }
def FnExactCountHoldingWrongFalsely : Prop := fnExactCountHoldingRow.holds Try.pinned (OpenSpec.ofChange fnExactCountHoldingWrong)

/-- 'laws.FnExactLongestPath': WHATEVER THE INPUT: true; the input reads as it did. -/
def fnExactLongestPathSpec : ChangeSpec := { name := "fnExactLongestPath", fn := fun _ => fun
  | [d] => { results := [.lit (.bool true)], args := [d] }
  | _ => none }
def fnExactLongestPathRow : OpenClaim := { program := "ytencjnddhokgaaa", sum := "14c31d49a5a7f1461c7976880a01c64dba62d7eed347682f9764d59f5022f651", func := "loop.example/g01080/laws.FnExactLongestPath", spec := "fnExactLongestPath", apart := false }
def FnExactLongestPathSaid : Prop := fnExactLongestPathRow.holds Try.pinned (OpenSpec.ofChange fnExactLongestPathSpec)

/-- ITS FALSE NEIGHBOUR: 'it returns false'. Refute it at one input. -/
def fnExactLongestPathWrong : ChangeSpec := { name := "fnExactLongestPath", fn := fun _ => fun
  | [d] => { results := [.lit (.bool false)], args := [d] }
  | _ => none }
def FnExactLongestPathWrongFalsely : Prop := fnExactLongestPathRow.holds Try.pinned (OpenSpec.ofChange fnExactLongestPathWrong)

/-- 'laws.FnExactSourcesOf': WHATEVER THE INPUT: true; the input reads as it did. -/
def fnExactSourcesOfSpec : ChangeSpec := { name := "fnExactSourcesOf", fn := fun _ => fun
  | [d] => { results := [.lit (.bool true)], args := [d] }
  | _ => none }
def fnExactSourcesOfRow : OpenClaim := { program := "ytencjnddhokgaaa", sum := "14c31d49a5a7f1461c7976880a01c64dba62d7eed347682f9764d59f5022f651", func := "loop.example/g01080/laws.FnExactSourcesOf", spec := "fnExactSourcesOf", apart := false }
def FnExactSourcesOfSaid : Prop := fnExactSourcesOfRow.holds Try.pinned (OpenSpec.ofChange fnExactSourcesOfSpec)

/-- ITS FALSE NEIGHBOUR: 'it returns false'. Refute it at one input. -/
def fnExactSourcesOfWrong : ChangeSpec := { name := "fnExactSourcesOf", fn := fun _ => fun
  | [d] => { results := [.lit (.bool false)], args := [d] }
  | _ => none }
def FnExactSourcesOfWrongFalsely : Prop := fnExactSourcesOfRow.holds Try.pinned (OpenSpec.ofChange fnExactSourcesOfWrong)

/-- 'laws.FnExactSinksOf': WHATEVER THE INPUT: true; the input reads as it did. -/
def fnExactSinksOfSpec : ChangeSpec := { name := "fnExactSinksOf", fn := fun _ => fun
  | [d] => { results := [.lit (.bool true)], args := [d] }
  | _ => none }
def fnExactSinksOfRow : OpenClaim := { program := "ytencjnddhokgaaa", sum := "14c31d49a5a7f1461c7976880a01c64dba62d7eed347682f9764d59f5022f651", func := "loop.example/g01080/laws.FnExactSinksOf", spec := "fnExactSinksOf", unfollowed := true, recurses := true, apart := false }
def FnExactSinksOfSaid : Prop := fnExactSinksOfRow.holds Try.pinned (OpenSpec.ofChange fnExactSinksOfSpec)

/-- ITS FALSE NEIGHBOUR: 'it returns false'. Refute it at one input. -/
def fnExactSinksOfWrong : ChangeSpec := { name := "fnExactSinksOf", fn := fun _ => fun
  | [d] => { results := [.lit (.bool false)], args := [d] }
  | _ => none }
def FnExactSinksOfWrongFalsely : Prop := fnExactSinksOfRow.holds Try.pinned (OpenSpec.ofChange fnExactSinksOfWrong)

/-- 'laws.FnExactNodesUnder': WHATEVER THE INPUT: true; the input reads as it did. -/
def fnExactNodesUnderSpec : ChangeSpec := { name := "fnExactNodesUnder", fn := fun _ => fun
  | [d1, d2] => { results := [.lit (.bool true)], args := [d1, d2] }
  | _ => none }
def fnExactNodesUnderRow : OpenClaim := { program := "ytencjnddhokgaaa", sum := "14c31d49a5a7f1461c7976880a01c64dba62d7eed347682f9764d59f5022f651", func := "loop.example/g01080/laws.FnExactNodesUnder", spec := "fnExactNodesUnder", recurses := true, apart := false }
def FnExactNodesUnderSaid : Prop := fnExactNodesUnderRow.holds Try.pinned (OpenSpec.ofChange fnExactNodesUnderSpec)

/-- ITS FALSE NEIGHBOUR: 'it returns false'. Refute it at one input. -/
def fnExactNodesUnderWrong : ChangeSpec := { name := "fnExactNodesUnder", fn := fun _ => fun
  | [d1, d2] => { results := [.lit (.bool false)], args := [d1, d2] }
  | _ => none }
def FnExactNodesUnderWrongFalsely : Prop := fnExactNodesUnderRow.holds Try.pinned (OpenSpec.ofChange fnExactNodesUnderWrong)

/-- 'laws.FnExactIsPebbling': WHATEVER THE INPUT: true; the input reads as it did. -/
def fnExactIsPebblingSpec : ChangeSpec := { name := "fnExactIsPebbling", fn := fun _ => fun
  | [d1, d2, d3] => { results := [.lit (.bool true)], args := [d1, d2, d3] }
  | _ => none }
def fnExactIsPebblingRow : OpenClaim := { program := "ytencjnddhokgaaa", sum := "14c31d49a5a7f1461c7976880a01c64dba62d7eed347682f9764d59f5022f651", func := "loop.example/g01080/laws.FnExactIsPebbling", spec := "fnExactIsPebbling", apart := false }
def FnExactIsPebblingSaid : Prop := fnExactIsPebblingRow.holds Try.pinned (OpenSpec.ofChange fnExactIsPebblingSpec)

/-- ITS FALSE NEIGHBOUR: 'it returns false'. Refute it at one input. -/
def fnExactIsPebblingWrong : ChangeSpec := { name := "fnExactIsPebbling", fn := fun _ => fun
  | [d1, d2, d3] => { results := [.lit (.bool false)], args := [d1, d2, d3] }
  | _ => none }
def FnExactIsPebblingWrongFalsely : Prop := fnExactIsPebblingRow.holds Try.pinned (OpenSpec.ofChange fnExactIsPebblingWrong)

/-- 'laws.FnExactSizeOfPebbling': WHATEVER THE INPUT: true; the input reads as it did. -/
def fnExactSizeOfPebblingSpec : ChangeSpec := { name := "fnExactSizeOfPebbling", fn := fun _ => fun
  | [d1, d2] => { results := [.lit (.bool true)], args := [d1, d2] }
  | _ => none }
def fnExactSizeOfPebblingRow : OpenClaim := { program := "ytencjnddhokgaaa", sum := "14c31d49a5a7f1461c7976880a01c64dba62d7eed347682f9764d59f5022f651", func := "loop.example/g01080/laws.FnExactSizeOfPebbling", spec := "fnExactSizeOfPebbling", apart := false }
def FnExactSizeOfPebblingSaid : Prop := fnExactSizeOfPebblingRow.holds Try.pinned (OpenSpec.ofChange fnExactSizeOfPebblingSpec)

/-- ITS FALSE NEIGHBOUR: 'it returns false'. Refute it at one input. -/
def fnExactSizeOfPebblingWrong : ChangeSpec := { name := "fnExactSizeOfPebbling", fn := fun _ => fun
  | [d1, d2] => { results := [.lit (.bool false)], args := [d1, d2] }
  | _ => none }
def FnExactSizeOfPebblingWrongFalsely : Prop := fnExactSizeOfPebblingRow.holds Try.pinned (OpenSpec.ofChange fnExactSizeOfPebblingWrong)

/- THE SECOND FORM. 'bulk': how many values and letters a reading holds, each counted each time it is reached (what is shared counts as often as it is met; a slice's spare places count too). A statement '..UptoSaid' is the law's where the arguments, and the package variables that the reading takes, are together of bulk at most 1048576: NARROWER than '..Said'. Prove '..Said' where nothing that the law and all that it calls make is longer than what came in: it says more and counts as full. Else prove '..UptoSaid'. A law counts once. -/
mutual
def uptoBulk {H : Type} : DataW H → Nat
  | .lit (.string bytes) => bytes.length + 1
  | .lit _ => 1
  | .nil => 1
  | .ptr d => uptoBulk d + 1
  | .slice elems spare => uptoBulkAll elems + uptoBulkAll spare + 1
  | .agg parts => uptoBulkAll parts + 1
  | .iface _ d => uptoBulk d + 1
  | .map entries => uptoBulkEntries entries + 1
  | .held _ => 1
def uptoBulkAll {H : Type} : List (DataW H) → Nat
  | [] => 0
  | d :: r => uptoBulk d + uptoBulkAll r
def uptoBulkEntries {H : Type} : List (Lit × DataW H) → Nat
  | [] => 0
  | x :: r => uptoBulkEntry x + uptoBulkEntries r
def uptoBulkEntry {H : Type} : Lit × DataW H → Nat
  | (.string bytes, d) => bytes.length + uptoBulk d + 1
  | (_, d) => uptoBulk d + 1
 end
def uptoSmall : (H : Type) → List (DataW H) → Bool := fun _ ds => decide (uptoBulkAll ds ≤ 1048576)
def OpenSpec.upto (s : _root_.Go.ChangeSpec) : _root_.Go.OpenSpec := { _root_.Go.OpenSpec.ofChange s with cond := some uptoSmall }

/-- 'laws.FnExactPlaneOfClause', WHERE WHAT IT READS IS OF BULK AT MOST 1048576: true; the input reads as it did. -/
def fnExactPlaneOfClauseUptoRow : OpenClaim := { program := "ytencjnddhokgaaa", sum := "14c31d49a5a7f1461c7976880a01c64dba62d7eed347682f9764d59f5022f651", func := "loop.example/g01080/laws.FnExactPlaneOfClause", spec := "fnExactPlaneOfClause", apart := false, narrowed := true }
def FnExactPlaneOfClauseUptoSaid : Prop := fnExactPlaneOfClauseUptoRow.holds Try.pinned (OpenSpec.upto fnExactPlaneOfClauseSpec)

/-- 'laws.FnExactOppositePlane', WHERE WHAT IT READS IS OF BULK AT MOST 1048576: true; the input reads as it did. -/
def fnExactOppositePlaneUptoRow : OpenClaim := { program := "ytencjnddhokgaaa", sum := "14c31d49a5a7f1461c7976880a01c64dba62d7eed347682f9764d59f5022f651", func := "loop.example/g01080/laws.FnExactOppositePlane", spec := "fnExactOppositePlane", unfollowed := true, recurses := true, apart := false, narrowed := true }
def FnExactOppositePlaneUptoSaid : Prop := fnExactOppositePlaneUptoRow.holds Try.pinned (OpenSpec.upto fnExactOppositePlaneSpec)

/-- 'laws.FnExactAddPlanes', WHERE WHAT IT READS IS OF BULK AT MOST 1048576: true; the input reads as it did. -/
def fnExactAddPlanesUptoRow : OpenClaim := { program := "ytencjnddhokgaaa", sum := "14c31d49a5a7f1461c7976880a01c64dba62d7eed347682f9764d59f5022f651", func := "loop.example/g01080/laws.FnExactAddPlanes", spec := "fnExactAddPlanes", unfollowed := true, recurses := true, apart := false, narrowed := true }
def FnExactAddPlanesUptoSaid : Prop := fnExactAddPlanesUptoRow.holds Try.pinned (OpenSpec.upto fnExactAddPlanesSpec)

/-- 'laws.FnExactScalePlane', WHERE WHAT IT READS IS OF BULK AT MOST 1048576: true; the input reads as it did. -/
def fnExactScalePlaneUptoRow : OpenClaim := { program := "ytencjnddhokgaaa", sum := "14c31d49a5a7f1461c7976880a01c64dba62d7eed347682f9764d59f5022f651", func := "loop.example/g01080/laws.FnExactScalePlane", spec := "fnExactScalePlane", unfollowed := true, recurses := true, apart := false, narrowed := true }
def FnExactScalePlaneUptoSaid : Prop := fnExactScalePlaneUptoRow.holds Try.pinned (OpenSpec.upto fnExactScalePlaneSpec)

/-- 'laws.FnExactDividePlane', WHERE WHAT IT READS IS OF BULK AT MOST 1048576: true; the input reads as it did. -/
def fnExactDividePlaneUptoRow : OpenClaim := { program := "ytencjnddhokgaaa", sum := "14c31d49a5a7f1461c7976880a01c64dba62d7eed347682f9764d59f5022f651", func := "loop.example/g01080/laws.FnExactDividePlane", spec := "fnExactDividePlane", unfollowed := true, recurses := true, apart := false, narrowed := true }
def FnExactDividePlaneUptoSaid : Prop := fnExactDividePlaneUptoRow.holds Try.pinned (OpenSpec.upto fnExactDividePlaneSpec)

/-- 'laws.FnExactCountHolding', WHERE WHAT IT READS IS OF BULK AT MOST 1048576: true; the input reads as it did. -/
def fnExactCountHoldingUptoRow : OpenClaim := { program := "ytencjnddhokgaaa", sum := "14c31d49a5a7f1461c7976880a01c64dba62d7eed347682f9764d59f5022f651", func := "loop.example/g01080/laws.FnExactCountHolding", spec := "fnExactCountHolding", unfollowed := true, recurses := true, apart := false, narrowed := true }
def FnExactCountHoldingUptoSaid : Prop := fnExactCountHoldingUptoRow.holds Try.pinned (OpenSpec.upto fnExactCountHoldingSpec)

/-- 'laws.FnExactLongestPath', WHERE WHAT IT READS IS OF BULK AT MOST 1048576: true; the input reads as it did. -/
def fnExactLongestPathUptoRow : OpenClaim := { program := "ytencjnddhokgaaa", sum := "14c31d49a5a7f1461c7976880a01c64dba62d7eed347682f9764d59f5022f651", func := "loop.example/g01080/laws.FnExactLongestPath", spec := "fnExactLongestPath", apart := false, narrowed := true }
def FnExactLongestPathUptoSaid : Prop := fnExactLongestPathUptoRow.holds Try.pinned (OpenSpec.upto fnExactLongestPathSpec)

/-- 'laws.FnExactSourcesOf', WHERE WHAT IT READS IS OF BULK AT MOST 1048576: true; the input reads as it did. -/
def fnExactSourcesOfUptoRow : OpenClaim := { program := "ytencjnddhokgaaa", sum := "14c31d49a5a7f1461c7976880a01c64dba62d7eed347682f9764d59f5022f651", func := "loop.example/g01080/laws.FnExactSourcesOf", spec := "fnExactSourcesOf", apart := false, narrowed := true }
def FnExactSourcesOfUptoSaid : Prop := fnExactSourcesOfUptoRow.holds Try.pinned (OpenSpec.upto fnExactSourcesOfSpec)

/-- 'laws.FnExactSinksOf', WHERE WHAT IT READS IS OF BULK AT MOST 1048576: true; the input reads as it did. -/
def fnExactSinksOfUptoRow : OpenClaim := { program := "ytencjnddhokgaaa", sum := "14c31d49a5a7f1461c7976880a01c64dba62d7eed347682f9764d59f5022f651", func := "loop.example/g01080/laws.FnExactSinksOf", spec := "fnExactSinksOf", unfollowed := true, recurses := true, apart := false, narrowed := true }
def FnExactSinksOfUptoSaid : Prop := fnExactSinksOfUptoRow.holds Try.pinned (OpenSpec.upto fnExactSinksOfSpec)

/-- 'laws.FnExactNodesUnder', WHERE WHAT IT READS IS OF BULK AT MOST 1048576: true; the input reads as it did. -/
def fnExactNodesUnderUptoRow : OpenClaim := { program := "ytencjnddhokgaaa", sum := "14c31d49a5a7f1461c7976880a01c64dba62d7eed347682f9764d59f5022f651", func := "loop.example/g01080/laws.FnExactNodesUnder", spec := "fnExactNodesUnder", recurses := true, apart := false, narrowed := true }
def FnExactNodesUnderUptoSaid : Prop := fnExactNodesUnderUptoRow.holds Try.pinned (OpenSpec.upto fnExactNodesUnderSpec)

/-- 'laws.FnExactIsPebbling', WHERE WHAT IT READS IS OF BULK AT MOST 1048576: true; the input reads as it did. -/
def fnExactIsPebblingUptoRow : OpenClaim := { program := "ytencjnddhokgaaa", sum := "14c31d49a5a7f1461c7976880a01c64dba62d7eed347682f9764d59f5022f651", func := "loop.example/g01080/laws.FnExactIsPebbling", spec := "fnExactIsPebbling", apart := false, narrowed := true }
def FnExactIsPebblingUptoSaid : Prop := fnExactIsPebblingUptoRow.holds Try.pinned (OpenSpec.upto fnExactIsPebblingSpec)

/-- 'laws.FnExactSizeOfPebbling', WHERE WHAT IT READS IS OF BULK AT MOST 1048576: true; the input reads as it did. -/
def fnExactSizeOfPebblingUptoRow : OpenClaim := { program := "ytencjnddhokgaaa", sum := "14c31d49a5a7f1461c7976880a01c64dba62d7eed347682f9764d59f5022f651", func := "loop.example/g01080/laws.FnExactSizeOfPebbling", spec := "fnExactSizeOfPebbling", apart := false, narrowed := true }
def FnExactSizeOfPebblingUptoSaid : Prop := fnExactSizeOfPebblingUptoRow.holds Try.pinned (OpenSpec.upto fnExactSizeOfPebblingSpec)

end Rows
end Go.Proofs.Ytencjnddhokgaaa
