/-
  No cell of these rows narrows 'for every input' (looked for: loops, veiled, ifaces, maps, wideKeys, modest, calm, conditions, laid).
  DERIVED. THE GIVEN ROWS OF THIS SEAT. 12 by the template 'for every input the law returns true; each argument reads behind the call as it read before'; 0 by the template 'total and deterministic' (their statements: YtmpfhibncnamnaaTotals.lean).
  GIVEN WITH THE SEED: the statements are not yours to turn. If you find one false, say at which input.
  Laid BY PROGRAM, IN A SANDBOX (cutbox-rows.mjs): the forced cells as the released guide's own fill.sh prints them over the translation 9cc0a9f42c7d7686… (all of the seat's roots in one cut). By AI agents, Wed Nov 11 2026. No macro, syntax, notation, axiom, sorry.
-/
import Derived.Test.YtmpfhibncnamnaaChecked
import GoSem.Claim
import GoSem.ClaimJoined
import GoSem.ClaimMapViews
import Derived.JoinedTies
import Derived.KernelRfl
namespace Go.Proofs.Ytmpfhibncnamnaa
/- THE CELL 'sum', in the pinned program and in every row, IS THE sha256 OF THE DUMP (.gsa) THAT YtmpfhibncnamnaaProg.lean LOADS. Nothing in Lean hashes anything: it is a label: what it is worth is what the hold of that sum in a sandbox is worth. -/
noncomputable def Try.pinned : Pinned := { name := "ytmpfhibncnamnaa", sum := "9cc0a9f42c7d768632cb7a773cb80a1bd97ab3126fa9398b241301dfebe1e9e7", checked := Try.checked }
namespace Rows
def none {H : Type} : Left H := { results := [], args := [] }

/-- 'laws.FnExactGameNumbers': WHATEVER THE INPUT: true; the input reads as it did. -/
def fnExactGameNumbersSpec : ChangeSpec := { name := "fnExactGameNumbers", fn := fun _ => fun
  | [d] => { results := [.lit (.bool true)], args := [d] }
  | _ => none }
def fnExactGameNumbersRow : OpenClaim := { program := "ytmpfhibncnamnaa", sum := "9cc0a9f42c7d768632cb7a773cb80a1bd97ab3126fa9398b241301dfebe1e9e7", func := "loop.example/g01080/laws.FnExactGameNumbers", spec := "fnExactGameNumbers", unfollowed := true, recurses := true, apart := false }
def FnExactGameNumbersSaid : Prop := fnExactGameNumbersRow.holds Try.pinned (OpenSpec.ofChange fnExactGameNumbersSpec)

/-- ITS FALSE NEIGHBOUR: 'it returns false'. Refute it at one input. -/
def fnExactGameNumbersWrong : ChangeSpec := { name := "fnExactGameNumbers", fn := fun _ => fun
  | [d] => { results := [.lit (.bool false)], args := [d] }
  | _ => none }
def FnExactGameNumbersWrongFalsely : Prop := fnExactGameNumbersRow.holds Try.pinned (OpenSpec.ofChange fnExactGameNumbersWrong)

/-- 'laws.FnExactScoreOf': WHATEVER THE INPUT: true; the input reads as it did. -/
def fnExactScoreOfSpec : ChangeSpec := { name := "fnExactScoreOf", fn := fun _ => fun
  | [d1, d2] => { results := [.lit (.bool true)], args := [d1, d2] }
  | _ => none }
def fnExactScoreOfRow : OpenClaim := { program := "ytmpfhibncnamnaa", sum := "9cc0a9f42c7d768632cb7a773cb80a1bd97ab3126fa9398b241301dfebe1e9e7", func := "loop.example/g01080/laws.FnExactScoreOf", spec := "fnExactScoreOf", unfollowed := true, recurses := true, apart := false }
def FnExactScoreOfSaid : Prop := fnExactScoreOfRow.holds Try.pinned (OpenSpec.ofChange fnExactScoreOfSpec)

/-- ITS FALSE NEIGHBOUR: 'it returns false'. Refute it at one input. -/
def fnExactScoreOfWrong : ChangeSpec := { name := "fnExactScoreOf", fn := fun _ => fun
  | [d1, d2] => { results := [.lit (.bool false)], args := [d1, d2] }
  | _ => none }
def FnExactScoreOfWrongFalsely : Prop := fnExactScoreOfRow.holds Try.pinned (OpenSpec.ofChange fnExactScoreOfWrong)

/-- 'laws.FnExactSizeOf': WHATEVER THE INPUT: true; the input reads as it did. -/
def fnExactSizeOfSpec : ChangeSpec := { name := "fnExactSizeOf", fn := fun _ => fun
  | [d1, d2] => { results := [.lit (.bool true)], args := [d1, d2] }
  | _ => none }
def fnExactSizeOfRow : OpenClaim := { program := "ytmpfhibncnamnaa", sum := "9cc0a9f42c7d768632cb7a773cb80a1bd97ab3126fa9398b241301dfebe1e9e7", func := "loop.example/g01080/laws.FnExactSizeOf", spec := "fnExactSizeOf", unfollowed := true, recurses := true, apart := false }
def FnExactSizeOfSaid : Prop := fnExactSizeOfRow.holds Try.pinned (OpenSpec.ofChange fnExactSizeOfSpec)

/-- ITS FALSE NEIGHBOUR: 'it returns false'. Refute it at one input. -/
def fnExactSizeOfWrong : ChangeSpec := { name := "fnExactSizeOf", fn := fun _ => fun
  | [d1, d2] => { results := [.lit (.bool false)], args := [d1, d2] }
  | _ => none }
def FnExactSizeOfWrongFalsely : Prop := fnExactSizeOfRow.holds Try.pinned (OpenSpec.ofChange fnExactSizeOfWrong)

/-- 'laws.FnExactHeightOf': WHATEVER THE INPUT: true; the input reads as it did. -/
def fnExactHeightOfSpec : ChangeSpec := { name := "fnExactHeightOf", fn := fun _ => fun
  | [d1, d2] => { results := [.lit (.bool true)], args := [d1, d2] }
  | _ => none }
def fnExactHeightOfRow : OpenClaim := { program := "ytmpfhibncnamnaa", sum := "9cc0a9f42c7d768632cb7a773cb80a1bd97ab3126fa9398b241301dfebe1e9e7", func := "loop.example/g01080/laws.FnExactHeightOf", spec := "fnExactHeightOf", unfollowed := true, recurses := true, apart := false }
def FnExactHeightOfSaid : Prop := fnExactHeightOfRow.holds Try.pinned (OpenSpec.ofChange fnExactHeightOfSpec)

/-- ITS FALSE NEIGHBOUR: 'it returns false'. Refute it at one input. -/
def fnExactHeightOfWrong : ChangeSpec := { name := "fnExactHeightOf", fn := fun _ => fun
  | [d1, d2] => { results := [.lit (.bool false)], args := [d1, d2] }
  | _ => none }
def FnExactHeightOfWrongFalsely : Prop := fnExactHeightOfRow.holds Try.pinned (OpenSpec.ofChange fnExactHeightOfWrong)

/-- 'laws.FnExactDelayerTable': WHATEVER THE INPUT: true; the input reads as it did. -/
def fnExactDelayerTableSpec : ChangeSpec := { name := "fnExactDelayerTable", fn := fun _ => fun
  | [d] => { results := [.lit (.bool true)], args := [d] }
  | _ => none }
def fnExactDelayerTableRow : OpenClaim := { program := "ytmpfhibncnamnaa", sum := "9cc0a9f42c7d768632cb7a773cb80a1bd97ab3126fa9398b241301dfebe1e9e7", func := "loop.example/g01080/laws.FnExactDelayerTable", spec := "fnExactDelayerTable", unfollowed := true, recurses := true, apart := false }
def FnExactDelayerTableSaid : Prop := fnExactDelayerTableRow.holds Try.pinned (OpenSpec.ofChange fnExactDelayerTableSpec)

/-- ITS FALSE NEIGHBOUR: 'it returns false'. Refute it at one input. -/
def fnExactDelayerTableWrong : ChangeSpec := { name := "fnExactDelayerTable", fn := fun _ => fun
  | [d] => { results := [.lit (.bool false)], args := [d] }
  | _ => none }
def FnExactDelayerTableWrongFalsely : Prop := fnExactDelayerTableRow.holds Try.pinned (OpenSpec.ofChange fnExactDelayerTableWrong)

/-- 'laws.FnExactIsDelayerTable': WHATEVER THE INPUT: true; the input reads as it did. -/
def fnExactIsDelayerTableSpec : ChangeSpec := { name := "fnExactIsDelayerTable", fn := fun _ => fun
  | [d1, d2] => { results := [.lit (.bool true)], args := [d1, d2] }
  | _ => none }
def fnExactIsDelayerTableRow : OpenClaim := { program := "ytmpfhibncnamnaa", sum := "9cc0a9f42c7d768632cb7a773cb80a1bd97ab3126fa9398b241301dfebe1e9e7", func := "loop.example/g01080/laws.FnExactIsDelayerTable", spec := "fnExactIsDelayerTable", unfollowed := true, recurses := true, apart := false }
def FnExactIsDelayerTableSaid : Prop := fnExactIsDelayerTableRow.holds Try.pinned (OpenSpec.ofChange fnExactIsDelayerTableSpec)

/-- ITS FALSE NEIGHBOUR: 'it returns false'. Refute it at one input. -/
def fnExactIsDelayerTableWrong : ChangeSpec := { name := "fnExactIsDelayerTable", fn := fun _ => fun
  | [d1, d2] => { results := [.lit (.bool false)], args := [d1, d2] }
  | _ => none }
def FnExactIsDelayerTableWrongFalsely : Prop := fnExactIsDelayerTableRow.holds Try.pinned (OpenSpec.ofChange fnExactIsDelayerTableWrong)

/-- 'laws.FnExactIsProverTable': WHATEVER THE INPUT: true; the input reads as it did. -/
def fnExactIsProverTableSpec : ChangeSpec := { name := "fnExactIsProverTable", fn := fun _ => fun
  | [d1, d2] => { results := [.lit (.bool true)], args := [d1, d2] }
  | _ => none }
def fnExactIsProverTableRow : OpenClaim := { program := "ytmpfhibncnamnaa", sum := "9cc0a9f42c7d768632cb7a773cb80a1bd97ab3126fa9398b241301dfebe1e9e7", func := "loop.example/g01080/laws.FnExactIsProverTable", spec := "fnExactIsProverTable", unfollowed := true, recurses := true, apart := false }
def FnExactIsProverTableSaid : Prop := fnExactIsProverTableRow.holds Try.pinned (OpenSpec.ofChange fnExactIsProverTableSpec)

/-- ITS FALSE NEIGHBOUR: 'it returns false'. Refute it at one input. -/
def fnExactIsProverTableWrong : ChangeSpec := { name := "fnExactIsProverTable", fn := fun _ => fun
  | [d1, d2] => { results := [.lit (.bool false)], args := [d1, d2] }
  | _ => none }
def FnExactIsProverTableWrongFalsely : Prop := fnExactIsProverTableRow.holds Try.pinned (OpenSpec.ofChange fnExactIsProverTableWrong)

/-- 'laws.FnExactProverVariable': WHATEVER THE INPUT: true; the input reads as it did. -/
def fnExactProverVariableSpec : ChangeSpec := { name := "fnExactProverVariable", fn := fun _ => fun
  | [d1, d2] => { results := [.lit (.bool true)], args := [d1, d2] }
  | _ => none }
def fnExactProverVariableRow : OpenClaim := { program := "ytmpfhibncnamnaa", sum := "9cc0a9f42c7d768632cb7a773cb80a1bd97ab3126fa9398b241301dfebe1e9e7", func := "loop.example/g01080/laws.FnExactProverVariable", spec := "fnExactProverVariable", unfollowed := true, recurses := true, apart := false }
def FnExactProverVariableSaid : Prop := fnExactProverVariableRow.holds Try.pinned (OpenSpec.ofChange fnExactProverVariableSpec)

/-- ITS FALSE NEIGHBOUR: 'it returns false'. Refute it at one input. -/
def fnExactProverVariableWrong : ChangeSpec := { name := "fnExactProverVariable", fn := fun _ => fun
  | [d1, d2] => { results := [.lit (.bool false)], args := [d1, d2] }
  | _ => none }
def FnExactProverVariableWrongFalsely : Prop := fnExactProverVariableRow.holds Try.pinned (OpenSpec.ofChange fnExactProverVariableWrong)

/-- 'laws.FnExactTreeVariable': WHATEVER THE INPUT: true; the input reads as it did. -/
def fnExactTreeVariableSpec : ChangeSpec := { name := "fnExactTreeVariable", fn := fun _ => fun
  | [d1, d2] => { results := [.lit (.bool true)], args := [d1, d2] }
  | _ => none }
def fnExactTreeVariableRow : OpenClaim := { program := "ytmpfhibncnamnaa", sum := "9cc0a9f42c7d768632cb7a773cb80a1bd97ab3126fa9398b241301dfebe1e9e7", func := "loop.example/g01080/laws.FnExactTreeVariable", spec := "fnExactTreeVariable", unfollowed := true, recurses := true, apart := false }
def FnExactTreeVariableSaid : Prop := fnExactTreeVariableRow.holds Try.pinned (OpenSpec.ofChange fnExactTreeVariableSpec)

/-- ITS FALSE NEIGHBOUR: 'it returns false'. Refute it at one input. -/
def fnExactTreeVariableWrong : ChangeSpec := { name := "fnExactTreeVariable", fn := fun _ => fun
  | [d1, d2] => { results := [.lit (.bool false)], args := [d1, d2] }
  | _ => none }
def FnExactTreeVariableWrongFalsely : Prop := fnExactTreeVariableRow.holds Try.pinned (OpenSpec.ofChange fnExactTreeVariableWrong)

/-- 'laws.FnExactDelayerAnswer': WHATEVER THE INPUT: true; the input reads as it did. -/
def fnExactDelayerAnswerSpec : ChangeSpec := { name := "fnExactDelayerAnswer", fn := fun _ => fun
  | [d1, d2, d3] => { results := [.lit (.bool true)], args := [d1, d2, d3] }
  | _ => none }
def fnExactDelayerAnswerRow : OpenClaim := { program := "ytmpfhibncnamnaa", sum := "9cc0a9f42c7d768632cb7a773cb80a1bd97ab3126fa9398b241301dfebe1e9e7", func := "loop.example/g01080/laws.FnExactDelayerAnswer", spec := "fnExactDelayerAnswer", unfollowed := true, recurses := true, apart := false }
def FnExactDelayerAnswerSaid : Prop := fnExactDelayerAnswerRow.holds Try.pinned (OpenSpec.ofChange fnExactDelayerAnswerSpec)

/-- ITS FALSE NEIGHBOUR: 'it returns false'. Refute it at one input. -/
def fnExactDelayerAnswerWrong : ChangeSpec := { name := "fnExactDelayerAnswer", fn := fun _ => fun
  | [d1, d2, d3] => { results := [.lit (.bool false)], args := [d1, d2, d3] }
  | _ => none }
def FnExactDelayerAnswerWrongFalsely : Prop := fnExactDelayerAnswerRow.holds Try.pinned (OpenSpec.ofChange fnExactDelayerAnswerWrong)

/-- 'laws.FnExactPlayGame': WHATEVER THE INPUT: true; the input reads as it did. -/
def fnExactPlayGameSpec : ChangeSpec := { name := "fnExactPlayGame", fn := fun _ => fun
  | [d] => { results := [.lit (.bool true)], args := [d] }
  | _ => none }
def fnExactPlayGameRow : OpenClaim := { program := "ytmpfhibncnamnaa", sum := "9cc0a9f42c7d768632cb7a773cb80a1bd97ab3126fa9398b241301dfebe1e9e7", func := "loop.example/g01080/laws.FnExactPlayGame", spec := "fnExactPlayGame", unfollowed := true, recurses := true, apart := false }
def FnExactPlayGameSaid : Prop := fnExactPlayGameRow.holds Try.pinned (OpenSpec.ofChange fnExactPlayGameSpec)

/-- ITS FALSE NEIGHBOUR: 'it returns false'. Refute it at one input. -/
def fnExactPlayGameWrong : ChangeSpec := { name := "fnExactPlayGame", fn := fun _ => fun
  | [d] => { results := [.lit (.bool false)], args := [d] }
  | _ => none }
def FnExactPlayGameWrongFalsely : Prop := fnExactPlayGameRow.holds Try.pinned (OpenSpec.ofChange fnExactPlayGameWrong)

/-- 'laws.FnExactPlaneImplies': WHATEVER THE INPUT: true; the input reads as it did. -/
def fnExactPlaneImpliesSpec : ChangeSpec := { name := "fnExactPlaneImplies", fn := fun _ => fun
  | [d1, d2] => { results := [.lit (.bool true)], args := [d1, d2] }
  | _ => none }
def fnExactPlaneImpliesRow : OpenClaim := { program := "ytmpfhibncnamnaa", sum := "9cc0a9f42c7d768632cb7a773cb80a1bd97ab3126fa9398b241301dfebe1e9e7", func := "loop.example/g01080/laws.FnExactPlaneImplies", spec := "fnExactPlaneImplies", unfollowed := true, recurses := true, apart := false }
def FnExactPlaneImpliesSaid : Prop := fnExactPlaneImpliesRow.holds Try.pinned (OpenSpec.ofChange fnExactPlaneImpliesSpec)

/-- ITS FALSE NEIGHBOUR: 'it returns false'. Refute it at one input. -/
def fnExactPlaneImpliesWrong : ChangeSpec := { name := "fnExactPlaneImplies", fn := fun _ => fun
  | [d1, d2] => { results := [.lit (.bool false)], args := [d1, d2] }
  | _ => none }
def FnExactPlaneImpliesWrongFalsely : Prop := fnExactPlaneImpliesRow.holds Try.pinned (OpenSpec.ofChange fnExactPlaneImpliesWrong)

/- THE SECOND FORM. 'bulk': how many values and letters a reading holds, each counted each time it is reached (what is shared counts as often as it is met; a slice's spare places count too). A statement '..UptoSaid' is the law's where the arguments, and the package variables that the reading takes, are together of bulk at most 1048576: NARROWER than '..Said'. Prove '..Said' where nothing that the law and all that it calls make is longer than what came in: it says more and counts as full. Else prove '..UptoSaid'. A law counts once. -/
mutual
def uptoBulk {H : Type} : DataW H → Nat
  | .lit (.string bytes) => bytes.length + 1
  | .lit _ => 1
  | .nil => 1
  | .ptr d => uptoBulk d + 1
  | .slice elems spare => uptoBulkAll elems + uptoBulkAll spare + 1
  | .agg parts => uptoBulkAll parts + 1
  | .iface _ d => uptoBulk d + 1
  | .map entries => uptoBulkEntries entries + 1
  | .held _ => 1
def uptoBulkAll {H : Type} : List (DataW H) → Nat
  | [] => 0
  | d :: r => uptoBulk d + uptoBulkAll r
def uptoBulkEntries {H : Type} : List (Lit × DataW H) → Nat
  | [] => 0
  | x :: r => uptoBulkEntry x + uptoBulkEntries r
def uptoBulkEntry {H : Type} : Lit × DataW H → Nat
  | (.string bytes, d) => bytes.length + uptoBulk d + 1
  | (_, d) => uptoBulk d + 1
 end
def uptoSmall : (H : Type) → List (DataW H) → Bool := fun _ ds => decide (uptoBulkAll ds ≤ 1048576)
def OpenSpec.upto (s : _root_.Go.ChangeSpec) : _root_.Go.OpenSpec := { _root_.Go.OpenSpec.ofChange s with cond := some uptoSmall }

/-- 'laws.FnExactGameNumbers', WHERE WHAT IT READS IS OF BULK AT MOST 1048576: true; the input reads as it did. -/
def fnExactGameNumbersUptoRow : OpenClaim := { program := "ytmpfhibncnamnaa", sum := "9cc0a9f42c7d768632cb7a773cb80a1bd97ab3126fa9398b241301dfebe1e9e7", func := "loop.example/g01080/laws.FnExactGameNumbers", spec := "fnExactGameNumbers", unfollowed := true, recurses := true, apart := false, narrowed := true }
def FnExactGameNumbersUptoSaid : Prop := fnExactGameNumbersUptoRow.holds Try.pinned (OpenSpec.upto fnExactGameNumbersSpec)

/-- 'laws.FnExactScoreOf', WHERE WHAT IT READS IS OF BULK AT MOST 1048576: true; the input reads as it did. -/
def fnExactScoreOfUptoRow : OpenClaim := { program := "ytmpfhibncnamnaa", sum := "9cc0a9f42c7d768632cb7a773cb80a1bd97ab3126fa9398b241301dfebe1e9e7", func := "loop.example/g01080/laws.FnExactScoreOf", spec := "fnExactScoreOf", unfollowed := true, recurses := true, apart := false, narrowed := true }
def FnExactScoreOfUptoSaid : Prop := fnExactScoreOfUptoRow.holds Try.pinned (OpenSpec.upto fnExactScoreOfSpec)

/-- 'laws.FnExactSizeOf', WHERE WHAT IT READS IS OF BULK AT MOST 1048576: true; the input reads as it did. -/
def fnExactSizeOfUptoRow : OpenClaim := { program := "ytmpfhibncnamnaa", sum := "9cc0a9f42c7d768632cb7a773cb80a1bd97ab3126fa9398b241301dfebe1e9e7", func := "loop.example/g01080/laws.FnExactSizeOf", spec := "fnExactSizeOf", unfollowed := true, recurses := true, apart := false, narrowed := true }
def FnExactSizeOfUptoSaid : Prop := fnExactSizeOfUptoRow.holds Try.pinned (OpenSpec.upto fnExactSizeOfSpec)

/-- 'laws.FnExactHeightOf', WHERE WHAT IT READS IS OF BULK AT MOST 1048576: true; the input reads as it did. -/
def fnExactHeightOfUptoRow : OpenClaim := { program := "ytmpfhibncnamnaa", sum := "9cc0a9f42c7d768632cb7a773cb80a1bd97ab3126fa9398b241301dfebe1e9e7", func := "loop.example/g01080/laws.FnExactHeightOf", spec := "fnExactHeightOf", unfollowed := true, recurses := true, apart := false, narrowed := true }
def FnExactHeightOfUptoSaid : Prop := fnExactHeightOfUptoRow.holds Try.pinned (OpenSpec.upto fnExactHeightOfSpec)

/-- 'laws.FnExactDelayerTable', WHERE WHAT IT READS IS OF BULK AT MOST 1048576: true; the input reads as it did. -/
def fnExactDelayerTableUptoRow : OpenClaim := { program := "ytmpfhibncnamnaa", sum := "9cc0a9f42c7d768632cb7a773cb80a1bd97ab3126fa9398b241301dfebe1e9e7", func := "loop.example/g01080/laws.FnExactDelayerTable", spec := "fnExactDelayerTable", unfollowed := true, recurses := true, apart := false, narrowed := true }
def FnExactDelayerTableUptoSaid : Prop := fnExactDelayerTableUptoRow.holds Try.pinned (OpenSpec.upto fnExactDelayerTableSpec)

/-- 'laws.FnExactIsDelayerTable', WHERE WHAT IT READS IS OF BULK AT MOST 1048576: true; the input reads as it did. -/
def fnExactIsDelayerTableUptoRow : OpenClaim := { program := "ytmpfhibncnamnaa", sum := "9cc0a9f42c7d768632cb7a773cb80a1bd97ab3126fa9398b241301dfebe1e9e7", func := "loop.example/g01080/laws.FnExactIsDelayerTable", spec := "fnExactIsDelayerTable", unfollowed := true, recurses := true, apart := false, narrowed := true }
def FnExactIsDelayerTableUptoSaid : Prop := fnExactIsDelayerTableUptoRow.holds Try.pinned (OpenSpec.upto fnExactIsDelayerTableSpec)

/-- 'laws.FnExactIsProverTable', WHERE WHAT IT READS IS OF BULK AT MOST 1048576: true; the input reads as it did. -/
def fnExactIsProverTableUptoRow : OpenClaim := { program := "ytmpfhibncnamnaa", sum := "9cc0a9f42c7d768632cb7a773cb80a1bd97ab3126fa9398b241301dfebe1e9e7", func := "loop.example/g01080/laws.FnExactIsProverTable", spec := "fnExactIsProverTable", unfollowed := true, recurses := true, apart := false, narrowed := true }
def FnExactIsProverTableUptoSaid : Prop := fnExactIsProverTableUptoRow.holds Try.pinned (OpenSpec.upto fnExactIsProverTableSpec)

/-- 'laws.FnExactProverVariable', WHERE WHAT IT READS IS OF BULK AT MOST 1048576: true; the input reads as it did. -/
def fnExactProverVariableUptoRow : OpenClaim := { program := "ytmpfhibncnamnaa", sum := "9cc0a9f42c7d768632cb7a773cb80a1bd97ab3126fa9398b241301dfebe1e9e7", func := "loop.example/g01080/laws.FnExactProverVariable", spec := "fnExactProverVariable", unfollowed := true, recurses := true, apart := false, narrowed := true }
def FnExactProverVariableUptoSaid : Prop := fnExactProverVariableUptoRow.holds Try.pinned (OpenSpec.upto fnExactProverVariableSpec)

/-- 'laws.FnExactTreeVariable', WHERE WHAT IT READS IS OF BULK AT MOST 1048576: true; the input reads as it did. -/
def fnExactTreeVariableUptoRow : OpenClaim := { program := "ytmpfhibncnamnaa", sum := "9cc0a9f42c7d768632cb7a773cb80a1bd97ab3126fa9398b241301dfebe1e9e7", func := "loop.example/g01080/laws.FnExactTreeVariable", spec := "fnExactTreeVariable", unfollowed := true, recurses := true, apart := false, narrowed := true }
def FnExactTreeVariableUptoSaid : Prop := fnExactTreeVariableUptoRow.holds Try.pinned (OpenSpec.upto fnExactTreeVariableSpec)

/-- 'laws.FnExactDelayerAnswer', WHERE WHAT IT READS IS OF BULK AT MOST 1048576: true; the input reads as it did. -/
def fnExactDelayerAnswerUptoRow : OpenClaim := { program := "ytmpfhibncnamnaa", sum := "9cc0a9f42c7d768632cb7a773cb80a1bd97ab3126fa9398b241301dfebe1e9e7", func := "loop.example/g01080/laws.FnExactDelayerAnswer", spec := "fnExactDelayerAnswer", unfollowed := true, recurses := true, apart := false, narrowed := true }
def FnExactDelayerAnswerUptoSaid : Prop := fnExactDelayerAnswerUptoRow.holds Try.pinned (OpenSpec.upto fnExactDelayerAnswerSpec)

/-- 'laws.FnExactPlayGame', WHERE WHAT IT READS IS OF BULK AT MOST 1048576: true; the input reads as it did. -/
def fnExactPlayGameUptoRow : OpenClaim := { program := "ytmpfhibncnamnaa", sum := "9cc0a9f42c7d768632cb7a773cb80a1bd97ab3126fa9398b241301dfebe1e9e7", func := "loop.example/g01080/laws.FnExactPlayGame", spec := "fnExactPlayGame", unfollowed := true, recurses := true, apart := false, narrowed := true }
def FnExactPlayGameUptoSaid : Prop := fnExactPlayGameUptoRow.holds Try.pinned (OpenSpec.upto fnExactPlayGameSpec)

/-- 'laws.FnExactPlaneImplies', WHERE WHAT IT READS IS OF BULK AT MOST 1048576: true; the input reads as it did. -/
def fnExactPlaneImpliesUptoRow : OpenClaim := { program := "ytmpfhibncnamnaa", sum := "9cc0a9f42c7d768632cb7a773cb80a1bd97ab3126fa9398b241301dfebe1e9e7", func := "loop.example/g01080/laws.FnExactPlaneImplies", spec := "fnExactPlaneImplies", unfollowed := true, recurses := true, apart := false, narrowed := true }
def FnExactPlaneImpliesUptoSaid : Prop := fnExactPlaneImpliesUptoRow.holds Try.pinned (OpenSpec.upto fnExactPlaneImpliesSpec)

end Rows
end Go.Proofs.Ytmpfhibncnamnaa
