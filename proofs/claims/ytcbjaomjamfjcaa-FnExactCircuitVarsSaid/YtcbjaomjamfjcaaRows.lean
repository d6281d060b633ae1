/-
  No cell of these rows narrows 'for every input' (looked for: loops, veiled, ifaces, maps, wideKeys, modest, calm, conditions, laid).
  DERIVED. THE GIVEN ROWS OF THIS SEAT. 12 by the template 'for every input the law returns true; each argument reads behind the call as it read before'; 0 by the template 'total and deterministic' (their statements: YtcbjaomjamfjcaaTotals.lean).
  GIVEN WITH THE SEED: the statements are not yours to turn. If you find one false, say at which input.
  Laid BY PROGRAM, IN A SANDBOX (cutbox-rows.mjs): the forced cells as the released guide's own fill.sh prints them over the translation ddaf84349baca0a6… (all of the seat's roots in one cut). By AI agents, Wed Nov 11 2026. No macro, syntax, notation, axiom, sorry.
-/
import Derived.Test.YtcbjaomjamfjcaaChecked
import GoSem.Claim
import GoSem.ClaimJoined
import GoSem.ClaimMapViews
import Derived.JoinedTies
import Derived.KernelRfl
namespace Go.Proofs.Ytcbjaomjamfjcaa
/- THE CELL 'sum', in the pinned program and in every row, IS THE sha256 OF THE DUMP (.gsa) THAT YtcbjaomjamfjcaaProg.lean LOADS. Nothing in Lean hashes anything: it is a label: what it is worth is what the hold of that sum in a sandbox is worth. -/
noncomputable def Try.pinned : Pinned := { name := "ytcbjaomjamfjcaa", sum := "ddaf84349baca0a6b33c257ffeb25cf39e3ede36fe4ba68b3a57f90df2a325e0", checked := Try.checked }
namespace Rows
def none {H : Type} : Left H := { results := [], args := [] }

/-- 'laws.FnExactJoinCircuits': WHATEVER THE INPUT: true; the input reads as it did. -/
def fnExactJoinCircuitsSpec : ChangeSpec := { name := "fnExactJoinCircuits", fn := fun _ => fun
  | [d1, d2, d3, d4] => { results := [.lit (.bool true)], args := [d1, d2, d3, d4] }
  | _ => none }
def fnExactJoinCircuitsRow : OpenClaim := { program := "ytcbjaomjamfjcaa", sum := "ddaf84349baca0a6b33c257ffeb25cf39e3ede36fe4ba68b3a57f90df2a325e0", func := "loop.example/g01080/laws.FnExactJoinCircuits", spec := "fnExactJoinCircuits", unfollowed := true, recurses := true, apart := false }
def FnExactJoinCircuitsSaid : Prop := fnExactJoinCircuitsRow.holds Try.pinned (OpenSpec.ofChange fnExactJoinCircuitsSpec)

/-- ITS FALSE NEIGHBOUR: 'it returns false'. Refute it at one input. -/
def fnExactJoinCircuitsWrong : ChangeSpec := { name := "fnExactJoinCircuits", fn := fun _ => fun
  | [d1, d2, d3, d4] => { results := [.lit (.bool false)], args := [d1, d2, d3, d4] }
  | _ => none }
def FnExactJoinCircuitsWrongFalsely : Prop := fnExactJoinCircuitsRow.holds Try.pinned (OpenSpec.ofChange fnExactJoinCircuitsWrong)

/-- 'laws.FnExactGateValues': WHATEVER THE INPUT: true; the input reads as it did. -/
def fnExactGateValuesSpec : ChangeSpec := { name := "fnExactGateValues", fn := fun _ => fun
  | [d1, d2, d3] => { results := [.lit (.bool true)], args := [d1, d2, d3] }
  | _ => none }
def fnExactGateValuesRow : OpenClaim := { program := "ytcbjaomjamfjcaa", sum := "ddaf84349baca0a6b33c257ffeb25cf39e3ede36fe4ba68b3a57f90df2a325e0", func := "loop.example/g01080/laws.FnExactGateValues", spec := "fnExactGateValues", apart := false }
def FnExactGateValuesSaid : Prop := fnExactGateValuesRow.holds Try.pinned (OpenSpec.ofChange fnExactGateValuesSpec)

/-- ITS FALSE NEIGHBOUR: 'it returns false'. Refute it at one input. -/
def fnExactGateValuesWrong : ChangeSpec := { name := "fnExactGateValues", fn := fun _ => fun
  | [d1, d2, d3] => { results := [.lit (.bool false)], args := [d1, d2, d3] }
  | _ => none }
def FnExactGateValuesWrongFalsely : Prop := fnExactGateValuesRow.holds Try.pinned (OpenSpec.ofChange fnExactGateValuesWrong)

/-- 'laws.FnExactNeededGates': WHATEVER THE INPUT: true; the input reads as it did. -/
def fnExactNeededGatesSpec : ChangeSpec := { name := "fnExactNeededGates", fn := fun _ => fun
  | [d1, d2] => { results := [.lit (.bool true)], args := [d1, d2] }
  | _ => none }
def fnExactNeededGatesRow : OpenClaim := { program := "ytcbjaomjamfjcaa", sum := "ddaf84349baca0a6b33c257ffeb25cf39e3ede36fe4ba68b3a57f90df2a325e0", func := "loop.example/g01080/laws.FnExactNeededGates", spec := "fnExactNeededGates", unfollowed := true, recurses := true, apart := false }
def FnExactNeededGatesSaid : Prop := fnExactNeededGatesRow.holds Try.pinned (OpenSpec.ofChange fnExactNeededGatesSpec)

/-- ITS FALSE NEIGHBOUR: 'it returns false'. Refute it at one input. -/
def fnExactNeededGatesWrong : ChangeSpec := { name := "fnExactNeededGates", fn := fun _ => fun
  | [d1, d2] => { results := [.lit (.bool false)], args := [d1, d2] }
  | _ => none }
def FnExactNeededGatesWrongFalsely : Prop := fnExactNeededGatesRow.holds Try.pinned (OpenSpec.ofChange fnExactNeededGatesWrong)

/-- 'laws.FnExactTrimCircuit': WHATEVER THE INPUT: true; the input reads as it did. -/
def fnExactTrimCircuitSpec : ChangeSpec := { name := "fnExactTrimCircuit", fn := fun _ => fun
  | [d1, d2] => { results := [.lit (.bool true)], args := [d1, d2] }
  | _ => none }
def fnExactTrimCircuitRow : OpenClaim := { program := "ytcbjaomjamfjcaa", sum := "ddaf84349baca0a6b33c257ffeb25cf39e3ede36fe4ba68b3a57f90df2a325e0", func := "loop.example/g01080/laws.FnExactTrimCircuit", spec := "fnExactTrimCircuit", unfollowed := true, recurses := true, apart := false }
def FnExactTrimCircuitSaid : Prop := fnExactTrimCircuitRow.holds Try.pinned (OpenSpec.ofChange fnExactTrimCircuitSpec)

/-- ITS FALSE NEIGHBOUR: 'it returns false'. Refute it at one input. -/
def fnExactTrimCircuitWrong : ChangeSpec := { name := "fnExactTrimCircuit", fn := fun _ => fun
  | [d1, d2] => { results := [.lit (.bool false)], args := [d1, d2] }
  | _ => none }
def FnExactTrimCircuitWrongFalsely : Prop := fnExactTrimCircuitRow.holds Try.pinned (OpenSpec.ofChange fnExactTrimCircuitWrong)

/-- 'laws.FnExactCircuitOfCnf': WHATEVER THE INPUT: true; the input reads as it did. -/
def fnExactCircuitOfCnfSpec : ChangeSpec := { name := "fnExactCircuitOfCnf", fn := fun _ => fun
  | [d] => { results := [.lit (.bool true)], args := [d] }
  | _ => none }
def fnExactCircuitOfCnfRow : OpenClaim := { program := "ytcbjaomjamfjcaa", sum := "ddaf84349baca0a6b33c257ffeb25cf39e3ede36fe4ba68b3a57f90df2a325e0", func := "loop.example/g01080/laws.FnExactCircuitOfCnf", spec := "fnExactCircuitOfCnf", apart := false }
def FnExactCircuitOfCnfSaid : Prop := fnExactCircuitOfCnfRow.holds Try.pinned (OpenSpec.ofChange fnExactCircuitOfCnfSpec)

/-- ITS FALSE NEIGHBOUR: 'it returns false'. Refute it at one input. -/
def fnExactCircuitOfCnfWrong : ChangeSpec := { name := "fnExactCircuitOfCnf", fn := fun _ => fun
  | [d] => { results := [.lit (.bool false)], args := [d] }
  | _ => none }
def FnExactCircuitOfCnfWrongFalsely : Prop := fnExactCircuitOfCnfRow.holds Try.pinned (OpenSpec.ofChange fnExactCircuitOfCnfWrong)

/-- 'laws.FnExactPushNegations': WHATEVER THE INPUT: true; the input reads as it did. -/
def fnExactPushNegationsSpec : ChangeSpec := { name := "fnExactPushNegations", fn := fun _ => fun
  | [d1, d2] => { results := [.lit (.bool true)], args := [d1, d2] }
  | _ => none }
def fnExactPushNegationsRow : OpenClaim := { program := "ytcbjaomjamfjcaa", sum := "ddaf84349baca0a6b33c257ffeb25cf39e3ede36fe4ba68b3a57f90df2a325e0", func := "loop.example/g01080/laws.FnExactPushNegations", spec := "fnExactPushNegations", unfollowed := true, recurses := true, apart := false }
def FnExactPushNegationsSaid : Prop := fnExactPushNegationsRow.holds Try.pinned (OpenSpec.ofChange fnExactPushNegationsSpec)

/-- ITS FALSE NEIGHBOUR: 'it returns false'. Refute it at one input. -/
def fnExactPushNegationsWrong : ChangeSpec := { name := "fnExactPushNegations", fn := fun _ => fun
  | [d1, d2] => { results := [.lit (.bool false)], args := [d1, d2] }
  | _ => none }
def FnExactPushNegationsWrongFalsely : Prop := fnExactPushNegationsRow.holds Try.pinned (OpenSpec.ofChange fnExactPushNegationsWrong)

/-- 'laws.FnExactFoldCircuit': WHATEVER THE INPUT: true; the input reads as it did. -/
def fnExactFoldCircuitSpec : ChangeSpec := { name := "fnExactFoldCircuit", fn := fun _ => fun
  | [d1, d2] => { results := [.lit (.bool true)], args := [d1, d2] }
  | _ => none }
def fnExactFoldCircuitRow : OpenClaim := { program := "ytcbjaomjamfjcaa", sum := "ddaf84349baca0a6b33c257ffeb25cf39e3ede36fe4ba68b3a57f90df2a325e0", func := "loop.example/g01080/laws.FnExactFoldCircuit", spec := "fnExactFoldCircuit", unfollowed := true, recurses := true, apart := false }
def FnExactFoldCircuitSaid : Prop := fnExactFoldCircuitRow.holds Try.pinned (OpenSpec.ofChange fnExactFoldCircuitSpec)

/-- ITS FALSE NEIGHBOUR: 'it returns false'. Refute it at one input. -/
def fnExactFoldCircuitWrong : ChangeSpec := { name := "fnExactFoldCircuit", fn := fun _ => fun
  | [d1, d2] => { results := [.lit (.bool false)], args := [d1, d2] }
  | _ => none }
def FnExactFoldCircuitWrongFalsely : Prop := fnExactFoldCircuitRow.holds Try.pinned (OpenSpec.ofChange fnExactFoldCircuitWrong)

/-- 'laws.FnExactCircuitVars': WHATEVER THE INPUT: true; the input reads as it did. -/
def fnExactCircuitVarsSpec : ChangeSpec := { name := "fnExactCircuitVars", fn := fun _ => fun
  | [d1, d2] => { results := [.lit (.bool true)], args := [d1, d2] }
  | _ => none }
def fnExactCircuitVarsRow : OpenClaim := { program := "ytcbjaomjamfjcaa", sum := "ddaf84349baca0a6b33c257ffeb25cf39e3ede36fe4ba68b3a57f90df2a325e0", func := "loop.example/g01080/laws.FnExactCircuitVars", spec := "fnExactCircuitVars", unfollowed := true, recurses := true, apart := false }
def FnExactCircuitVarsSaid : Prop := fnExactCircuitVarsRow.holds Try.pinned (OpenSpec.ofChange fnExactCircuitVarsSpec)

/-- ITS FALSE NEIGHBOUR: 'it returns false'. Refute it at one input. -/
def fnExactCircuitVarsWrong : ChangeSpec := { name := "fnExactCircuitVars", fn := fun _ => fun
  | [d1, d2] => { results := [.lit (.bool false)], args := [d1, d2] }
  | _ => none }
def FnExactCircuitVarsWrongFalsely : Prop := fnExactCircuitVarsRow.holds Try.pinned (OpenSpec.ofChange fnExactCircuitVarsWrong)

/-- 'laws.FnExactAddPlanes': WHATEVER THE INPUT: true; the input reads as it did. -/
def fnExactAddPlanesSpec : ChangeSpec := { name := "fnExactAddPlanes", fn := fun _ => fun
  | [d1, d2, d3] => { results := [.lit (.bool true)], args := [d1, d2, d3] }
  | _ => none }
def fnExactAddPlanesRow : OpenClaim := { program := "ytcbjaomjamfjcaa", sum := "ddaf84349baca0a6b33c257ffeb25cf39e3ede36fe4ba68b3a57f90df2a325e0", func := "loop.example/g01080/laws.FnExactAddPlanes", spec := "fnExactAddPlanes", unfollowed := true, recurses := true, apart := false }
def FnExactAddPlanesSaid : Prop := fnExactAddPlanesRow.holds Try.pinned (OpenSpec.ofChange fnExactAddPlanesSpec)

/-- ITS FALSE NEIGHBOUR: 'it returns false'. Refute it at one input. -/
def fnExactAddPlanesWrong : ChangeSpec := { name := "fnExactAddPlanes", fn := fun _ => fun
  | [d1, d2, d3] => { results := [.lit (.bool false)], args := [d1, d2, d3] }
  | _ => none }
def FnExactAddPlanesWrongFalsely : Prop := fnExactAddPlanesRow.holds Try.pinned (OpenSpec.ofChange fnExactAddPlanesWrong)

/-- 'laws.FnExactNodesUnder': WHATEVER THE INPUT: true; the input reads as it did. -/
def fnExactNodesUnderSpec : ChangeSpec := { name := "fnExactNodesUnder", fn := fun _ => fun
  | [d1, d2] => { results := [.lit (.bool true)], args := [d1, d2] }
  | _ => none }
def fnExactNodesUnderRow : OpenClaim := { program := "ytcbjaomjamfjcaa", sum := "ddaf84349baca0a6b33c257ffeb25cf39e3ede36fe4ba68b3a57f90df2a325e0", func := "loop.example/g01080/laws.FnExactNodesUnder", spec := "fnExactNodesUnder", recurses := true, apart := false }
def FnExactNodesUnderSaid : Prop := fnExactNodesUnderRow.holds Try.pinned (OpenSpec.ofChange fnExactNodesUnderSpec)

/-- ITS FALSE NEIGHBOUR: 'it returns false'. Refute it at one input. -/
def fnExactNodesUnderWrong : ChangeSpec := { name := "fnExactNodesUnder", fn := fun _ => fun
  | [d1, d2] => { results := [.lit (.bool false)], args := [d1, d2] }
  | _ => none }
def FnExactNodesUnderWrongFalsely : Prop := fnExactNodesUnderRow.holds Try.pinned (OpenSpec.ofChange fnExactNodesUnderWrong)

/-- 'laws.FnExactIsPebbling': WHATEVER THE INPUT: true; the input reads as it did. -/
def fnExactIsPebblingSpec : ChangeSpec := { name := "fnExactIsPebbling", fn := fun _ => fun
  | [d1, d2, d3] => { results := [.lit (.bool true)], args := [d1, d2, d3] }
  | _ => none }
def fnExactIsPebblingRow : OpenClaim := { program := "ytcbjaomjamfjcaa", sum := "ddaf84349baca0a6b33c257ffeb25cf39e3ede36fe4ba68b3a57f90df2a325e0", func := "loop.example/g01080/laws.FnExactIsPebbling", spec := "fnExactIsPebbling", apart := false }
def FnExactIsPebblingSaid : Prop := fnExactIsPebblingRow.holds Try.pinned (OpenSpec.ofChange fnExactIsPebblingSpec)

/-- ITS FALSE NEIGHBOUR: 'it returns false'. Refute it at one input. -/
def fnExactIsPebblingWrong : ChangeSpec := { name := "fnExactIsPebbling", fn := fun _ => fun
  | [d1, d2, d3] => { results := [.lit (.bool false)], args := [d1, d2, d3] }
  | _ => none }
def FnExactIsPebblingWrongFalsely : Prop := fnExactIsPebblingRow.holds Try.pinned (OpenSpec.ofChange fnExactIsPebblingWrong)

/-- 'laws.FnExactSizeOfPebbling': WHATEVER THE INPUT: true; the input reads as it did. -/
def fnExactSizeOfPebblingSpec : ChangeSpec := { name := "fnExactSizeOfPebbling", fn := fun _ => fun
  | [d1, d2] => { results := [.lit (.bool true)], args := [d1, d2] }
  | _ => none }
def fnExactSizeOfPebblingRow : OpenClaim := { program := "ytcbjaomjamfjcaa", sum := "ddaf84349baca0a6b33c257ffeb25cf39e3ede36fe4ba68b3a57f90df2a325e0", func := "loop.example/g01080/laws.FnExactSizeOfPebbling", spec := "fnExactSizeOfPebbling", apart := false }
def FnExactSizeOfPebblingSaid : Prop := fnExactSizeOfPebblingRow.holds Try.pinned (OpenSpec.ofChange fnExactSizeOfPebblingSpec)

/-- ITS FALSE NEIGHBOUR: 'it returns false'. Refute it at one input. -/
def fnExactSizeOfPebblingWrong : ChangeSpec := { name := "fnExactSizeOfPebbling", fn := fun _ => fun
  | [d1, d2] => { results := [.lit (.bool false)], args := [d1, d2] }
  | _ => none }
def FnExactSizeOfPebblingWrongFalsely : Prop := fnExactSizeOfPebblingRow.holds Try.pinned (OpenSpec.ofChange fnExactSizeOfPebblingWrong)

/- THE SECOND FORM. 'bulk': how many values and letters a reading holds, each counted each time it is reached (what is shared counts as often as it is met; a slice's spare places count too). A statement '..UptoSaid' is the law's where the arguments, and the package variables that the reading takes, are together of bulk at most 1048576: NARROWER than '..Said'. Prove '..Said' where nothing that the law and all that it calls make is longer than what came in: it says more and counts as full. Else prove '..UptoSaid'. A law counts once. -/
mutual
def uptoBulk {H : Type} : DataW H → Nat
  | .lit (.string bytes) => bytes.length + 1
  | .lit _ => 1
  | .nil => 1
  | .ptr d => uptoBulk d + 1
  | .slice elems spare => uptoBulkAll elems + uptoBulkAll spare + 1
  | .agg parts => uptoBulkAll parts + 1
  | .iface _ d => uptoBulk d + 1
  | .map entries => uptoBulkEntries entries + 1
  | .held _ => 1
def uptoBulkAll {H : Type} : List (DataW H) → Nat
  | [] => 0
  | d :: r => uptoBulk d + uptoBulkAll r
def uptoBulkEntries {H : Type} : List (Lit × DataW H) → Nat
  | [] => 0
  | x :: r => uptoBulkEntry x + uptoBulkEntries r
def uptoBulkEntry {H : Type} : Lit × DataW H → Nat
  | (.string bytes, d) => bytes.length + uptoBulk d + 1
  | (_, d) => uptoBulk d + 1
 end
def uptoSmall : (H : Type) → List (DataW H) → Bool := fun _ ds => decide (uptoBulkAll ds ≤ 1048576)
def OpenSpec.upto (s : _root_.Go.ChangeSpec) : _root_.Go.OpenSpec := { _root_.Go.OpenSpec.ofChange s with cond := some uptoSmall }

/-- 'laws.FnExactJoinCircuits', WHERE WHAT IT READS IS OF BULK AT MOST 1048576: true; the input reads as it did. -/
def fnExactJoinCircuitsUptoRow : OpenClaim := { program := "ytcbjaomjamfjcaa", sum := "ddaf84349baca0a6b33c257ffeb25cf39e3ede36fe4ba68b3a57f90df2a325e0", func := "loop.example/g01080/laws.FnExactJoinCircuits", spec := "fnExactJoinCircuits", unfollowed := true, recurses := true, apart := false, narrowed := true }
def FnExactJoinCircuitsUptoSaid : Prop := fnExactJoinCircuitsUptoRow.holds Try.pinned (OpenSpec.upto fnExactJoinCircuitsSpec)

/-- 'laws.FnExactGateValues', WHERE WHAT IT READS IS OF BULK AT MOST 1048576: true; the input reads as it did. -/
def fnExactGateValuesUptoRow : OpenClaim := { program := "ytcbjaomjamfjcaa", sum := "ddaf84349baca0a6b33c257ffeb25cf39e3ede36fe4ba68b3a57f90df2a325e0", func := "loop.example/g01080/laws.FnExactGateValues", spec := "fnExactGateValues", apart := false, narrowed := true }
def FnExactGateValuesUptoSaid : Prop := fnExactGateValuesUptoRow.holds Try.pinned (OpenSpec.upto fnExactGateValuesSpec)

/-- 'laws.FnExactNeededGates', WHERE WHAT IT READS IS OF BULK AT MOST 1048576: true; the input reads as it did. -/
def fnExactNeededGatesUptoRow : OpenClaim := { program := "ytcbjaomjamfjcaa", sum := "ddaf84349baca0a6b33c257ffeb25cf39e3ede36fe4ba68b3a57f90df2a325e0", func := "loop.example/g01080/laws.FnExactNeededGates", spec := "fnExactNeededGates", unfollowed := true, recurses := true, apart := false, narrowed := true }
def FnExactNeededGatesUptoSaid : Prop := fnExactNeededGatesUptoRow.holds Try.pinned (OpenSpec.upto fnExactNeededGatesSpec)

/-- 'laws.FnExactTrimCircuit', WHERE WHAT IT READS IS OF BULK AT MOST 1048576: true; the input reads as it did. -/
def fnExactTrimCircuitUptoRow : OpenClaim := { program := "ytcbjaomjamfjcaa", sum := "ddaf84349baca0a6b33c257ffeb25cf39e3ede36fe4ba68b3a57f90df2a325e0", func := "loop.example/g01080/laws.FnExactTrimCircuit", spec := "fnExactTrimCircuit", unfollowed := true, recurses := true, apart := false, narrowed := true }
def FnExactTrimCircuitUptoSaid : Prop := fnExactTrimCircuitUptoRow.holds Try.pinned (OpenSpec.upto fnExactTrimCircuitSpec)

/-- 'laws.FnExactCircuitOfCnf', WHERE WHAT IT READS IS OF BULK AT MOST 1048576: true; the input reads as it did. -/
def fnExactCircuitOfCnfUptoRow : OpenClaim := { program := "ytcbjaomjamfjcaa", sum := "ddaf84349baca0a6b33c257ffeb25cf39e3ede36fe4ba68b3a57f90df2a325e0", func := "loop.example/g01080/laws.FnExactCircuitOfCnf", spec := "fnExactCircuitOfCnf", apart := false, narrowed := true }
def FnExactCircuitOfCnfUptoSaid : Prop := fnExactCircuitOfCnfUptoRow.holds Try.pinned (OpenSpec.upto fnExactCircuitOfCnfSpec)

/-- 'laws.FnExactPushNegations', WHERE WHAT IT READS IS OF BULK AT MOST 1048576: true; the input reads as it did. -/
def fnExactPushNegationsUptoRow : OpenClaim := { program := "ytcbjaomjamfjcaa", sum := "ddaf84349baca0a6b33c257ffeb25cf39e3ede36fe4ba68b3a57f90df2a325e0", func := "loop.example/g01080/laws.FnExactPushNegations", spec := "fnExactPushNegations", unfollowed := true, recurses := true, apart := false, narrowed := true }
def FnExactPushNegationsUptoSaid : Prop := fnExactPushNegationsUptoRow.holds Try.pinned (OpenSpec.upto fnExactPushNegationsSpec)

/-- 'laws.FnExactFoldCircuit', WHERE WHAT IT READS IS OF BULK AT MOST 1048576: true; the input reads as it did. -/
def fnExactFoldCircuitUptoRow : OpenClaim := { program := "ytcbjaomjamfjcaa", sum := "ddaf84349baca0a6b33c257ffeb25cf39e3ede36fe4ba68b3a57f90df2a325e0", func := "loop.example/g01080/laws.FnExactFoldCircuit", spec := "fnExactFoldCircuit", unfollowed := true, recurses := true, apart := false, narrowed := true }
def FnExactFoldCircuitUptoSaid : Prop := fnExactFoldCircuitUptoRow.holds Try.pinned (OpenSpec.upto fnExactFoldCircuitSpec)

/-- 'laws.FnExactCircuitVars', WHERE WHAT IT READS IS OF BULK AT MOST 1048576: true; the input reads as it did. -/
def fnExactCircuitVarsUptoRow : OpenClaim := { program := "ytcbjaomjamfjcaa", sum := "ddaf84349baca0a6b33c257ffeb25cf39e3ede36fe4ba68b3a57f90df2a325e0", func := "loop.example/g01080/laws.FnExactCircuitVars", spec := "fnExactCircuitVars", unfollowed := true, recurses := true, apart := false, narrowed := true }
def FnExactCircuitVarsUptoSaid : Prop := fnExactCircuitVarsUptoRow.holds Try.pinned (OpenSpec.upto fnExactCircuitVarsSpec)

/-- 'laws.FnExactAddPlanes', WHERE WHAT IT READS IS OF BULK AT MOST 1048576: true; the input reads as it did. -/
def fnExactAddPlanesUptoRow : OpenClaim := { program := "ytcbjaomjamfjcaa", sum := "ddaf84349baca0a6b33c257ffeb25cf39e3ede36fe4ba68b3a57f90df2a325e0", func := "loop.example/g01080/laws.FnExactAddPlanes", spec := "fnExactAddPlanes", unfollowed := true, recurses := true, apart := false, narrowed := true }
def FnExactAddPlanesUptoSaid : Prop := fnExactAddPlanesUptoRow.holds Try.pinned (OpenSpec.upto fnExactAddPlanesSpec)

/-- 'laws.FnExactNodesUnder', WHERE WHAT IT READS IS OF BULK AT MOST 1048576: true; the input reads as it did. -/
def fnExactNodesUnderUptoRow : OpenClaim := { program := "ytcbjaomjamfjcaa", sum := "ddaf84349baca0a6b33c257ffeb25cf39e3ede36fe4ba68b3a57f90df2a325e0", func := "loop.example/g01080/laws.FnExactNodesUnder", spec := "fnExactNodesUnder", recurses := true, apart := false, narrowed := true }
def FnExactNodesUnderUptoSaid : Prop := fnExactNodesUnderUptoRow.holds Try.pinned (OpenSpec.upto fnExactNodesUnderSpec)

/-- 'laws.FnExactIsPebbling', WHERE WHAT IT READS IS OF BULK AT MOST 1048576: true; the input reads as it did. -/
def fnExactIsPebblingUptoRow : OpenClaim := { program := "ytcbjaomjamfjcaa", sum := "ddaf84349baca0a6b33c257ffeb25cf39e3ede36fe4ba68b3a57f90df2a325e0", func := "loop.example/g01080/laws.FnExactIsPebbling", spec := "fnExactIsPebbling", apart := false, narrowed := true }
def FnExactIsPebblingUptoSaid : Prop := fnExactIsPebblingUptoRow.holds Try.pinned (OpenSpec.upto fnExactIsPebblingSpec)

/-- 'laws.FnExactSizeOfPebbling', WHERE WHAT IT READS IS OF BULK AT MOST 1048576: true; the input reads as it did. -/
def fnExactSizeOfPebblingUptoRow : OpenClaim := { program := "ytcbjaomjamfjcaa", sum := "ddaf84349baca0a6b33c257ffeb25cf39e3ede36fe4ba68b3a57f90df2a325e0", func := "loop.example/g01080/laws.FnExactSizeOfPebbling", spec := "fnExactSizeOfPebbling", apart := false, narrowed := true }
def FnExactSizeOfPebblingUptoSaid : Prop := fnExactSizeOfPebblingUptoRow.holds Try.pinned (OpenSpec.upto fnExactSizeOfPebblingSpec)

end Rows
end Go.Proofs.Ytcbjaomjamfjcaa
