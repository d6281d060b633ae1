/-
  No cell of these rows narrows 'for every input' (looked for: loops, veiled, ifaces, maps, wideKeys, modest, calm, conditions, laid).
  DERIVED. THE GIVEN ROWS OF THIS SEAT. 12 by the template 'for every input the law returns true; each argument reads behind the call as it read before'; 0 by the template 'total and deterministic' (their statements: YtebklankehkmhaaTotals.lean).
  GIVEN WITH THE SEED: the statements are not yours to turn. If you find one false, say at which input.
  Laid BY PROGRAM, IN A SANDBOX (cutbox-rows.mjs): the forced cells as the released guide's own fill.sh prints them over the translation fb21c5bb4f3ebfff… (all of the seat's roots in one cut). By AI agents, Wed Nov 11 2026. No macro, syntax, notation, axiom, sorry.
-/
import Derived.Test.YtebklankehkmhaaChecked
import GoSem.Claim
import GoSem.ClaimJoined
import GoSem.ClaimMapViews
import Derived.JoinedTies
import Derived.KernelRfl
namespace Go.Proofs.Ytebklankehkmhaa
/- THE CELL 'sum', in the pinned program and in every row, IS THE sha256 OF THE DUMP (.gsa) THAT YtebklankehkmhaaProg.lean LOADS. Nothing in Lean hashes anything: it is a label: what it is worth is what the hold of that sum in a sandbox is worth. -/
noncomputable def Try.pinned : Pinned := { name := "ytebklankehkmhaa", sum := "fb21c5bb4f3ebfffcfd4e60ebb070b49cbb8705f8e3444ddf0b0bdc2b531da75", checked := Try.checked }
namespace Rows
def none {H : Type} : Left H := { results := [], args := [] }

/-- 'laws.FnExactAddPlanes': WHATEVER THE INPUT: true; the input reads as it did. -/
def fnExactAddPlanesSpec : ChangeSpec := { name := "fnExactAddPlanes", fn := fun _ => fun
  | [d1, d2, d3] => { results := [.lit (.bool true)], args := [d1, d2, d3] }
  | _ => none }
def fnExactAddPlanesRow : OpenClaim := { program := "ytebklankehkmhaa", sum := "fb21c5bb4f3ebfffcfd4e60ebb070b49cbb8705f8e3444ddf0b0bdc2b531da75", func := "loop.example/g01080/laws.FnExactAddPlanes", spec := "fnExactAddPlanes", unfollowed := true, recurses := true, apart := false }
def FnExactAddPlanesSaid : Prop := fnExactAddPlanesRow.holds Try.pinned (OpenSpec.ofChange fnExactAddPlanesSpec)

/-- ITS FALSE NEIGHBOUR: 'it returns false'. Refute it at one input. -/
def fnExactAddPlanesWrong : ChangeSpec := { name := "fnExactAddPlanes", fn := fun _ => fun
  | [d1, d2, d3] => { results := [.lit (.bool false)], args := [d1, d2, d3] }
  | _ => none }
def FnExactAddPlanesWrongFalsely : Prop := fnExactAddPlanesRow.holds Try.pinned (OpenSpec.ofChange fnExactAddPlanesWrong)

/-- 'laws.FnExactIsPlaneStep': WHATEVER THE INPUT: true; the input reads as it did. -/
def fnExactIsPlaneStepSpec : ChangeSpec := { name := "fnExactIsPlaneStep", fn := fun _ => fun
  | [d1, d2, d3] => { results := [.lit (.bool true)], args := [d1, d2, d3] }
  | _ => none }
def fnExactIsPlaneStepRow : OpenClaim := { program := "ytebklankehkmhaa", sum := "fb21c5bb4f3ebfffcfd4e60ebb070b49cbb8705f8e3444ddf0b0bdc2b531da75", func := "loop.example/g01080/laws.FnExactIsPlaneStep", spec := "fnExactIsPlaneStep", unfollowed := true, recurses := true, apart := false }
def FnExactIsPlaneStepSaid : Prop := fnExactIsPlaneStepRow.holds Try.pinned (OpenSpec.ofChange fnExactIsPlaneStepSpec)

/-- ITS FALSE NEIGHBOUR: 'it returns false'. Refute it at one input. -/
def fnExactIsPlaneStepWrong : ChangeSpec := { name := "fnExactIsPlaneStep", fn := fun _ => fun
  | [d1, d2, d3] => { results := [.lit (.bool false)], args := [d1, d2, d3] }
  | _ => none }
def FnExactIsPlaneStepWrongFalsely : Prop := fnExactIsPlaneStepRow.holds Try.pinned (OpenSpec.ofChange fnExactIsPlaneStepWrong)

/-- 'laws.FnExactFirstBadPlane': WHATEVER THE INPUT: true; the input reads as it did. -/
def fnExactFirstBadPlaneSpec : ChangeSpec := { name := "fnExactFirstBadPlane", fn := fun _ => fun
  | [d1, d2] => { results := [.lit (.bool true)], args := [d1, d2] }
  | _ => none }
def fnExactFirstBadPlaneRow : OpenClaim := { program := "ytebklankehkmhaa", sum := "fb21c5bb4f3ebfffcfd4e60ebb070b49cbb8705f8e3444ddf0b0bdc2b531da75", func := "loop.example/g01080/laws.FnExactFirstBadPlane", spec := "fnExactFirstBadPlane", unfollowed := true, recurses := true, apart := false }
def FnExactFirstBadPlaneSaid : Prop := fnExactFirstBadPlaneRow.holds Try.pinned (OpenSpec.ofChange fnExactFirstBadPlaneSpec)

/-- ITS FALSE NEIGHBOUR: 'it returns false'. Refute it at one input. -/
def fnExactFirstBadPlaneWrong : ChangeSpec := { name := "fnExactFirstBadPlane", fn := fun _ => fun
  | [d1, d2] => { results := [.lit (.bool false)], args := [d1, d2] }
  | _ => none }
def FnExactFirstBadPlaneWrongFalsely : Prop := fnExactFirstBadPlaneRow.holds Try.pinned (OpenSpec.ofChange fnExactFirstBadPlaneWrong)

/-- 'laws.FnExactIsPlaneProof': WHATEVER THE INPUT: true; the input reads as it did. -/
def fnExactIsPlaneProofSpec : ChangeSpec := { name := "fnExactIsPlaneProof", fn := fun _ => fun
  | [d1, d2] => { results := [.lit (.bool true)], args := [d1, d2] }
  | _ => none }
def fnExactIsPlaneProofRow : OpenClaim := { program := "ytebklankehkmhaa", sum := "fb21c5bb4f3ebfffcfd4e60ebb070b49cbb8705f8e3444ddf0b0bdc2b531da75", func := "loop.example/g01080/laws.FnExactIsPlaneProof", spec := "fnExactIsPlaneProof", unfollowed := true, recurses := true, apart := false }
def FnExactIsPlaneProofSaid : Prop := fnExactIsPlaneProofRow.holds Try.pinned (OpenSpec.ofChange fnExactIsPlaneProofSpec)

/-- ITS FALSE NEIGHBOUR: 'it returns false'. Refute it at one input. -/
def fnExactIsPlaneProofWrong : ChangeSpec := { name := "fnExactIsPlaneProof", fn := fun _ => fun
  | [d1, d2] => { results := [.lit (.bool false)], args := [d1, d2] }
  | _ => none }
def FnExactIsPlaneProofWrongFalsely : Prop := fnExactIsPlaneProofRow.holds Try.pinned (OpenSpec.ofChange fnExactIsPlaneProofWrong)

/-- 'laws.FnExactIsPlaneRefutation': WHATEVER THE INPUT: true; the input reads as it did. -/
def fnExactIsPlaneRefutationSpec : ChangeSpec := { name := "fnExactIsPlaneRefutation", fn := fun _ => fun
  | [d1, d2] => { results := [.lit (.bool true)], args := [d1, d2] }
  | _ => none }
def fnExactIsPlaneRefutationRow : OpenClaim := { program := "ytebklankehkmhaa", sum := "fb21c5bb4f3ebfffcfd4e60ebb070b49cbb8705f8e3444ddf0b0bdc2b531da75", func := "loop.example/g01080/laws.FnExactIsPlaneRefutation", spec := "fnExactIsPlaneRefutation", unfollowed := true, recurses := true, apart := false }
def FnExactIsPlaneRefutationSaid : Prop := fnExactIsPlaneRefutationRow.holds Try.pinned (OpenSpec.ofChange fnExactIsPlaneRefutationSpec)

/-- ITS FALSE NEIGHBOUR: 'it returns false'. Refute it at one input. -/
def fnExactIsPlaneRefutationWrong : ChangeSpec := { name := "fnExactIsPlaneRefutation", fn := fun _ => fun
  | [d1, d2] => { results := [.lit (.bool false)], args := [d1, d2] }
  | _ => none }
def FnExactIsPlaneRefutationWrongFalsely : Prop := fnExactIsPlaneRefutationRow.holds Try.pinned (OpenSpec.ofChange fnExactIsPlaneRefutationWrong)

/-- 'laws.FnExactGreatestCoeff': WHATEVER THE INPUT: true; the input reads as it did. -/
def fnExactGreatestCoeffSpec : ChangeSpec := { name := "fnExactGreatestCoeff", fn := fun _ => fun
  | [d1, d2] => { results := [.lit (.bool true)], args := [d1, d2] }
  | _ => none }
def fnExactGreatestCoeffRow : OpenClaim := { program := "ytebklankehkmhaa", sum := "fb21c5bb4f3ebfffcfd4e60ebb070b49cbb8705f8e3444ddf0b0bdc2b531da75", func := "loop.example/g01080/laws.FnExactGreatestCoeff", spec := "fnExactGreatestCoeff", unfollowed := true, recurses := true, apart := false }
def FnExactGreatestCoeffSaid : Prop := fnExactGreatestCoeffRow.holds Try.pinned (OpenSpec.ofChange fnExactGreatestCoeffSpec)

/-- ITS FALSE NEIGHBOUR: 'it returns false'. Refute it at one input. -/
def fnExactGreatestCoeffWrong : ChangeSpec := { name := "fnExactGreatestCoeff", fn := fun _ => fun
  | [d1, d2] => { results := [.lit (.bool false)], args := [d1, d2] }
  | _ => none }
def FnExactGreatestCoeffWrongFalsely : Prop := fnExactGreatestCoeffRow.holds Try.pinned (OpenSpec.ofChange fnExactGreatestCoeffWrong)

/-- 'laws.FnExactIsAllowed': WHATEVER THE INPUT: true; the input reads as it did. -/
def fnExactIsAllowedSpec : ChangeSpec := { name := "fnExactIsAllowed", fn := fun _ => fun
  | [d1, d2, d3] => { results := [.lit (.bool true)], args := [d1, d2, d3] }
  | _ => none }
def fnExactIsAllowedRow : OpenClaim := { program := "ytebklankehkmhaa", sum := "fb21c5bb4f3ebfffcfd4e60ebb070b49cbb8705f8e3444ddf0b0bdc2b531da75", func := "loop.example/g01080/laws.FnExactIsAllowed", spec := "fnExactIsAllowed", unfollowed := true, recurses := true, apart := false }
def FnExactIsAllowedSaid : Prop := fnExactIsAllowedRow.holds Try.pinned (OpenSpec.ofChange fnExactIsAllowedSpec)

/-- ITS FALSE NEIGHBOUR: 'it returns false'. Refute it at one input. -/
def fnExactIsAllowedWrong : ChangeSpec := { name := "fnExactIsAllowed", fn := fun _ => fun
  | [d1, d2, d3] => { results := [.lit (.bool false)], args := [d1, d2, d3] }
  | _ => none }
def FnExactIsAllowedWrongFalsely : Prop := fnExactIsAllowedRow.holds Try.pinned (OpenSpec.ofChange fnExactIsAllowedWrong)

/-- 'laws.FnExactIsFamily': WHATEVER THE INPUT: true; the input reads as it did. -/
def fnExactIsFamilySpec : ChangeSpec := { name := "fnExactIsFamily", fn := fun _ => fun
  | [d1, d2, d3] => { results := [.lit (.bool true)], args := [d1, d2, d3] }
  | _ => none }
def fnExactIsFamilyRow : OpenClaim := { program := "ytebklankehkmhaa", sum := "fb21c5bb4f3ebfffcfd4e60ebb070b49cbb8705f8e3444ddf0b0bdc2b531da75", func := "loop.example/g01080/laws.FnExactIsFamily", spec := "fnExactIsFamily", unfollowed := true, recurses := true, apart := false }
def FnExactIsFamilySaid : Prop := fnExactIsFamilyRow.holds Try.pinned (OpenSpec.ofChange fnExactIsFamilySpec)

/-- ITS FALSE NEIGHBOUR: 'it returns false'. Refute it at one input. -/
def fnExactIsFamilyWrong : ChangeSpec := { name := "fnExactIsFamily", fn := fun _ => fun
  | [d1, d2, d3] => { results := [.lit (.bool false)], args := [d1, d2, d3] }
  | _ => none }
def FnExactIsFamilyWrongFalsely : Prop := fnExactIsFamilyRow.holds Try.pinned (OpenSpec.ofChange fnExactIsFamilyWrong)

/-- 'laws.FnExactMeetsFamily': WHATEVER THE INPUT: true; the input reads as it did. -/
def fnExactMeetsFamilySpec : ChangeSpec := { name := "fnExactMeetsFamily", fn := fun _ => fun
  | [d1, d2, d3, d4] => { results := [.lit (.bool true)], args := [d1, d2, d3, d4] }
  | _ => none }
def fnExactMeetsFamilyRow : OpenClaim := { program := "ytebklankehkmhaa", sum := "fb21c5bb4f3ebfffcfd4e60ebb070b49cbb8705f8e3444ddf0b0bdc2b531da75", func := "loop.example/g01080/laws.FnExactMeetsFamily", spec := "fnExactMeetsFamily", unfollowed := true, recurses := true, apart := false }
def FnExactMeetsFamilySaid : Prop := fnExactMeetsFamilyRow.holds Try.pinned (OpenSpec.ofChange fnExactMeetsFamilySpec)

/-- ITS FALSE NEIGHBOUR: 'it returns false'. Refute it at one input. -/
def fnExactMeetsFamilyWrong : ChangeSpec := { name := "fnExactMeetsFamily", fn := fun _ => fun
  | [d1, d2, d3, d4] => { results := [.lit (.bool false)], args := [d1, d2, d3, d4] }
  | _ => none }
def FnExactMeetsFamilyWrongFalsely : Prop := fnExactMeetsFamilyRow.holds Try.pinned (OpenSpec.ofChange fnExactMeetsFamilyWrong)

/-- 'laws.FnExactForgetVar': WHATEVER THE INPUT: true; the input reads as it did. -/
def fnExactForgetVarSpec : ChangeSpec := { name := "fnExactForgetVar", fn := fun _ => fun
  | [d1, d2, d3, d4, d5] => { results := [.lit (.bool true)], args := [d1, d2, d3, d4, d5] }
  | _ => none }
def fnExactForgetVarRow : OpenClaim := { program := "ytebklankehkmhaa", sum := "fb21c5bb4f3ebfffcfd4e60ebb070b49cbb8705f8e3444ddf0b0bdc2b531da75", func := "loop.example/g01080/laws.FnExactForgetVar", spec := "fnExactForgetVar", unfollowed := true, recurses := true, apart := false }
def FnExactForgetVarSaid : Prop := fnExactForgetVarRow.holds Try.pinned (OpenSpec.ofChange fnExactForgetVarSpec)

/-- ITS FALSE NEIGHBOUR: 'it returns false'. Refute it at one input. -/
def fnExactForgetVarWrong : ChangeSpec := { name := "fnExactForgetVar", fn := fun _ => fun
  | [d1, d2, d3, d4, d5] => { results := [.lit (.bool false)], args := [d1, d2, d3, d4, d5] }
  | _ => none }
def FnExactForgetVarWrongFalsely : Prop := fnExactForgetVarRow.holds Try.pinned (OpenSpec.ofChange fnExactForgetVarWrong)

/-- 'laws.FnExactRestrictFamily': WHATEVER THE INPUT: true; the input reads as it did. -/
def fnExactRestrictFamilySpec : ChangeSpec := { name := "fnExactRestrictFamily", fn := fun _ => fun
  | [d1, d2, d3, d4] => { results := [.lit (.bool true)], args := [d1, d2, d3, d4] }
  | _ => none }
def fnExactRestrictFamilyRow : OpenClaim := { program := "ytebklankehkmhaa", sum := "fb21c5bb4f3ebfffcfd4e60ebb070b49cbb8705f8e3444ddf0b0bdc2b531da75", func := "loop.example/g01080/laws.FnExactRestrictFamily", spec := "fnExactRestrictFamily", unfollowed := true, recurses := true, apart := false }
def FnExactRestrictFamilySaid : Prop := fnExactRestrictFamilyRow.holds Try.pinned (OpenSpec.ofChange fnExactRestrictFamilySpec)

/-- ITS FALSE NEIGHBOUR: 'it returns false'. Refute it at one input. -/
def fnExactRestrictFamilyWrong : ChangeSpec := { name := "fnExactRestrictFamily", fn := fun _ => fun
  | [d1, d2, d3, d4] => { results := [.lit (.bool false)], args := [d1, d2, d3, d4] }
  | _ => none }
def FnExactRestrictFamilyWrongFalsely : Prop := fnExactRestrictFamilyRow.holds Try.pinned (OpenSpec.ofChange fnExactRestrictFamilyWrong)

/-- 'laws.FnExactAllowedAssignments': WHATEVER THE INPUT: true; the input reads as it did. -/
def fnExactAllowedAssignmentsSpec : ChangeSpec := { name := "fnExactAllowedAssignments", fn := fun _ => fun
  | [d1, d2] => { results := [.lit (.bool true)], args := [d1, d2] }
  | _ => none }
def fnExactAllowedAssignmentsRow : OpenClaim := { program := "ytebklankehkmhaa", sum := "fb21c5bb4f3ebfffcfd4e60ebb070b49cbb8705f8e3444ddf0b0bdc2b531da75", func := "loop.example/g01080/laws.FnExactAllowedAssignments", spec := "fnExactAllowedAssignments", unfollowed := true, recurses := true, apart := false }
def FnExactAllowedAssignmentsSaid : Prop := fnExactAllowedAssignmentsRow.holds Try.pinned (OpenSpec.ofChange fnExactAllowedAssignmentsSpec)

/-- ITS FALSE NEIGHBOUR: 'it returns false'. Refute it at one input. -/
def fnExactAllowedAssignmentsWrong : ChangeSpec := { name := "fnExactAllowedAssignments", fn := fun _ => fun
  | [d1, d2] => { results := [.lit (.bool false)], args := [d1, d2] }
  | _ => none }
def FnExactAllowedAssignmentsWrongFalsely : Prop := fnExactAllowedAssignmentsRow.holds Try.pinned (OpenSpec.ofChange fnExactAllowedAssignmentsWrong)

/- THE SECOND FORM. 'bulk': how many values and letters a reading holds, each counted each time it is reached (what is shared counts as often as it is met; a slice's spare places count too). A statement '..UptoSaid' is the law's where the arguments, and the package variables that the reading takes, are together of bulk at most 1048576: NARROWER than '..Said'. Prove '..Said' where nothing that the law and all that it calls make is longer than what came in: it says more and counts as full. Else prove '..UptoSaid'. A law counts once. -/
mutual
def uptoBulk {H : Type} : DataW H → Nat
  | .lit (.string bytes) => bytes.length + 1
  | .lit _ => 1
  | .nil => 1
  | .ptr d => uptoBulk d + 1
  | .slice elems spare => uptoBulkAll elems + uptoBulkAll spare + 1
  | .agg parts => uptoBulkAll parts + 1
  | .iface _ d => uptoBulk d + 1
  | .map entries => uptoBulkEntries entries + 1
  | .held _ => 1
def uptoBulkAll {H : Type} : List (DataW H) → Nat
  | [] => 0
  | d :: r => uptoBulk d + uptoBulkAll r
def uptoBulkEntries {H : Type} : List (Lit × DataW H) → Nat
  | [] => 0
  | x :: r => uptoBulkEntry x + uptoBulkEntries r
def uptoBulkEntry {H : Type} : Lit × DataW H → Nat
  | (.string bytes, d) => bytes.length + uptoBulk d + 1
  | (_, d) => uptoBulk d + 1
 end
def uptoSmall : (H : Type) → List (DataW H) → Bool := fun _ ds => decide (uptoBulkAll ds ≤ 1048576)
def OpenSpec.upto (s : _root_.Go.ChangeSpec) : _root_.Go.OpenSpec := { _root_.Go.OpenSpec.ofChange s with cond := some uptoSmall }

/-- 'laws.FnExactAddPlanes', WHERE WHAT IT READS IS OF BULK AT MOST 1048576: true; the input reads as it did. -/
def fnExactAddPlanesUptoRow : OpenClaim := { program := "ytebklankehkmhaa", sum := "fb21c5bb4f3ebfffcfd4e60ebb070b49cbb8705f8e3444ddf0b0bdc2b531da75", func := "loop.example/g01080/laws.FnExactAddPlanes", spec := "fnExactAddPlanes", unfollowed := true, recurses := true, apart := false, narrowed := true }
def FnExactAddPlanesUptoSaid : Prop := fnExactAddPlanesUptoRow.holds Try.pinned (OpenSpec.upto fnExactAddPlanesSpec)

/-- 'laws.FnExactIsPlaneStep', WHERE WHAT IT READS IS OF BULK AT MOST 1048576: true; the input reads as it did. -/
def fnExactIsPlaneStepUptoRow : OpenClaim := { program := "ytebklankehkmhaa", sum := "fb21c5bb4f3ebfffcfd4e60ebb070b49cbb8705f8e3444ddf0b0bdc2b531da75", func := "loop.example/g01080/laws.FnExactIsPlaneStep", spec := "fnExactIsPlaneStep", unfollowed := true, recurses := true, apart := false, narrowed := true }
def FnExactIsPlaneStepUptoSaid : Prop := fnExactIsPlaneStepUptoRow.holds Try.pinned (OpenSpec.upto fnExactIsPlaneStepSpec)

/-- 'laws.FnExactFirstBadPlane', WHERE WHAT IT READS IS OF BULK AT MOST 1048576: true; the input reads as it did. -/
def fnExactFirstBadPlaneUptoRow : OpenClaim := { program := "ytebklankehkmhaa", sum := "fb21c5bb4f3ebfffcfd4e60ebb070b49cbb8705f8e3444ddf0b0bdc2b531da75", func := "loop.example/g01080/laws.FnExactFirstBadPlane", spec := "fnExactFirstBadPlane", unfollowed := true, recurses := true, apart := false, narrowed := true }
def FnExactFirstBadPlaneUptoSaid : Prop := fnExactFirstBadPlaneUptoRow.holds Try.pinned (OpenSpec.upto fnExactFirstBadPlaneSpec)

/-- 'laws.FnExactIsPlaneProof', WHERE WHAT IT READS IS OF BULK AT MOST 1048576: true; the input reads as it did. -/
def fnExactIsPlaneProofUptoRow : OpenClaim := { program := "ytebklankehkmhaa", sum := "fb21c5bb4f3ebfffcfd4e60ebb070b49cbb8705f8e3444ddf0b0bdc2b531da75", func := "loop.example/g01080/laws.FnExactIsPlaneProof", spec := "fnExactIsPlaneProof", unfollowed := true, recurses := true, apart := false, narrowed := true }
def FnExactIsPlaneProofUptoSaid : Prop := fnExactIsPlaneProofUptoRow.holds Try.pinned (OpenSpec.upto fnExactIsPlaneProofSpec)

/-- 'laws.FnExactIsPlaneRefutation', WHERE WHAT IT READS IS OF BULK AT MOST 1048576: true; the input reads as it did. -/
def fnExactIsPlaneRefutationUptoRow : OpenClaim := { program := "ytebklankehkmhaa", sum := "fb21c5bb4f3ebfffcfd4e60ebb070b49cbb8705f8e3444ddf0b0bdc2b531da75", func := "loop.example/g01080/laws.FnExactIsPlaneRefutation", spec := "fnExactIsPlaneRefutation", unfollowed := true, recurses := true, apart := false, narrowed := true }
def FnExactIsPlaneRefutationUptoSaid : Prop := fnExactIsPlaneRefutationUptoRow.holds Try.pinned (OpenSpec.upto fnExactIsPlaneRefutationSpec)

/-- 'laws.FnExactGreatestCoeff', WHERE WHAT IT READS IS OF BULK AT MOST 1048576: true; the input reads as it did. -/
def fnExactGreatestCoeffUptoRow : OpenClaim := { program := "ytebklankehkmhaa", sum := "fb21c5bb4f3ebfffcfd4e60ebb070b49cbb8705f8e3444ddf0b0bdc2b531da75", func := "loop.example/g01080/laws.FnExactGreatestCoeff", spec := "fnExactGreatestCoeff", unfollowed := true, recurses := true, apart := false, narrowed := true }
def FnExactGreatestCoeffUptoSaid : Prop := fnExactGreatestCoeffUptoRow.holds Try.pinned (OpenSpec.upto fnExactGreatestCoeffSpec)

/-- 'laws.FnExactIsAllowed', WHERE WHAT IT READS IS OF BULK AT MOST 1048576: true; the input reads as it did. -/
def fnExactIsAllowedUptoRow : OpenClaim := { program := "ytebklankehkmhaa", sum := "fb21c5bb4f3ebfffcfd4e60ebb070b49cbb8705f8e3444ddf0b0bdc2b531da75", func := "loop.example/g01080/laws.FnExactIsAllowed", spec := "fnExactIsAllowed", unfollowed := true, recurses := true, apart := false, narrowed := true }
def FnExactIsAllowedUptoSaid : Prop := fnExactIsAllowedUptoRow.holds Try.pinned (OpenSpec.upto fnExactIsAllowedSpec)

/-- 'laws.FnExactIsFamily', WHERE WHAT IT READS IS OF BULK AT MOST 1048576: true; the input reads as it did. -/
def fnExactIsFamilyUptoRow : OpenClaim := { program := "ytebklankehkmhaa", sum := "fb21c5bb4f3ebfffcfd4e60ebb070b49cbb8705f8e3444ddf0b0bdc2b531da75", func := "loop.example/g01080/laws.FnExactIsFamily", spec := "fnExactIsFamily", unfollowed := true, recurses := true, apart := false, narrowed := true }
def FnExactIsFamilyUptoSaid : Prop := fnExactIsFamilyUptoRow.holds Try.pinned (OpenSpec.upto fnExactIsFamilySpec)

/-- 'laws.FnExactMeetsFamily', WHERE WHAT IT READS IS OF BULK AT MOST 1048576: true; the input reads as it did. -/
def fnExactMeetsFamilyUptoRow : OpenClaim := { program := "ytebklankehkmhaa", sum := "fb21c5bb4f3ebfffcfd4e60ebb070b49cbb8705f8e3444ddf0b0bdc2b531da75", func := "loop.example/g01080/laws.FnExactMeetsFamily", spec := "fnExactMeetsFamily", unfollowed := true, recurses := true, apart := false, narrowed := true }
def FnExactMeetsFamilyUptoSaid : Prop := fnExactMeetsFamilyUptoRow.holds Try.pinned (OpenSpec.upto fnExactMeetsFamilySpec)

/-- 'laws.FnExactForgetVar', WHERE WHAT IT READS IS OF BULK AT MOST 1048576: true; the input reads as it did. -/
def fnExactForgetVarUptoRow : OpenClaim := { program := "ytebklankehkmhaa", sum := "fb21c5bb4f3ebfffcfd4e60ebb070b49cbb8705f8e3444ddf0b0bdc2b531da75", func := "loop.example/g01080/laws.FnExactForgetVar", spec := "fnExactForgetVar", unfollowed := true, recurses := true, apart := false, narrowed := true }
def FnExactForgetVarUptoSaid : Prop := fnExactForgetVarUptoRow.holds Try.pinned (OpenSpec.upto fnExactForgetVarSpec)

/-- 'laws.FnExactRestrictFamily', WHERE WHAT IT READS IS OF BULK AT MOST 1048576: true; the input reads as it did. -/
def fnExactRestrictFamilyUptoRow : OpenClaim := { program := "ytebklankehkmhaa", sum := "fb21c5bb4f3ebfffcfd4e60ebb070b49cbb8705f8e3444ddf0b0bdc2b531da75", func := "loop.example/g01080/laws.FnExactRestrictFamily", spec := "fnExactRestrictFamily", unfollowed := true, recurses := true, apart := false, narrowed := true }
def FnExactRestrictFamilyUptoSaid : Prop := fnExactRestrictFamilyUptoRow.holds Try.pinned (OpenSpec.upto fnExactRestrictFamilySpec)

/-- 'laws.FnExactAllowedAssignments', WHERE WHAT IT READS IS OF BULK AT MOST 1048576: true; the input reads as it did. -/
def fnExactAllowedAssignmentsUptoRow : OpenClaim := { program := "ytebklankehkmhaa", sum := "fb21c5bb4f3ebfffcfd4e60ebb070b49cbb8705f8e3444ddf0b0bdc2b531da75", func := "loop.example/g01080/laws.FnExactAllowedAssignments", spec := "fnExactAllowedAssignments", unfollowed := true, recurses := true, apart := false, narrowed := true }
def FnExactAllowedAssignmentsUptoSaid : Prop := fnExactAllowedAssignmentsUptoRow.holds Try.pinned (OpenSpec.upto fnExactAllowedAssignmentsSpec)

end Rows
end Go.Proofs.Ytebklankehkmhaa
