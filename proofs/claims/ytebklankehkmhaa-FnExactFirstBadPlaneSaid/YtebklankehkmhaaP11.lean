/-
  The checks of plane proofs, said of the list alone; no condition.
-/
import Derived.Test.YtebklankehkmhaaP10
namespace Go.Proofs.Ytebklankehkmhaa
set_option linter.unusedSimpArgs false
set_option linter.unusedVariables false
open Go.RowKit
theorem spec_IsPlaneStep_l (v : Int) (C : Option Addr) (nc dc : Nat) (cls : List (List Int)) (A : Option Addr) (n c : Nat) (ss : List Ps) (k : Int) (w : World) (h : Steps w A n ss) (hcl : Intss w C nc cls) :
    Calls Try.prog 24 #[.agg #[.int .i64 v, .slice C nc dc], .slice A n c, .int .i64 k] w fun e w' => e = .returned (.tuple #[.bool (stepOkB v cls ss.length k && stepB v.toNat cls ss k.toNat), .bool (stepOkB v cls ss.length k)]) ∧ Ext w w' := by
  have := spec_IsPlaneStep_c v C nc dc cls A n c ss k w h hcl
  rw [h.len] at this ⊢
  exact this
theorem impl_IsPlaneStep_l (v : Int) (C : Option Addr) (nc dc : Nat) (cls : List (List Int)) (A : Option Addr) (n c : Nat) (ss : List Ps) (k : Int) (w : World) (h : Steps w A n ss) (hcl : Intss w C nc cls) :
    Calls Try.prog 27 #[.agg #[.int .i64 v, .slice C nc dc], .slice A n c, .int .i64 k] w fun e w' => e = .returned (.tuple #[.bool (stepOkB v cls ss.length k && stepB v.toNat cls ss k.toNat), .bool (stepOkB v cls ss.length k)]) ∧ Ext w w' := by
  have := impl_IsPlaneStep_c v C nc dc cls A n c ss k w h hcl
  rw [h.len] at this ⊢
  exact this
theorem spec_FirstBadPlane_l (v : Int) (C : Option Addr) (nc dc : Nat) (cls : List (List Int)) (A : Option Addr) (n c : Nat) (ss : List Ps) (w : World) (h : Steps w A n ss) (hcl : Intss w C nc cls) :
    Calls Try.prog 30 #[.agg #[.int .i64 v, .slice C nc dc], .slice A n c] w fun e w' => e = .returned (.tuple #[.int .i64 (if takesB v cls ss.length then firstBad v.toNat cls ss else 0), .bool (takesB v cls ss.length)]) ∧ Ext w w' := by
  have := spec_FirstBadPlane_c v C nc dc cls A n c ss w h hcl
  rw [h.len] at this ⊢
  exact this
theorem impl_FirstBadPlane_l (v : Int) (C : Option Addr) (nc dc : Nat) (cls : List (List Int)) (A : Option Addr) (n c : Nat) (ss : List Ps) (w : World) (h : Steps w A n ss) (hcl : Intss w C nc cls) :
    Calls Try.prog 31 #[.agg #[.int .i64 v, .slice C nc dc], .slice A n c] w fun e w' => e = .returned (.tuple #[.int .i64 (if takesB v cls ss.length then firstBad v.toNat cls ss else 0), .bool (takesB v cls ss.length)]) ∧ Ext w w' := by
  have := impl_FirstBadPlane_c v C nc dc cls A n c ss w h hcl
  rw [h.len] at this ⊢
  exact this
end Go.Proofs.Ytebklankehkmhaa
