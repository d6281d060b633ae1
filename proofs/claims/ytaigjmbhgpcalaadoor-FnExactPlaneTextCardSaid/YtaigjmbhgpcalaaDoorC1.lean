/-
  Contracts of small functions on integers (ranges, the greater of two) that many walks call: plain theorems, no condition.
-/
import Derived.Test.YtaigjmbhgpcalaaDoorBase
import Derived.Test.YtaigjmbhgpcalaaDoorProg
namespace Go.Proofs.YtaigjmbhgpcalaaDoor
set_option linter.unusedSimpArgs false
set_option linter.unusedVariables false
open Go.RowKit

set_option maxHeartbeats 400000 in
theorem l1In_c (x a b : Int) (w : World) :
    Calls Tryd.prog 48 #[.int .i64 x, .int .i64 a, .int .i64 b] w fun e w' => e = .returned (.bool (within x a b)) ∧ w = w' := by
  go_enter Tryd.func48, Tryd.ntmps48
  go_wp2
  all_goals (go_ret; exact ⟨ret_bool (by simp [within]; try omega), rfl⟩)
set_option maxHeartbeats 400000 in
theorem within_c (x a b : Int) (w : World) :
    Calls Tryd.prog 33 #[.int .i64 x, .int .i64 a, .int .i64 b] w fun e w' => e = .returned (.bool (within x a b)) ∧ w = w' := by
  go_enter Tryd.func33, Tryd.ntmps33
  go_wp2
  all_goals (go_ret; exact ⟨ret_bool (by simp [within]; try omega), rfl⟩)
theorem l2Vars_c (x : Int) (w : World) :
    Calls Tryd.prog 30 #[.int .i64 x] w fun e w' => e = .returned (.bool (within x 0 12)) ∧ w = w' := by
  go_enter Tryd.func30, Tryd.ntmps30
  go_wp2_with (go_at_call 48; refine (l1In_c _ _ _ _).mono ?_; rintro e w' ⟨rfl, rfl⟩)
  go_ret; exact ⟨rfl, rfl⟩
theorem varsOk_c (x : Int) (w : World) :
    Calls Tryd.prog 32 #[.int .i64 x] w fun e w' => e = .returned (.bool (within x 0 12)) ∧ w = w' := by
  go_enter Tryd.func32, Tryd.ntmps32
  go_wp2_with (go_at_call 33; refine (within_c _ _ _ _).mono ?_; rintro e w' ⟨rfl, rfl⟩)
  go_ret; exact ⟨rfl, rfl⟩
theorem l2Lit_c (x v : Int) (w : World) :
    Calls Tryd.prog 53 #[.int .i64 x, .int .i64 v] w fun e w' => e = .returned (.bool (isLit x v)) ∧ w = w' := by
  go_enter Tryd.func53, Tryd.ntmps53
  go_wp2_with (go_at_call 48; refine (l1In_c _ _ _ _).mono ?_; rintro e w' ⟨rfl, rfl⟩)
  all_goals (go_ret; exact ⟨ret_bool (by simp_all [isLit]), rfl⟩)
theorem isLiteral_c (x v : Int) (w : World) :
    Calls Tryd.prog 56 #[.int .i64 x, .int .i64 v] w fun e w' => e = .returned (.bool (isLit x v)) ∧ w = w' := by
  go_enter Tryd.func56, Tryd.ntmps56
  go_wp2_with (go_at_call 33; refine (within_c _ _ _ _).mono ?_; rintro e w' ⟨rfl, rfl⟩)
  all_goals (go_ret; exact ⟨ret_bool (by simp_all [isLit]), rfl⟩)
theorem l2Var_c (v : Int) (w : World) :
    Calls Tryd.prog 54 #[.int .i64 v] w fun e w' => e = .returned (.int .i64 (absW v)) ∧ w = w' := by
  go_enter Tryd.func54, Tryd.ntmps54
  go_wp2
  all_goals (go_ret; exact ⟨ret_int (by simp_all [absW]; try omega), rfl⟩)
theorem abs_c (v : Int) (w : World) :
    Calls Tryd.prog 57 #[.int .i64 v] w fun e w' => e = .returned (.int .i64 (absW v)) ∧ w = w' := by
  go_enter Tryd.func57, Tryd.ntmps57
  go_wp2
  all_goals (go_ret; exact ⟨ret_int (by rw [absW_max]; omega), rfl⟩)
end Go.Proofs.YtaigjmbhgpcalaaDoor
