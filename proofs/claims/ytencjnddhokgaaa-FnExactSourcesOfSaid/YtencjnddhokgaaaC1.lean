/-
  Contracts of small functions on integers (ranges, the greater of two) that many walks call: plain theorems, no condition.
-/
import Derived.Test.YtencjnddhokgaaaBase
import Derived.Test.YtencjnddhokgaaaProg
namespace Go.Proofs.Ytencjnddhokgaaa
open Go.RowKit

set_option maxHeartbeats 400000 in
theorem l1In_c (x a b : Int) (w : World) :
    Calls Try.prog 67 #[.int .i64 x, .int .i64 a, .int .i64 b] w fun e w' => e = .returned (.bool (within x a b)) ∧ w = w' := by
  go_enter Try.func67, Try.ntmps67
  go_wp2
  all_goals (go_ret; exact ⟨ret_bool (by simp [within]; try omega), rfl⟩)
set_option maxHeartbeats 400000 in
theorem within_c (x a b : Int) (w : World) :
    Calls Try.prog 69 #[.int .i64 x, .int .i64 a, .int .i64 b] w fun e w' => e = .returned (.bool (within x a b)) ∧ w = w' := by
  go_enter Try.func69, Try.ntmps69
  go_wp2
  all_goals (go_ret; exact ⟨ret_bool (by simp [within]; try omega), rfl⟩)
theorem l2Vars_c (x : Int) (w : World) :
    Calls Try.prog 95 #[.int .i64 x] w fun e w' => e = .returned (.bool (within x 0 12)) ∧ w = w' := by
  go_enter Try.func95, Try.ntmps95
  go_wp2_with (go_at_call 67; refine (l1In_c _ _ _ _).mono ?_; rintro e w' ⟨rfl, rfl⟩)
  go_ret; exact ⟨rfl, rfl⟩
theorem varsOk_c (x : Int) (w : World) :
    Calls Try.prog 100 #[.int .i64 x] w fun e w' => e = .returned (.bool (within x 0 12)) ∧ w = w' := by
  go_enter Try.func100, Try.ntmps100
  go_wp2_with (go_at_call 69; refine (within_c _ _ _ _).mono ?_; rintro e w' ⟨rfl, rfl⟩)
  go_ret; exact ⟨rfl, rfl⟩
theorem l2Lit_c (x v : Int) (w : World) :
    Calls Try.prog 96 #[.int .i64 x, .int .i64 v] w fun e w' => e = .returned (.bool (isLit x v)) ∧ w = w' := by
  go_enter Try.func96, Try.ntmps96
  go_wp2_with (go_at_call 67; refine (l1In_c _ _ _ _).mono ?_; rintro e w' ⟨rfl, rfl⟩)
  all_goals (go_ret; exact ⟨ret_bool (by simp_all [isLit]), rfl⟩)
theorem isLiteral_c (x v : Int) (w : World) :
    Calls Try.prog 98 #[.int .i64 x, .int .i64 v] w fun e w' => e = .returned (.bool (isLit x v)) ∧ w = w' := by
  go_enter Try.func98, Try.ntmps98
  go_wp2_with (go_at_call 69; refine (within_c _ _ _ _).mono ?_; rintro e w' ⟨rfl, rfl⟩)
  all_goals (go_ret; exact ⟨ret_bool (by simp_all [isLit]), rfl⟩)
theorem l2Var_c (v : Int) (w : World) :
    Calls Try.prog 97 #[.int .i64 v] w fun e w' => e = .returned (.int .i64 (absW v)) ∧ w = w' := by
  go_enter Try.func97, Try.ntmps97
  go_wp2
  all_goals (go_ret; exact ⟨ret_int (by simp_all [absW]; try omega), rfl⟩)
theorem abs_c (v : Int) (w : World) :
    Calls Try.prog 99 #[.int .i64 v] w fun e w' => e = .returned (.int .i64 (absW v)) ∧ w = w' := by
  go_enter Try.func99, Try.ntmps99
  go_wp2
  all_goals (go_ret; exact ⟨ret_int (by rw [absW_max]; omega), rfl⟩)
theorem l1Most_c (a b : Int) (w : World) :
    Calls Try.prog 76 #[.int .i64 a, .int .i64 b] w fun e w' => e = .returned (.int .i64 (max a b)) ∧ w = w' := by
  go_enter Try.func76, Try.ntmps76
  go_wp2
  all_goals (go_ret; exact ⟨ret_int (by omega), rfl⟩)
end Go.Proofs.Ytencjnddhokgaaa
