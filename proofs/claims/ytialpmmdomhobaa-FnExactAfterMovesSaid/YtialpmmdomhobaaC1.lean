/-
  Contracts of small functions on integers (ranges, the greater of two) that many walks call: plain theorems, no condition.
-/
import Derived.Test.YtialpmmdomhobaaBase
import Derived.Test.YtialpmmdomhobaaProg
namespace Go.Proofs.Ytialpmmdomhobaa
set_option linter.unusedSimpArgs false
set_option linter.unusedVariables false
open Go.RowKit

set_option maxHeartbeats 400000 in
theorem l1In_c (x a b : Int) (w : World) :
    Calls Try.prog 31 #[.int .i64 x, .int .i64 a, .int .i64 b] w fun e w' => e = .returned (.bool (within x a b)) ∧ w = w' := by
  go_enter Try.func31, Try.ntmps31
  go_wp2
  all_goals (go_ret; exact ⟨ret_bool (by simp [within]; try omega), rfl⟩)
set_option maxHeartbeats 400000 in
theorem within_c (x a b : Int) (w : World) :
    Calls Try.prog 37 #[.int .i64 x, .int .i64 a, .int .i64 b] w fun e w' => e = .returned (.bool (within x a b)) ∧ w = w' := by
  go_enter Try.func37, Try.ntmps37
  go_wp2
  all_goals (go_ret; exact ⟨ret_bool (by simp [within]; try omega), rfl⟩)
theorem l1Most_c (a b : Int) (w : World) :
    Calls Try.prog 34 #[.int .i64 a, .int .i64 b] w fun e w' => e = .returned (.int .i64 (max a b)) ∧ w = w' := by
  go_enter Try.func34, Try.ntmps34
  go_wp2
  all_goals (go_ret; exact ⟨ret_int (by omega), rfl⟩)
end Go.Proofs.Ytialpmmdomhobaa
