/-
  Helpers; no condition.
-/
import Derived.Test.YtaigjmbhgpcalaaBase
import Derived.Test.YtaigjmbhgpcalaaProg

namespace Go.Proofs.Ytaigjmbhgpcalaa
set_option linter.unusedSimpArgs false
set_option linter.unusedVariables false
open Go.RowKit

set_option maxHeartbeats 400000 in
theorem l1In_c (x a b : Int) (w : World) :
    Calls Try.prog 62 #[.int .i64 x, .int .i64 a, .int .i64 b] w fun e w' => e = .returned (.bool (within x a b)) ∧ w = w' := by
  go_enter Try.func62, Try.ntmps62
  go_wp2
  all_goals (go_ret; exact ⟨ret_bool (by simp [within]; try omega), rfl⟩)
set_option maxHeartbeats 400000 in
theorem within_c (x a b : Int) (w : World) :
    Calls Try.prog 44 #[.int .i64 x, .int .i64 a, .int .i64 b] w fun e w' => e = .returned (.bool (within x a b)) ∧ w = w' := by
  go_enter Try.func44, Try.ntmps44
  go_wp2
  all_goals (go_ret; exact ⟨ret_bool (by simp [within]; try omega), rfl⟩)
theorem l2Vars_c (x : Int) (w : World) :
    Calls Try.prog 73 #[.int .i64 x] w fun e w' => e = .returned (.bool (within x 0 12)) ∧ w = w' := by
  go_enter Try.func73, Try.ntmps73
  go_wp2_with (go_at_call 62; refine (l1In_c _ _ _ _).mono ?_; rintro e w' ⟨rfl, rfl⟩)
  go_ret; exact ⟨rfl, rfl⟩
theorem varsOk_c (x : Int) (w : World) :
    Calls Try.prog 66 #[.int .i64 x] w fun e w' => e = .returned (.bool (within x 0 12)) ∧ w = w' := by
  go_enter Try.func66, Try.ntmps66
  go_wp2_with (go_at_call 44; refine (within_c _ _ _ _).mono ?_; rintro e w' ⟨rfl, rfl⟩)
  go_ret; exact ⟨rfl, rfl⟩
theorem l2Lit_c (x v : Int) (w : World) :
    Calls Try.prog 74 #[.int .i64 x, .int .i64 v] w fun e w' => e = .returned (.bool (isLit x v)) ∧ w = w' := by
  go_enter Try.func74, Try.ntmps74
  go_wp2_with (go_at_call 62; refine (l1In_c _ _ _ _).mono ?_; rintro e w' ⟨rfl, rfl⟩)
  all_goals (go_ret; exact ⟨ret_bool (by simp_all [isLit]), rfl⟩)
theorem isLiteral_c (x v : Int) (w : World) :
    Calls Try.prog 79 #[.int .i64 x, .int .i64 v] w fun e w' => e = .returned (.bool (isLit x v)) ∧ w = w' := by
  go_enter Try.func79, Try.ntmps79
  go_wp2_with (go_at_call 44; refine (within_c _ _ _ _).mono ?_; rintro e w' ⟨rfl, rfl⟩)
  all_goals (go_ret; exact ⟨ret_bool (by simp_all [isLit]), rfl⟩)
theorem l2Var_c (v : Int) (w : World) :
    Calls Try.prog 75 #[.int .i64 v] w fun e w' => e = .returned (.int .i64 (absW v)) ∧ w = w' := by
  go_enter Try.func75, Try.ntmps75
  go_wp2
  all_goals (go_ret; exact ⟨ret_int (by simp_all [absW]; try omega), rfl⟩)
theorem abs_c (v : Int) (w : World) :
    Calls Try.prog 80 #[.int .i64 v] w fun e w' => e = .returned (.int .i64 (absW v)) ∧ w = w' := by
  go_enter Try.func80, Try.ntmps80
  go_wp2
  all_goals (go_ret; exact ⟨ret_int (by rw [absW_max]; omega), rfl⟩)
theorem power3_c (n : Nat) (w : World) (hn : n ≤ 6) :
    Calls Try.prog 60 #[.int .i64 n] w fun e w' => e = .returned (.int .i64 (pow3 n)) ∧ w = w' := by
  go_enter Try.func60, Try.ntmps60
  go_wp2
  refine wp_loop (fun acT wr => ∃ s0 s1 s2 s3 s4 s5 s6 s7 s8 s9 s10 : Value, (s4 = .int .i64 n ∧ (wr = w ∧ ∃ k : Nat, k ≤ n ∧ s5 = .int .i64 (k : Int) ∧ s3 = .int .i64 (pow3 k))) ∧ acT = ⟨#[s0, s1, s2, s3, s4, s5, s6, s7, s8, s9, s10], []⟩) (fun acT wr => (fun (s5 : Value) (wr : World) => n - (intOf s5).toNat) (acT.tmps.getD 5 undef) wr) ?_ ?_
  · (refine ⟨_, _, _, _, _, _, _, _, _, _, _, ⟨rfl, ?_⟩, rfl⟩; exact ⟨rfl, 0, Nat.zero_le _, rfl, rfl⟩)
  intro _ wr hinv; obtain ⟨s0, s1, s2, s3, s4, s5, s6, s7, s8, s9, s10, ⟨rfl, hrel⟩, rfl⟩ := hinv; (try dsimp only)
  obtain ⟨rfl, k, hk, rfl, rfl⟩ := hrel
  have hb : pow3 k ≤ 729 := by have := pow3_mono (show k ≤ 6 by omega); have hb6 : pow3 6 = 729 := rfl; omega
  by_cases hlt : k < n
  · go_wp2
    exact ⟨⟨(by first | trivial | rfl), (by first | trivial | rfl), k + 1, by omega, by go_num, by simp only [pow3] <;> go_num⟩, (by simp [intOf] <;> omega)⟩
  · obtain rfl : k = n := by omega
    go_wp2
    go_ret; exact ⟨rfl, rfl⟩
end Go.Proofs.Ytaigjmbhgpcalaa
