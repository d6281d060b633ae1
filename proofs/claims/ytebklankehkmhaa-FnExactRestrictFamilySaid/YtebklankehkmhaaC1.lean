/-
  Contracts of small functions on integers (ranges, the greater of two) that many walks call: plain theorems, no condition.
-/
import Derived.Test.YtebklankehkmhaaBase
import Derived.Test.YtebklankehkmhaaProg
namespace Go.Proofs.Ytebklankehkmhaa
set_option linter.unusedSimpArgs false
set_option linter.unusedVariables false
open Go.RowKit

set_option maxHeartbeats 400000 in
theorem l1In_c (x a b : Int) (w : World) :
    Calls Try.prog 69 #[.int .i64 x, .int .i64 a, .int .i64 b] w fun e w' => e = .returned (.bool (within x a b)) ∧ w = w' := by
  go_enter Try.func69, Try.ntmps69
  go_wp2
  all_goals (go_ret; exact ⟨ret_bool (by simp [within]; try omega), rfl⟩)
set_option maxHeartbeats 400000 in
theorem within_c (x a b : Int) (w : World) :
    Calls Try.prog 73 #[.int .i64 x, .int .i64 a, .int .i64 b] w fun e w' => e = .returned (.bool (within x a b)) ∧ w = w' := by
  go_enter Try.func73, Try.ntmps73
  go_wp2
  all_goals (go_ret; exact ⟨ret_bool (by simp [within]; try omega), rfl⟩)
theorem l2Vars_c (x : Int) (w : World) :
    Calls Try.prog 116 #[.int .i64 x] w fun e w' => e = .returned (.bool (within x 0 12)) ∧ w = w' := by
  go_enter Try.func116, Try.ntmps116
  go_wp2_with (go_at_call 69; refine (l1In_c _ _ _ _).mono ?_; rintro e w' ⟨rfl, rfl⟩)
  go_ret; exact ⟨rfl, rfl⟩
theorem varsOk_c (x : Int) (w : World) :
    Calls Try.prog 118 #[.int .i64 x] w fun e w' => e = .returned (.bool (within x 0 12)) ∧ w = w' := by
  go_enter Try.func118, Try.ntmps118
  go_wp2_with (go_at_call 73; refine (within_c _ _ _ _).mono ?_; rintro e w' ⟨rfl, rfl⟩)
  go_ret; exact ⟨rfl, rfl⟩
theorem isVar_c (x v : Int) (w : World) :
    Calls Try.prog 103 #[.int .i64 x, .int .i64 v] w fun e w' => e = .returned (.bool (within v 1 x)) ∧ w = w' := by
  go_enter Try.func103, Try.ntmps103
  go_wp2_with (go_at_call 73; refine (within_c _ _ _ _).mono ?_; rintro e w' ⟨rfl, rfl⟩)
  go_ret; exact ⟨rfl, rfl⟩
theorem l2Lit_c (x v : Int) (w : World) :
    Calls Try.prog 106 #[.int .i64 x, .int .i64 v] w fun e w' => e = .returned (.bool (isLit x v)) ∧ w = w' := by
  go_enter Try.func106, Try.ntmps106
  go_wp2_with (go_at_call 69; refine (l1In_c _ _ _ _).mono ?_; rintro e w' ⟨rfl, rfl⟩)
  all_goals (go_ret; exact ⟨ret_bool (by simp_all [isLit]), rfl⟩)
theorem isLiteral_c (x v : Int) (w : World) :
    Calls Try.prog 109 #[.int .i64 x, .int .i64 v] w fun e w' => e = .returned (.bool (isLit x v)) ∧ w = w' := by
  go_enter Try.func109, Try.ntmps109
  go_wp2_with (go_at_call 73; refine (within_c _ _ _ _).mono ?_; rintro e w' ⟨rfl, rfl⟩)
  all_goals (go_ret; exact ⟨ret_bool (by simp_all [isLit]), rfl⟩)
theorem l2Var_c (v : Int) (w : World) :
    Calls Try.prog 108 #[.int .i64 v] w fun e w' => e = .returned (.int .i64 (absW v)) ∧ w = w' := by
  go_enter Try.func108, Try.ntmps108
  go_wp2
  all_goals (go_ret; exact ⟨ret_int (by simp_all [absW]; try omega), rfl⟩)
theorem abs_c (v : Int) (w : World) :
    Calls Try.prog 84 #[.int .i64 v] w fun e w' => e = .returned (.int .i64 (absW v)) ∧ w = w' := by
  go_enter Try.func84, Try.ntmps84
  go_wp2
  all_goals (go_ret; exact ⟨ret_int (by rw [absW_max]; omega), rfl⟩)
theorem l1Most_c (a b : Int) (w : World) :
    Calls Try.prog 83 #[.int .i64 a, .int .i64 b] w fun e w' => e = .returned (.int .i64 (max a b)) ∧ w = w' := by
  go_enter Try.func83, Try.ntmps83
  go_wp2
  all_goals (go_ret; exact ⟨ret_int (by omega), rfl⟩)
theorem power3_c (n : Nat) (w : World) (hn : n ≤ 6) :
    Calls Try.prog 169 #[.int .i64 n] w fun e w' => e = .returned (.int .i64 (pow3 n)) ∧ w = w' := by
  go_enter Try.func169, Try.ntmps169
  go_wp2
  refine wp_loop (fun acT wr => ∃ s0 s1 s2 s3 s4 s5 s6 s7 s8 s9 s10 : Value, (s4 = .int .i64 n ∧ (wr = w ∧ ∃ k : Nat, k ≤ n ∧ s5 = .int .i64 (k : Int) ∧ s3 = .int .i64 (pow3 k))) ∧ acT = ⟨#[s0, s1, s2, s3, s4, s5, s6, s7, s8, s9, s10], []⟩) (fun acT wr => (fun (s5 : Value) (wr : World) => n - (intOf s5).toNat) (acT.tmps.getD 5 undef) wr) ?_ ?_
  · (refine ⟨_, _, _, _, _, _, _, _, _, _, _, ⟨rfl, ?_⟩, rfl⟩; exact ⟨rfl, 0, Nat.zero_le _, rfl, rfl⟩)
  intro _ wr hinv; obtain ⟨s0, s1, s2, s3, s4, s5, s6, s7, s8, s9, s10, ⟨rfl, hrel⟩, rfl⟩ := hinv; (try dsimp only)
  obtain ⟨rfl, k, hk, rfl, rfl⟩ := hrel
  have hb : pow3 k ≤ 729 := by have := pow3_mono (show k ≤ 6 by omega); have hb6 : pow3 6 = 729 := rfl; omega
  by_cases hlt : k < n
  · go_wp2
    exact ⟨⟨(by first | trivial | rfl), (by first | trivial | rfl), k + 1, by omega, by go_num, by simp only [pow3] <;> go_num⟩, (by simp [intOf] <;> omega)⟩
  · obtain rfl : k = n := by omega
    go_wp2
    go_ret; exact ⟨rfl, rfl⟩
end Go.Proofs.Ytebklankehkmhaa
