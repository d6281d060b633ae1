/-
  Contracts of small functions on integers (ranges, the greater of two) that many walks call: plain theorems, no condition.
-/
import Derived.Test.YtmpfhibncnamnaaBase
import Derived.Test.YtmpfhibncnamnaaProg
namespace Go.Proofs.Ytmpfhibncnamnaa
set_option linter.unusedSimpArgs false
set_option linter.unusedVariables false
open Go.RowKit

set_option maxHeartbeats 400000 in
theorem l1In_c (x a b : Int) (w : World) :
    Calls Try.prog 78 #[.int .i64 x, .int .i64 a, .int .i64 b] w fun e w' => e = .returned (.bool (within x a b)) ∧ w = w' := by
  go_enter Try.func78, Try.ntmps78
  go_wp2
  all_goals (go_ret; exact ⟨ret_bool (by simp [within]; try omega), rfl⟩)
set_option maxHeartbeats 400000 in
theorem within_c (x a b : Int) (w : World) :
    Calls Try.prog 110 #[.int .i64 x, .int .i64 a, .int .i64 b] w fun e w' => e = .returned (.bool (within x a b)) ∧ w = w' := by
  go_enter Try.func110, Try.ntmps110
  go_wp2
  all_goals (go_ret; exact ⟨ret_bool (by simp [within]; try omega), rfl⟩)
theorem l2Vars_c (x : Int) (w : World) :
    Calls Try.prog 118 #[.int .i64 x] w fun e w' => e = .returned (.bool (within x 0 12)) ∧ w = w' := by
  go_enter Try.func118, Try.ntmps118
  go_wp2_with (go_at_call 78; refine (l1In_c _ _ _ _).mono ?_; rintro e w' ⟨rfl, rfl⟩)
  go_ret; exact ⟨rfl, rfl⟩
theorem varsOk_c (x : Int) (w : World) :
    Calls Try.prog 122 #[.int .i64 x] w fun e w' => e = .returned (.bool (within x 0 12)) ∧ w = w' := by
  go_enter Try.func122, Try.ntmps122
  go_wp2_with (go_at_call 110; refine (within_c _ _ _ _).mono ?_; rintro e w' ⟨rfl, rfl⟩)
  go_ret; exact ⟨rfl, rfl⟩
theorem l12Size_c (x : Int) (w : World) :
    Calls Try.prog 97 #[.int .i64 x] w fun e w' => e = .returned (.bool (within x 0 6)) ∧ w = w' := by
  go_enter Try.func97, Try.ntmps97
  go_wp2_with (go_at_call 78; refine (l1In_c _ _ _ _).mono ?_; rintro e w' ⟨rfl, rfl⟩)
  go_ret; exact ⟨rfl, rfl⟩
theorem isVar_c (x v : Int) (w : World) :
    Calls Try.prog 81 #[.int .i64 x, .int .i64 v] w fun e w' => e = .returned (.bool (within v 1 x)) ∧ w = w' := by
  go_enter Try.func81, Try.ntmps81
  go_wp2_with (go_at_call 110; refine (within_c _ _ _ _).mono ?_; rintro e w' ⟨rfl, rfl⟩)
  go_ret; exact ⟨rfl, rfl⟩
theorem l2Lit_c (x v : Int) (w : World) :
    Calls Try.prog 128 #[.int .i64 x, .int .i64 v] w fun e w' => e = .returned (.bool (isLit x v)) ∧ w = w' := by
  go_enter Try.func128, Try.ntmps128
  go_wp2_with (go_at_call 78; refine (l1In_c _ _ _ _).mono ?_; rintro e w' ⟨rfl, rfl⟩)
  all_goals (go_ret; exact ⟨ret_bool (by simp_all [isLit]), rfl⟩)
theorem isLiteral_c (x v : Int) (w : World) :
    Calls Try.prog 129 #[.int .i64 x, .int .i64 v] w fun e w' => e = .returned (.bool (isLit x v)) ∧ w = w' := by
  go_enter Try.func129, Try.ntmps129
  go_wp2_with (go_at_call 110; refine (within_c _ _ _ _).mono ?_; rintro e w' ⟨rfl, rfl⟩)
  all_goals (go_ret; exact ⟨ret_bool (by simp_all [isLit]), rfl⟩)
theorem l2Var_c (v : Int) (w : World) :
    Calls Try.prog 104 #[.int .i64 v] w fun e w' => e = .returned (.int .i64 (absW v)) ∧ w = w' := by
  go_enter Try.func104, Try.ntmps104
  go_wp2
  all_goals (go_ret; exact ⟨ret_int (by simp_all [absW]; try omega), rfl⟩)
theorem abs_c (v : Int) (w : World) :
    Calls Try.prog 130 #[.int .i64 v] w fun e w' => e = .returned (.int .i64 (absW v)) ∧ w = w' := by
  go_enter Try.func130, Try.ntmps130
  go_wp2
  all_goals (go_ret; exact ⟨ret_int (by rw [absW_max]; omega), rfl⟩)
theorem l1Least_c (a b : Int) (w : World) :
    Calls Try.prog 108 #[.int .i64 a, .int .i64 b] w fun e w' => e = .returned (.int .i64 (min a b)) ∧ w = w' := by
  go_enter Try.func108, Try.ntmps108
  go_wp2
  all_goals (go_ret; exact ⟨ret_int (by omega), rfl⟩)
theorem l1Most_c (a b : Int) (w : World) :
    Calls Try.prog 100 #[.int .i64 a, .int .i64 b] w fun e w' => e = .returned (.int .i64 (max a b)) ∧ w = w' := by
  go_enter Try.func100, Try.ntmps100
  go_wp2
  all_goals (go_ret; exact ⟨ret_int (by omega), rfl⟩)
theorem l12Pow_c (n : Nat) (w : World) (hn : n ≤ 6) :
    Calls Try.prog 99 #[.int .i64 n] w fun e w' => e = .returned (.int .i64 (pow3 n)) ∧ w = w' := by
  go_enter Try.func99, Try.ntmps99
  go_wp2
  refine wp_loop (fun acT wr => ∃ s0 s1 s2 s3 s4 s5 s6 s7 s8 s9 s10 : Value, ((wr = w ∧ ∃ k : Nat, k ≤ n ∧ s0 = .int .i64 ((n - k : Nat) : Int) ∧ s3 = .int .i64 (pow3 k))) ∧ acT = ⟨#[s0, s1, s2, s3, s4, s5, s6, s7, s8, s9, s10], []⟩) (fun acT wr => (fun (s0 : Value) (wr : World) => (intOf s0).toNat) (acT.tmps.getD 0 undef) wr) ?_ ?_
  · (refine ⟨_, _, _, _, _, _, _, _, _, _, _, ?_, rfl⟩; exact ⟨rfl, 0, Nat.zero_le _, rfl, rfl⟩)
  intro _ wr hinv; obtain ⟨s0, s1, s2, s3, s4, s5, s6, s7, s8, s9, s10, hrel, rfl⟩ := hinv; (try dsimp only)
  obtain ⟨rfl, k, hk, rfl, rfl⟩ := hrel
  have hb := pow3_mono (show k ≤ 6 by omega)
  have hb6 : pow3 6 = 729 := rfl
  by_cases hlt : k < n
  · obtain ⟨m, hm⟩ : ∃ m, n - k = m + 1 := ⟨n - k - 1, by omega⟩
    rw [hm]; have HM := hide hm
    have hb : pow3 k ≤ 729 := by omega
    have hm6 : m ≤ 6 := by omega
    clear hb6 hm
    go_wp2
    have hm := HM.out
    exact ⟨⟨(by first | trivial | rfl), k + 1, by omega, by rw [show n - (k + 1) = m by omega] <;> go_num, by simp only [pow3] <;> go_num⟩, (by simp [intOf] <;> omega)⟩
  · obtain rfl : k = n := by omega
    rw [show k - k = 0 by omega]
    go_wp2
    go_ret; exact ⟨rfl, rfl⟩
theorem power3_c (n : Nat) (w : World) (hn : n ≤ 6) :
    Calls Try.prog 85 #[.int .i64 n] w fun e w' => e = .returned (.int .i64 (pow3 n)) ∧ w = w' := by
  go_enter Try.func85, Try.ntmps85
  go_wp2
  refine wp_loop (fun acT wr => ∃ s0 s1 s2 s3 s4 s5 s6 s7 s8 s9 s10 : Value, (s4 = .int .i64 n ∧ (wr = w ∧ ∃ k : Nat, k ≤ n ∧ s5 = .int .i64 (k : Int) ∧ s3 = .int .i64 (pow3 k))) ∧ acT = ⟨#[s0, s1, s2, s3, s4, s5, s6, s7, s8, s9, s10], []⟩) (fun acT wr => (fun (s5 : Value) (wr : World) => n - (intOf s5).toNat) (acT.tmps.getD 5 undef) wr) ?_ ?_
  · (refine ⟨_, _, _, _, _, _, _, _, _, _, _, ⟨rfl, ?_⟩, rfl⟩; exact ⟨rfl, 0, Nat.zero_le _, rfl, rfl⟩)
  intro _ wr hinv; obtain ⟨s0, s1, s2, s3, s4, s5, s6, s7, s8, s9, s10, ⟨rfl, hrel⟩, rfl⟩ := hinv; (try dsimp only)
  obtain ⟨rfl, k, hk, rfl, rfl⟩ := hrel
  have hb : pow3 k ≤ 729 := by have := pow3_mono (show k ≤ 6 by omega); have hb6 : pow3 6 = 729 := rfl; omega
  by_cases hlt : k < n
  · go_wp2
    exact ⟨⟨(by first | trivial | rfl), (by first | trivial | rfl), k + 1, by omega, by go_num, by simp only [pow3] <;> go_num⟩, (by simp [intOf] <;> omega)⟩
  · obtain rfl : k = n := by omega
    go_wp2
    go_ret; exact ⟨rfl, rfl⟩
end Go.Proofs.Ytmpfhibncnamnaa
