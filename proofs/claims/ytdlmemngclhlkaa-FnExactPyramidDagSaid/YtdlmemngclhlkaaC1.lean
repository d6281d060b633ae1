/-
  Contracts of small functions on integers (ranges, the greater of two) that many walks call: plain theorems, no condition.
-/
import Derived.Test.YtdlmemngclhlkaaBase
import Derived.Test.YtdlmemngclhlkaaProg
namespace Go.Proofs.Ytdlmemngclhlkaa
open Go.RowKit

set_option maxHeartbeats 400000 in
theorem l1In_c (x a b : Int) (w : World) :
    Calls Try.prog 54 #[.int .i64 x, .int .i64 a, .int .i64 b] w fun e w' => e = .returned (.bool (within x a b)) ∧ w = w' := by
  go_enter Try.func54, Try.ntmps54
  go_wp2
  all_goals (go_ret; exact ⟨ret_bool (by simp [within]; try omega), rfl⟩)
set_option maxHeartbeats 400000 in
theorem within_c (x a b : Int) (w : World) :
    Calls Try.prog 57 #[.int .i64 x, .int .i64 a, .int .i64 b] w fun e w' => e = .returned (.bool (within x a b)) ∧ w = w' := by
  go_enter Try.func57, Try.ntmps57
  go_wp2
  all_goals (go_ret; exact ⟨ret_bool (by simp [within]; try omega), rfl⟩)
theorem l2Vars_c (x : Int) (w : World) :
    Calls Try.prog 61 #[.int .i64 x] w fun e w' => e = .returned (.bool (within x 0 12)) ∧ w = w' := by
  go_enter Try.func61, Try.ntmps61
  go_wp2_with (go_at_call 54; refine (l1In_c _ _ _ _).mono ?_; rintro e w' ⟨rfl, rfl⟩)
  go_ret; exact ⟨rfl, rfl⟩
theorem varsOk_c (x : Int) (w : World) :
    Calls Try.prog 63 #[.int .i64 x] w fun e w' => e = .returned (.bool (within x 0 12)) ∧ w = w' := by
  go_enter Try.func63, Try.ntmps63
  go_wp2_with (go_at_call 57; refine (within_c _ _ _ _).mono ?_; rintro e w' ⟨rfl, rfl⟩)
  go_ret; exact ⟨rfl, rfl⟩
theorem l12Size_c (x : Int) (w : World) :
    Calls Try.prog 58 #[.int .i64 x] w fun e w' => e = .returned (.bool (within x 0 6)) ∧ w = w' := by
  go_enter Try.func58, Try.ntmps58
  go_wp2_with (go_at_call 54; refine (l1In_c _ _ _ _).mono ?_; rintro e w' ⟨rfl, rfl⟩)
  go_ret; exact ⟨rfl, rfl⟩
theorem l17Holes_c (x : Int) (w : World) :
    Calls Try.prog 53 #[.int .i64 x] w fun e w' => e = .returned (.bool (within x 1 3)) ∧ w = w' := by
  go_enter Try.func53, Try.ntmps53
  go_wp2_with (go_at_call 54; refine (l1In_c _ _ _ _).mono ?_; rintro e w' ⟨rfl, rfl⟩)
  go_ret; exact ⟨rfl, rfl⟩
theorem holesOk_c (x : Int) (w : World) :
    Calls Try.prog 56 #[.int .i64 x] w fun e w' => e = .returned (.bool (within x 1 3)) ∧ w = w' := by
  go_enter Try.func56, Try.ntmps56
  go_wp2_with (go_at_call 57; refine (within_c _ _ _ _).mono ?_; rintro e w' ⟨rfl, rfl⟩)
  go_ret; exact ⟨rfl, rfl⟩
theorem l2Lit_c (x v : Int) (w : World) :
    Calls Try.prog 70 #[.int .i64 x, .int .i64 v] w fun e w' => e = .returned (.bool (isLit x v)) ∧ w = w' := by
  go_enter Try.func70, Try.ntmps70
  go_wp2_with (go_at_call 54; refine (l1In_c _ _ _ _).mono ?_; rintro e w' ⟨rfl, rfl⟩)
  all_goals (go_ret; exact ⟨ret_bool (by simp_all [isLit]), rfl⟩)
theorem isLiteral_c (x v : Int) (w : World) :
    Calls Try.prog 72 #[.int .i64 x, .int .i64 v] w fun e w' => e = .returned (.bool (isLit x v)) ∧ w = w' := by
  go_enter Try.func72, Try.ntmps72
  go_wp2_with (go_at_call 57; refine (within_c _ _ _ _).mono ?_; rintro e w' ⟨rfl, rfl⟩)
  all_goals (go_ret; exact ⟨ret_bool (by simp_all [isLit]), rfl⟩)
theorem l2Var_c (v : Int) (w : World) :
    Calls Try.prog 96 #[.int .i64 v] w fun e w' => e = .returned (.int .i64 (absW v)) ∧ w = w' := by
  go_enter Try.func96, Try.ntmps96
  go_wp2
  all_goals (go_ret; exact ⟨ret_int (by simp_all [absW]; try omega), rfl⟩)
theorem abs_c (v : Int) (w : World) :
    Calls Try.prog 98 #[.int .i64 v] w fun e w' => e = .returned (.int .i64 (absW v)) ∧ w = w' := by
  go_enter Try.func98, Try.ntmps98
  go_wp2
  all_goals (go_ret; exact ⟨ret_int (by rw [absW_max]; omega), rfl⟩)
theorem l1Least_c (a b : Int) (w : World) :
    Calls Try.prog 85 #[.int .i64 a, .int .i64 b] w fun e w' => e = .returned (.int .i64 (min a b)) ∧ w = w' := by
  go_enter Try.func85, Try.ntmps85
  go_wp2
  all_goals (go_ret; exact ⟨ret_int (by omega), rfl⟩)
theorem l1Most_c (a b : Int) (w : World) :
    Calls Try.prog 86 #[.int .i64 a, .int .i64 b] w fun e w' => e = .returned (.int .i64 (max a b)) ∧ w = w' := by
  go_enter Try.func86, Try.ntmps86
  go_wp2
  all_goals (go_ret; exact ⟨ret_int (by omega), rfl⟩)
theorem l17Var_c (n i j : Int) (w : World) (hn : 0 ≤ n ∧ n ≤ 13) (hi : 0 ≤ i ∧ i ≤ 13) (hj : 0 ≤ j ∧ j ≤ 13) :
    Calls Try.prog 55 #[.int .i64 n, .int .i64 i, .int .i64 j] w fun e w' => e = .returned (.int .i64 ((i - 1) * n + j)) ∧ w = w' := by
  have h4 := mul_small (i-1) n ⟨by omega, by omega⟩ ⟨by omega, by omega⟩
  go_enter Try.func55, Try.ntmps55
  go_wp2
  go_ret; exact ⟨rfl, rfl⟩
theorem spec_PigeonVariable_c (n i j : Int) (w : World) :
    Calls Try.prog 15 #[.int .i64 n, .int .i64 i, .int .i64 j] w fun e w' => e = .returned (.tuple #[.int .i64 (if pigeonOk n i j then (i - 1) * n + j else 0), .bool (pigeonOk n i j)]) ∧ w = w' := by
  cases hp : pigeonOk n i j
  · simp only [Bool.false_eq_true, if_false]
    rcases and3_false hp with h1 | ⟨h1, h2⟩ | ⟨h1, h2, h3⟩ <;> clear hp
    · go_enter Try.func15, Try.ntmps15
      go_wp2_with (first | (go_at_call 53; refine (l17Holes_c _ _).mono ?_; rintro e w' ⟨rfl, rfl⟩) | (go_at_call 54; refine (l1In_c _ _ _ _).mono ?_; rintro e w' ⟨rfl, rfl⟩) | (go_at_call 55; refine (l17Var_c _ _ _ _ ?_ ?_ ?_).mono ?_; omega; omega; omega; rintro e w' ⟨rfl, rfl⟩))
      go_ret2; exact ⟨rfl, rfl⟩
    · have h1' := within_true h1
      go_enter Try.func15, Try.ntmps15
      go_wp2_with (first | (go_at_call 53; refine (l17Holes_c _ _).mono ?_; rintro e w' ⟨rfl, rfl⟩) | (go_at_call 54; refine (l1In_c _ _ _ _).mono ?_; rintro e w' ⟨rfl, rfl⟩) | (go_at_call 55; refine (l17Var_c _ _ _ _ ?_ ?_ ?_).mono ?_; omega; omega; omega; rintro e w' ⟨rfl, rfl⟩))
      go_ret2; exact ⟨rfl, rfl⟩
    · have h1' := within_true h1
      go_enter Try.func15, Try.ntmps15
      go_wp2_with (first | (go_at_call 53; refine (l17Holes_c _ _).mono ?_; rintro e w' ⟨rfl, rfl⟩) | (go_at_call 54; refine (l1In_c _ _ _ _).mono ?_; rintro e w' ⟨rfl, rfl⟩) | (go_at_call 55; refine (l17Var_c _ _ _ _ ?_ ?_ ?_).mono ?_; omega; omega; omega; rintro e w' ⟨rfl, rfl⟩))
      go_ret2; exact ⟨rfl, rfl⟩
  · obtain ⟨h1, h2, h3⟩ := and3_true hp
    clear hp
    have h1' := within_true h1
    have h2' := within_true h2
    have h3' := within_true h3
    go_enter Try.func15, Try.ntmps15
    go_wp2_with (first | (go_at_call 53; refine (l17Holes_c _ _).mono ?_; rintro e w' ⟨rfl, rfl⟩) | (go_at_call 54; refine (l1In_c _ _ _ _).mono ?_; rintro e w' ⟨rfl, rfl⟩) | (go_at_call 55; refine (l17Var_c _ _ _ _ ?_ ?_ ?_).mono ?_; omega; omega; omega; rintro e w' ⟨rfl, rfl⟩))
    go_ret2; exact ⟨rfl, rfl⟩
theorem impl_PigeonVariable_c (n i j : Int) (w : World) :
    Calls Try.prog 16 #[.int .i64 n, .int .i64 i, .int .i64 j] w fun e w' => e = .returned (.tuple #[.int .i64 (if pigeonOk n i j then (i - 1) * n + j else 0), .bool (pigeonOk n i j)]) ∧ w = w' := by
  cases hp : pigeonOk n i j
  · simp only [Bool.false_eq_true, if_false]
    rcases and3_false hp with h1 | ⟨h1, h2⟩ | ⟨h1, h2, h3⟩ <;> clear hp
    · go_enter Try.func16, Try.ntmps16
      go_wp2_with (first | (go_at_call 56; refine (holesOk_c _ _).mono ?_; rintro e w' ⟨rfl, rfl⟩) | (go_at_call 57; refine (within_c _ _ _ _).mono ?_; rintro e w' ⟨rfl, rfl⟩))
      go_ret2; exact ⟨rfl, rfl⟩
    · have h1' := within_true h1
      go_enter Try.func16, Try.ntmps16
      go_wp2_with (first | (go_at_call 56; refine (holesOk_c _ _).mono ?_; rintro e w' ⟨rfl, rfl⟩) | (go_at_call 57; refine (within_c _ _ _ _).mono ?_; rintro e w' ⟨rfl, rfl⟩))
      go_ret2; exact ⟨rfl, rfl⟩
    · have h1' := within_true h1
      go_enter Try.func16, Try.ntmps16
      go_wp2_with (first | (go_at_call 56; refine (holesOk_c _ _).mono ?_; rintro e w' ⟨rfl, rfl⟩) | (go_at_call 57; refine (within_c _ _ _ _).mono ?_; rintro e w' ⟨rfl, rfl⟩))
      go_ret2; exact ⟨rfl, rfl⟩
  · obtain ⟨h1, h2, h3⟩ := and3_true hp
    clear hp
    have h1' := within_true h1
    have h2' := within_true h2
    have h3' := within_true h3
    have h4 := mul_small (i-1) n ⟨by omega, by omega⟩ ⟨by omega, by omega⟩
    go_enter Try.func16, Try.ntmps16
    go_wp2_with (first | (go_at_call 56; refine (holesOk_c _ _).mono ?_; rintro e w' ⟨rfl, rfl⟩) | (go_at_call 57; refine (within_c _ _ _ _).mono ?_; rintro e w' ⟨rfl, rfl⟩))
    go_ret2; exact ⟨rfl, rfl⟩
theorem l12Pow_c (n : Nat) (w : World) (hn : n ≤ 6) :
    Calls Try.prog 66 #[.int .i64 n] w fun e w' => e = .returned (.int .i64 (pow3 n)) ∧ w = w' := by
  go_enter Try.func66, Try.ntmps66
  go_wp2
  refine wp_loop (fun acT wr => ∃ s0 s1 s2 s3 s4 s5 s6 s7 s8 s9 s10 : Value, ((wr = w ∧ ∃ k : Nat, k ≤ n ∧ s0 = .int .i64 ((n - k : Nat) : Int) ∧ s3 = .int .i64 (pow3 k))) ∧ acT = ⟨#[s0, s1, s2, s3, s4, s5, s6, s7, s8, s9, s10], []⟩) (fun acT wr => (fun (s0 : Value) (wr : World) => (intOf s0).toNat) (acT.tmps.getD 0 undef) wr) ?_ ?_
  · (refine ⟨_, _, _, _, _, _, _, _, _, _, _, ?_, rfl⟩; exact ⟨rfl, 0, Nat.zero_le _, rfl, rfl⟩)
  intro _ wr hinv; obtain ⟨s0, s1, s2, s3, s4, s5, s6, s7, s8, s9, s10, hrel, rfl⟩ := hinv; (try dsimp only)
  obtain ⟨rfl, k, hk, rfl, rfl⟩ := hrel
  have hb := pow3_mono (show k ≤ 6 by omega)
  have hb6 : pow3 6 = 729 := rfl
  by_cases hlt : k < n
  · obtain ⟨m, hm⟩ : ∃ m, n - k = m + 1 := ⟨n - k - 1, by omega⟩
    rw [hm]; have HM := hide hm
    have hb : pow3 k ≤ 729 := by omega
    have hm6 : m ≤ 6 := by omega
    clear hb6 hm
    go_wp2
    have hm := HM.out
    exact ⟨⟨(by first | trivial | rfl), k + 1, by omega, by rw [show n - (k + 1) = m by omega] <;> go_num, by simp only [pow3] <;> go_num⟩, (by simp [intOf] <;> omega)⟩
  · obtain rfl : k = n := by omega
    rw [show k - k = 0 by omega]
    go_wp2
    go_ret; exact ⟨rfl, rfl⟩
theorem power3_c (n : Nat) (w : World) (hn : n ≤ 6) :
    Calls Try.prog 68 #[.int .i64 n] w fun e w' => e = .returned (.int .i64 (pow3 n)) ∧ w = w' := by
  go_enter Try.func68, Try.ntmps68
  go_wp2
  refine wp_loop (fun acT wr => ∃ s0 s1 s2 s3 s4 s5 s6 s7 s8 s9 s10 : Value, (s4 = .int .i64 n ∧ (wr = w ∧ ∃ k : Nat, k ≤ n ∧ s5 = .int .i64 (k : Int) ∧ s3 = .int .i64 (pow3 k))) ∧ acT = ⟨#[s0, s1, s2, s3, s4, s5, s6, s7, s8, s9, s10], []⟩) (fun acT wr => (fun (s5 : Value) (wr : World) => n - (intOf s5).toNat) (acT.tmps.getD 5 undef) wr) ?_ ?_
  · (refine ⟨_, _, _, _, _, _, _, _, _, _, _, ⟨rfl, ?_⟩, rfl⟩; exact ⟨rfl, 0, Nat.zero_le _, rfl, rfl⟩)
  intro _ wr hinv; obtain ⟨s0, s1, s2, s3, s4, s5, s6, s7, s8, s9, s10, ⟨rfl, hrel⟩, rfl⟩ := hinv; (try dsimp only)
  obtain ⟨rfl, k, hk, rfl, rfl⟩ := hrel
  have hb : pow3 k ≤ 729 := by have := pow3_mono (show k ≤ 6 by omega); have hb6 : pow3 6 = 729 := rfl; omega
  by_cases hlt : k < n
  · go_wp2
    exact ⟨⟨(by first | trivial | rfl), (by first | trivial | rfl), k + 1, by omega, by go_num, by simp only [pow3] <;> go_num⟩, (by simp [intOf] <;> omega)⟩
  · obtain rfl : k = n := by omega
    go_wp2
    go_ret; exact ⟨rfl, rfl⟩
theorem binomial_c (n k : Nat) (w : World) (hn : n ≤ 6) (hk : k ≤ n) :
    Calls Try.prog 59 #[.int .i64 n, .int .i64 k] w fun e w' => e = .returned (.int .i64 (binom n k)) ∧ w = w' := by
  go_enter Try.func59, Try.ntmps59
  go_wp2
  refine wp_loop (fun acT wr => ∃ s0 s1 s2 s3 s4 s5 s6 s7 s8 s9 s10 s11 s12 s13 s14 s15 s16 s17 s18 s19 s20 : Value, (s0 = .int .i64 n ∧ s7 = .int .i64 k ∧ (wr = w ∧ ∃ i : Nat, i ≤ k ∧ s8 = .int .i64 (i : Int) ∧ s5 = .int .i64 (binom n i))) ∧ acT = ⟨#[s0, s1, s2, s3, s4, s5, s6, s7, s8, s9, s10, s11, s12, s13, s14, s15, s16, s17, s18, s19, s20], []⟩) (fun acT wr => (fun (s8 : Value) (wr : World) => k - (intOf s8).toNat) (acT.tmps.getD 8 undef) wr) ?_ ?_
  · (refine ⟨_, _, _, _, _, _, _, _, _, _, _, _, _, _, _, _, _, _, _, _, _, ⟨rfl, rfl, ?_⟩, rfl⟩; exact ⟨rfl, 0, Nat.zero_le _, rfl, rfl⟩)
  intro _ wr hinv; obtain ⟨s0, s1, s2, s3, s4, s5, s6, s7, s8, s9, s10, s11, s12, s13, s14, s15, s16, s17, s18, s19, s20, ⟨rfl, rfl, hrel⟩, rfl⟩ := hinv; (try dsimp only)
  obtain ⟨rfl, i, hi, rfl, rfl⟩ := hrel
  have hb := binom_small hn (show i ≤ 7 by omega)
  by_cases hlt : i < k
  · have hm := mul_small (binom n i) ((n : Int) - i) ⟨by omega, by omega⟩ ⟨by omega, by omega⟩
    go_wp2
    refine ⟨⟨(by first | trivial | rfl), (by first | trivial | rfl), (by first | trivial | rfl), i + 1, by omega, by go_num, ?_⟩, by simp [intOf]; omega⟩
    rw [show (n : Int) - i = ((n - i : Nat) : Int) by omega, Int.tdiv_eq_ediv_of_nonneg (Int.mul_nonneg (by omega) (by omega))]
    simp [binom]
  · obtain rfl : i = k := by omega
    go_wp2
    go_ret; exact ⟨rfl, rfl⟩
theorem spec_LeafBound_c (v s : Int) (w : World) :
    Calls Try.prog 17 #[.int .i64 v, .int .i64 s] w fun e w' =>
      e = .returned (.tuple #[.int .i64 (if leafOk v s then (binomSum v.toNat (s.toNat + 1) : Int) else 0), .bool (leafOk v s)]) ∧ w = w' := by
  cases hp : leafOk v s
  · simp only [Bool.false_eq_true, if_false]
    rcases and2_false hp with h1 | ⟨h1, h2⟩ <;> clear hp
    all_goals
      go_enter Try.func17, Try.ntmps17
      go_wp2_with (first | (go_at_call 58; refine (l12Size_c _ _).mono ?_; rintro e w' ⟨rfl, rfl⟩) | (go_at_call 54; refine (l1In_c _ _ _ _).mono ?_; rintro e w' ⟨rfl, rfl⟩))
      go_ret2; exact ⟨rfl, rfl⟩
  · obtain ⟨h1, h2⟩ := and2_true hp
    clear hp
    have h1' := within_true h1
    have h2' := within_true h2
    obtain ⟨n, rfl⟩ := int_nat h1'.1
    obtain ⟨k, rfl⟩ := int_nat h2'.1
    simp only [if_true, Int.toNat_natCast]
    go_enter Try.func17, Try.ntmps17
    go_wp2_with (first | (go_at_call 58; refine (l12Size_c _ _).mono ?_; rintro e w' ⟨rfl, rfl⟩) | (go_at_call 54; refine (l1In_c _ _ _ _).mono ?_; rintro e w' ⟨rfl, rfl⟩))
    refine wp_loop (fun acT wr => ∃ s0 s1 s2 s3 s4 s5 s6 s7 s8 s9 s10 s11 s12 s13 s14 s15 s16 s17 s18 s19 s20 s21 s22 s23 s24 s25 s26 s27 s28 s29 s30 s31 s32 s33 s34 : Value, (s0 = .int .i64 n ∧ s1 = .int .i64 k ∧ (wr = w ∧ ∃ i : Nat, i ≤ k + 1 ∧ s8 = .int .i64 (i : Int) ∧ s6 = .int .i64 (binomSum n i) ∧ s7 = .int .i64 (binom n i))) ∧ acT = ⟨#[s0, s1, s2, s3, s4, s5, s6, s7, s8, s9, s10, s11, s12, s13, s14, s15, s16, s17, s18, s19, s20, s21, s22, s23, s24, s25, s26, s27, s28, s29, s30, s31, s32, s33, s34], []⟩) (fun acT wr => (fun (s8 : Value) (wr : World) => k + 1 - (intOf s8).toNat) (acT.tmps.getD 8 undef) wr) ?_ ?_
    · (refine ⟨_, _, _, _, _, _, _, _, _, _, _, _, _, _, _, _, _, _, _, _, _, _, _, _, _, _, _, _, _, _, _, _, _, _, _, ⟨rfl, rfl, ?_⟩, rfl⟩; exact ⟨rfl, 0, Nat.zero_le _, rfl, rfl, rfl⟩)
    intro _ wr hinv; obtain ⟨s0, s1, s2, s3, s4, s5, s6, s7, s8, s9, s10, s11, s12, s13, s14, s15, s16, s17, s18, s19, s20, s21, s22, s23, s24, s25, s26, s27, s28, s29, s30, s31, s32, s33, s34, ⟨rfl, rfl, hrel⟩, rfl⟩ := hinv; (try dsimp only)
    obtain ⟨rfl, i, hi, rfl, rfl, rfl⟩ := hrel
    clear h1 h2
    have hb := binom_small (show n ≤ 6 by omega) (show i ≤ 7 by omega)
    have hs := binomSum_small (show n ≤ 6 by omega) (show i ≤ 7 by omega)
    by_cases hlt : i ≤ k
    · have hm := mul_small (binom n i) ((n : Int) - i) ⟨by omega, by omega⟩ ⟨by omega, by omega⟩
      go_wp2
      refine ⟨⟨(by first | trivial | rfl), (by first | trivial | rfl), (by first | trivial | rfl), i + 1, by omega, by go_num, by simp [binomSum], ?_⟩, by simp [intOf]; omega⟩
      rw [show (n : Int) - i = ((n - i : Nat) : Int) by omega, Int.tdiv_eq_ediv_of_nonneg (Int.mul_nonneg (by omega) (by omega))]
      simp [binom]
    · obtain rfl : i = k + 1 := by omega
      go_wp2
      go_ret2; exact ⟨rfl, rfl⟩
theorem impl_LeafBound_c (v s : Int) (w : World) :
    Calls Try.prog 18 #[.int .i64 v, .int .i64 s] w fun e w' =>
      e = .returned (.tuple #[.int .i64 (if leafOk v s then (binomSum v.toNat (s.toNat + 1) : Int) else 0), .bool (leafOk v s)]) ∧ w = w' := by
  cases hp : leafOk v s
  · simp only [Bool.false_eq_true, if_false]
    rcases and2_false hp with h1 | ⟨h1, h2⟩ <;> clear hp
    all_goals
      go_enter Try.func18, Try.ntmps18
      go_wp2_with (go_at_call 57; refine (within_c _ _ _ _).mono ?_; rintro e w' ⟨rfl, rfl⟩)
      go_ret2; exact ⟨rfl, rfl⟩
  · obtain ⟨h1, h2⟩ := and2_true hp
    clear hp
    have h1' := within_true h1
    have h2' := within_true h2
    obtain ⟨n, rfl⟩ := int_nat h1'.1
    obtain ⟨k, rfl⟩ := int_nat h2'.1
    simp only [if_true, Int.toNat_natCast]
    go_enter Try.func18, Try.ntmps18
    go_wp2_with (go_at_call 57; refine (within_c _ _ _ _).mono ?_; rintro e w' ⟨rfl, rfl⟩)
    refine wp_loop (fun acT wr => ∃ s0 s1 s2 s3 s4 s5 s6 s7 s8 s9 s10 s11 s12 s13 s14 s15 s16 s17 s18 s19 s20 s21 s22 s23 s24 s25 s26 s27 : Value, (s0 = .int .i64 n ∧ s1 = .int .i64 k ∧ (wr = w ∧ ∃ i : Nat, i ≤ k + 1 ∧ s7 = .int .i64 (i : Int) ∧ s6 = .int .i64 (binomSum n i))) ∧ acT = ⟨#[s0, s1, s2, s3, s4, s5, s6, s7, s8, s9, s10, s11, s12, s13, s14, s15, s16, s17, s18, s19, s20, s21, s22, s23, s24, s25, s26, s27], []⟩) (fun acT wr => (fun (s7 : Value) (wr : World) => k + 1 - (intOf s7).toNat) (acT.tmps.getD 7 undef) wr) ?_ ?_
    · (refine ⟨_, _, _, _, _, _, _, _, _, _, _, _, _, _, _, _, _, _, _, _, _, _, _, _, _, _, _, _, ⟨rfl, rfl, ?_⟩, rfl⟩; exact ⟨rfl, 0, Nat.zero_le _, rfl, rfl⟩)
    intro _ wr hinv; obtain ⟨s0, s1, s2, s3, s4, s5, s6, s7, s8, s9, s10, s11, s12, s13, s14, s15, s16, s17, s18, s19, s20, s21, s22, s23, s24, s25, s26, s27, ⟨rfl, rfl, hrel⟩, rfl⟩ := hinv; (try dsimp only)
    obtain ⟨rfl, i, hi, rfl, rfl⟩ := hrel
    clear h1 h2
    have hb := binom_small (show n ≤ 6 by omega) (show i ≤ 7 by omega)
    have hs := binomSum_small (show n ≤ 6 by omega) (show i ≤ 7 by omega)
    by_cases hlt : i ≤ k
    · go_wp2_with (go_at_call 59; refine (binomial_c _ _ _ ?_ ?_).mono ?_; omega; omega; rintro e w' ⟨rfl, rfl⟩)
      exact ⟨⟨(by first | trivial | rfl), (by first | trivial | rfl), (by first | trivial | rfl), i + 1, by omega, by go_num, by simp [binomSum]⟩, by simp [intOf]; omega⟩
    · obtain rfl : i = k + 1 := by omega
      go_wp2
      go_ret2; exact ⟨rfl, rfl⟩
end Go.Proofs.Ytdlmemngclhlkaa
