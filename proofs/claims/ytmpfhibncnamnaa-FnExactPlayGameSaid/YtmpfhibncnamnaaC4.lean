/-
  Codes of assignments: what the reference's and the program's functions compute.
-/
import Derived.Test.YtmpfhibncnamnaaC2
namespace Go.Proofs.Ytmpfhibncnamnaa
set_option linter.unusedSimpArgs false
set_option linter.unusedVariables false
open Go.RowKit

theorem l12Of_c (n c : Nat) (w : World) (hn : n ≤ 6) (hcode : c ≤ 1000) :
    Calls Try.prog 65 #[.int .i64 n, .int .i64 c] w fun e w' =>
      ∃ A m d, e = .returned (.slice A m d) ∧ Own w' w.heap.size 3 1 A m d ((codeLits n 1 c).map (Value.int .i64)) ∧ m ≤ 6 ∧ Ext w w' := by
  go_enter Try.func65, Try.ntmps65
  go_wp2
  refine wp_loop (fun acT wr => ∃ s0 s1 s2 s3 s4 s5 s6 s7 s8 s9 s10 s11 s12 s13 s14 s15 s16 s17 s18 s19 s20 s21 s22 s23 s24 s25 s26 s27 s28 s29 s30 : Value, (s0 = .int .i64 n ∧ (Ext w wr ∧ ∃ k : Nat, k ≤ n ∧ s6 = .int .i64 ((k + 1 : Nat) : Int) ∧ ∃ b : Nat, s1 = .int .i64 (b : Int) ∧ b ≤ 1000 ∧ ∃ A m d ys, s5 = .slice A m d ∧ Own wr w.heap.size 3 1 A m d (ys.map (Value.int .i64)) ∧ m ≤ k ∧ Hid (ys ++ codeLits (n - k) (k + 1) b = codeLits n 1 c))) ∧ acT = ⟨#[s0, s1, s2, s3, s4, s5, s6, s7, s8, s9, s10, s11, s12, s13, s14, s15, s16, s17, s18, s19, s20, s21, s22, s23, s24, s25, s26, s27, s28, s29, s30], []⟩) (fun acT wr => (fun (s6 : Value) (wr : World) => n + 1 - (intOf s6).toNat) (acT.tmps.getD 6 undef) wr) ?_ ?_
  · (refine ⟨_, _, _, _, _, _, _, _, _, _, _, _, _, _, _, _, _, _, _, _, _, _, _, _, _, _, _, _, _, _, _, ⟨rfl, ?_⟩, rfl⟩; exact ⟨(Ext.refl _).alloc _, 0, by omega, rfl, c, rfl, hcode, _, _, _, [], rfl, Own.lit [] 0 (Nat.le_refl _) (by simp [maxLen]) rfl, by omega, by simp [Hid]⟩)
  intro _ wr hinv; obtain ⟨s0, s1, s2, s3, s4, s5, s6, s7, s8, s9, s10, s11, s12, s13, s14, s15, s16, s17, s18, s19, s20, s21, s22, s23, s24, s25, s26, s27, s28, s29, s30, ⟨rfl, hrel⟩, rfl⟩ := hinv; (try dsimp only)
  obtain ⟨he, k, hk, rfl, b, rfl, hb, A, m, d, ys, rfl, ho, hm, hq⟩ := hrel
  have hz := he.size
  by_cases hlt : k < n
  · obtain ⟨r, hr⟩ : ∃ r, n - k = r + 1 := ⟨n - k - 1, by omega⟩
    rw [hr] at hq
    have hr' : n - (k + 1) = r := by omega
    have HR := hide hr'
    clear hr hr'
    by_cases h1 : b % 3 = 1
    · have H1 := hide h1
      have ht1 : ((b : Int) % 3 == 1) = true := by simp; omega
      clear h1
      go_wp2_with (at_builtin; refine wpList_app rfl _ _ _ _ rfl Try.underlying32 _ 1 8 info_int rfl (by decide) rfl ho 1 [.int .i64 (-((k : Int) + 1))] (by first | rfl | simp [go_sem]) rfl ?_ ?_ ?_ ?_ ?_; (intro u hu; simp at hu; first | (subst hu; rfl) | (rcases hu with rfl | rfl <;> rfl) | (rcases hu with rfl | rfl | rfl <;> rfl)); omega; omega; omega; intro A' c' w' ho' hg' hb')
      refine ⟨⟨(by first | trivial | rfl), he.own ho hg', k + 1, by omega, by go_num, b / 3, by go_num, by omega, _, _, _, ys ++ [-((k : Int) + 1)], rfl, by simpa using ho', by omega, ?_⟩, (by simp [intOf] <;> omega)⟩
      rw [HR.out]
      have := codeLits_hit1 H1.out hq
      simpa using this
    · by_cases h2 : b % 3 = 2
      · have H2 := hide h2
        have ht1 : ((b : Int) % 3 == 1) = false := by simp; omega
        have ht2 : ((b : Int) % 3 == 2) = true := by simp; omega
        clear h1 h2
        go_wp2_with (at_builtin; refine wpList_app rfl _ _ _ _ rfl Try.underlying32 _ 1 8 info_int rfl (by decide) rfl ho 1 [.int .i64 ((k : Int) + 1)] (by first | rfl | simp [go_sem]) rfl ?_ ?_ ?_ ?_ ?_; (intro u hu; simp at hu; first | (subst hu; rfl) | (rcases hu with rfl | rfl <;> rfl) | (rcases hu with rfl | rfl | rfl <;> rfl)); omega; omega; omega; intro A' c' w' ho' hg' hb')
        refine ⟨⟨(by first | trivial | rfl), he.own ho hg', k + 1, by omega, by go_num, b / 3, by go_num, by omega, _, _, _, ys ++ [((k : Int) + 1)], rfl, by simpa using ho', by omega, ?_⟩, (by simp [intOf] <;> omega)⟩
        rw [HR.out]
        have := codeLits_hit2 H2.out hq
        simpa using this
      · have ht1 : ((b : Int) % 3 == 1) = false := by simp; omega
        have ht2 : ((b : Int) % 3 == 2) = false := by simp; omega
        have H0 := hide (codeLits_hit0 h1 h2 hq)
        clear h1 h2
        go_wp2
        refine ⟨⟨(by first | trivial | rfl), he, k + 1, by omega, by go_num, b / 3, by go_num, by omega, _, _, _, ys, rfl, ho, by omega, ?_⟩, (by simp [intOf] <;> omega)⟩
        rw [HR.out]
        exact H0.out
  · obtain rfl : k = n := by omega
    have hys : ys = codeLits k 1 c := by have := hq.out; simpa [codeLits] using this
    subst hys
    go_wp2
    go_ret
    exact ⟨_, _, _, rfl, ho, by omega, he⟩
theorem ofCode_c (n c : Nat) (w : World) (hn : n ≤ 6) (hcode : c ≤ 1000) :
    Calls Try.prog 70 #[.int .i64 n, .int .i64 c] w fun e w' =>
      ∃ A m d, e = .returned (.slice A m d) ∧ Own w' w.heap.size 3 1 A m d ((codeLits n 1 c).map (Value.int .i64)) ∧ m ≤ 6 ∧ Ext w w' := by
  go_enter Try.func70, Try.ntmps70
  go_wp2
  refine wp_loop (fun acT wr => ∃ s0 s1 s2 s3 s4 s5 s6 s7 s8 s9 s10 s11 s12 s13 s14 s15 s16 s17 s18 s19 s20 s21 s22 s23 s24 s25 s26 s27 s28 s29 : Value, (s0 = .int .i64 n ∧ (Ext w wr ∧ ∃ k : Nat, k ≤ n ∧ s6 = .int .i64 ((k + 1 : Nat) : Int) ∧ ∃ b : Nat, s1 = .int .i64 (b : Int) ∧ b ≤ 1000 ∧ ∃ A m d ys, s5 = .slice A m d ∧ Own wr w.heap.size 3 1 A m d (ys.map (Value.int .i64)) ∧ m ≤ k ∧ Hid (ys ++ codeLits (n - k) (k + 1) b = codeLits n 1 c))) ∧ acT = ⟨#[s0, s1, s2, s3, s4, s5, s6, s7, s8, s9, s10, s11, s12, s13, s14, s15, s16, s17, s18, s19, s20, s21, s22, s23, s24, s25, s26, s27, s28, s29], []⟩) (fun acT wr => (fun (s6 : Value) (wr : World) => n + 1 - (intOf s6).toNat) (acT.tmps.getD 6 undef) wr) ?_ ?_
  · (refine ⟨_, _, _, _, _, _, _, _, _, _, _, _, _, _, _, _, _, _, _, _, _, _, _, _, _, _, _, _, _, _, ⟨rfl, ?_⟩, rfl⟩; exact ⟨Ext.refl _, 0, by omega, rfl, c, rfl, hcode, _, _, _, [], rfl, Own.nil _ _ _ _, by omega, by simp [Hid]⟩)
  intro _ wr hinv; obtain ⟨s0, s1, s2, s3, s4, s5, s6, s7, s8, s9, s10, s11, s12, s13, s14, s15, s16, s17, s18, s19, s20, s21, s22, s23, s24, s25, s26, s27, s28, s29, ⟨rfl, hrel⟩, rfl⟩ := hinv; (try dsimp only)
  obtain ⟨he, k, hk, rfl, b, rfl, hb, A, m, d, ys, rfl, ho, hm, hq⟩ := hrel
  have hz := he.size
  by_cases hlt : k < n
  · obtain ⟨r, hr⟩ : ∃ r, n - k = r + 1 := ⟨n - k - 1, by omega⟩
    rw [hr] at hq
    have hr' : n - (k + 1) = r := by omega
    have HR := hide hr'
    clear hr hr'
    by_cases h1 : b % 3 = 1
    · have H1 := hide h1
      have ht1 : ((b : Int) % 3 == 1) = true := by simp; omega
      clear h1
      go_wp2_with (at_builtin; refine wpList_app rfl _ _ _ _ rfl Try.underlying32 _ 1 8 info_int rfl (by decide) rfl ho 1 [.int .i64 (-((k : Int) + 1))] (by first | rfl | simp [go_sem]) rfl ?_ ?_ ?_ ?_ ?_; (intro u hu; simp at hu; first | (subst hu; rfl) | (rcases hu with rfl | rfl <;> rfl) | (rcases hu with rfl | rfl | rfl <;> rfl)); omega; omega; omega; intro A' c' w' ho' hg' hb')
      refine ⟨⟨(by first | trivial | rfl), he.own ho hg', k + 1, by omega, by go_num, b / 3, by go_num, by omega, _, _, _, ys ++ [-((k : Int) + 1)], rfl, by simpa using ho', by omega, ?_⟩, (by simp [intOf] <;> omega)⟩
      rw [HR.out]
      have := codeLits_hit1 H1.out hq
      simpa using this
    · by_cases h2 : b % 3 = 2
      · have H2 := hide h2
        have ht1 : ((b : Int) % 3 == 1) = false := by simp; omega
        have ht2 : ((b : Int) % 3 == 2) = true := by simp; omega
        clear h1 h2
        go_wp2_with (at_builtin; refine wpList_app rfl _ _ _ _ rfl Try.underlying32 _ 1 8 info_int rfl (by decide) rfl ho 1 [.int .i64 ((k : Int) + 1)] (by first | rfl | simp [go_sem]) rfl ?_ ?_ ?_ ?_ ?_; (intro u hu; simp at hu; first | (subst hu; rfl) | (rcases hu with rfl | rfl <;> rfl) | (rcases hu with rfl | rfl | rfl <;> rfl)); omega; omega; omega; intro A' c' w' ho' hg' hb')
        refine ⟨⟨(by first | trivial | rfl), he.own ho hg', k + 1, by omega, by go_num, b / 3, by go_num, by omega, _, _, _, ys ++ [((k : Int) + 1)], rfl, by simpa using ho', by omega, ?_⟩, (by simp [intOf] <;> omega)⟩
        rw [HR.out]
        have := codeLits_hit2 H2.out hq
        simpa using this
      · have ht1 : ((b : Int) % 3 == 1) = false := by simp; omega
        have ht2 : ((b : Int) % 3 == 2) = false := by simp; omega
        have H0 := hide (codeLits_hit0 h1 h2 hq)
        clear h1 h2
        go_wp2
        refine ⟨⟨(by first | trivial | rfl), he, k + 1, by omega, by go_num, b / 3, by go_num, by omega, _, _, _, ys, rfl, ho, by omega, ?_⟩, (by simp [intOf] <;> omega)⟩
        rw [HR.out]
        exact H0.out
  · obtain rfl : k = n := by omega
    have hys : ys = codeLits k 1 c := by have := hq.out; simpa [codeLits] using this
    subst hys
    go_wp2
    go_ret
    exact ⟨_, _, _, rfl, ho, by omega, he⟩

/-- The code of a list of literals. -/
def digit (l : Int) : Nat := (if 0 < l then 2 else 1) * pow3 (l.natAbs - 1)
def codeOf (c : List Int) : Nat := (c.map digit).sum
theorem codeOf_succ {c : List Int} {i : Nat} {x : Int} (hx : Hid (c[i]? = some x)) : codeOf (c.take (i + 1)) = codeOf (c.take i) + digit x := by
  rw [take_succ_of hx]; simp [codeOf]
theorem codeOf_all {c : List Int} {i : Nat} (h : c.length ≤ i) : codeOf (c.take i) = codeOf c := by rw [List.take_of_length_le h]
theorem digit_pos (m : Nat) : digit ((m + 1 : Nat) : Int) = 2 * pow3 m := by
  unfold digit; rw [if_pos (by omega), show (((m + 1 : Nat) : Int)).natAbs - 1 = m by omega]
theorem digit_neg (m : Nat) : digit (-((m + 1 : Nat) : Int)) = pow3 m := by
  unfold digit; rw [if_neg (by omega), show (-((m + 1 : Nat) : Int)).natAbs - 1 = m by omega]; omega
theorem digit_le {l : Int} (h : -6 ≤ l ∧ l ≤ 6 ∧ l ≠ 0) : digit l ≤ 486 := by
  have h1 : l.natAbs - 1 ≤ 5 := by omega
  have h2 := pow3_mono h1
  have h3 : pow3 5 = 243 := rfl
  unfold digit
  split <;> omega
theorem codeOf_le {c : List Int} (h : ∀ x ∈ c, -6 ≤ x ∧ x ≤ 6 ∧ x ≠ 0) (k : Nat) : codeOf (c.take k) ≤ 486 * k := by
  induction k with
  | zero => simp [codeOf]
  | succ k ih =>
    by_cases hk : k < c.length
    · have hx : Hid (c[k]? = some c[k]) := hide (List.getElem?_eq_getElem hk)
      rw [codeOf_succ hx]
      have := digit_le (h _ (List.getElem_mem hk))
      omega
    · rw [codeOf_all (by omega)]
      rw [codeOf_all (by omega)] at ih
      omega
theorem l12Code_c (A : Option Addr) (n d : Nat) (c : List Int) (w : World) (h : Ints w A n c) (hn : n ≤ 6) (hc6 : ∀ x ∈ c, -6 ≤ x ∧ x ≤ 6 ∧ x ≠ 0) :
    Calls Try.prog 60 #[.slice A n d] w fun e w' => e = .returned (.int .i64 (codeOf c : Int)) ∧ Ext w w' := by
  have HC := hide hc6
  clear hc6
  go_enter Try.func60, Try.ntmps60
  go_wp2
  refine wp_loop (fun acT wr => ∃ s0 s1 s2 s3 s4 s5 s6 s7 s8 s9 s10 s11 s12 s13 s14 s15 s16 s17 s18 s19 s20 s21 s22 s23 s24 s25 s26 s27 s28 : Value, (s0 = .slice A n d ∧ (Ext w wr ∧ ∃ i : Nat, i ≤ n ∧ s4 = .int .i64 (i : Int) ∧ ∃ b : Nat, s3 = .int .i64 (b : Int) ∧ Hid (b = codeOf (c.take i)))) ∧ acT = ⟨#[s0, s1, s2, s3, s4, s5, s6, s7, s8, s9, s10, s11, s12, s13, s14, s15, s16, s17, s18, s19, s20, s21, s22, s23, s24, s25, s26, s27, s28], []⟩) (fun acT wr => (fun (s4 : Value) (wr : World) => n - (intOf s4).toNat) (acT.tmps.getD 4 undef) wr) ?_ ?_
  · (refine ⟨_, _, _, _, _, _, _, _, _, _, _, _, _, _, _, _, _, _, _, _, _, _, _, _, _, _, _, _, _, ⟨rfl, ?_⟩, rfl⟩; exact ⟨Ext.refl _, 0, Nat.zero_le _, rfl, 0, rfl, by simp [Hid, codeOf]⟩)
  intro _ wr hinv; obtain ⟨s0, s1, s2, s3, s4, s5, s6, s7, s8, s9, s10, s11, s12, s13, s14, s15, s16, s17, s18, s19, s20, s21, s22, s23, s24, s25, s26, s27, s28, ⟨rfl, hrel⟩, rfl⟩ := hinv; (try dsimp only)
  obtain ⟨he, i, hi, rfl, b, rfl, hq⟩ := hrel
  have hb : b ≤ 3000 := by have := codeOf_le HC.out i; have := hq.out; omega
  by_cases hlt : i < n
  · obtain ⟨ad, x, rfl, hx, hc⟩ := (h.ext he).at_ hlt
    have hx6 := HC.out x (List.mem_of_getElem? hx.out)
    have hsucc := hide (codeOf_succ hx)
    by_cases hpos : 0 < x
    · obtain ⟨m, rfl⟩ : ∃ m : Nat, x = ((m + 1 : Nat) : Int) := ⟨x.toNat - 1, by omega⟩
      have hd : Hid (digit ((m + 1 : Nat) : Int) = 2 * pow3 m) := hide (digit_pos m)
      have hp3 : pow3 m ≤ 729 := by have := pow3_mono (show m ≤ 6 by omega); have h6 : pow3 6 = 729 := rfl; omega
      have habs : absW ((m : Int) + 1) = (m : Int) + 1 := by unfold absW; rw [if_neg (by omega)]
      have hm5 : m ≤ 5 := by omega
      clear hx6
      go_wp2_with (first | (go_at_call 104; refine (l2Var_c _ _).mono ?_; rintro e w' ⟨rfl, rfl⟩) | (go_at_call 99; refine (l12Pow_c _ _ ?_).mono ?_; omega; rintro e w' ⟨rfl, rfl⟩))
      refine ⟨⟨(by first | trivial | rfl), he, i + 1, by omega, by go_num, b + 2 * pow3 m, by go_num, ?_⟩, (by simp [intOf] <;> omega)⟩
      unfold Hid
      rw [hsucc.out, hd.out, hq.out]
    · obtain ⟨m, rfl⟩ : ∃ m : Nat, x = -((m + 1 : Nat) : Int) := ⟨x.natAbs - 1, by omega⟩
      have hd : Hid (digit (-((m + 1 : Nat) : Int)) = pow3 m) := hide (digit_neg m)
      have hp3 : pow3 m ≤ 729 := by have := pow3_mono (show m ≤ 6 by omega); have h6 : pow3 6 = 729 := rfl; omega
      have habs : absW (-((m : Int) + 1)) = (m : Int) + 1 := by unfold absW; rw [if_pos (by omega)]; unfold wrap64; omega
      have hm5 : m ≤ 5 := by omega
      clear hx6
      go_wp2_with (first | (go_at_call 104; refine (l2Var_c _ _).mono ?_; rintro e w' ⟨rfl, rfl⟩) | (go_at_call 99; refine (l12Pow_c _ _ ?_).mono ?_; omega; rintro e w' ⟨rfl, rfl⟩))
      refine ⟨⟨(by first | trivial | rfl), he, i + 1, by omega, by go_num, b + pow3 m, by go_num, ?_⟩, (by simp [intOf] <;> omega)⟩
      unfold Hid
      rw [hsucc.out, hd.out, hq.out]
  · obtain rfl : i = n := by omega
    have hl := h.len
    have hbe : b = codeOf c := by rw [hq.out, codeOf_all (by omega)]
    subst hbe
    go_wp2
    go_ret
    exact ⟨rfl, he⟩
theorem codeOf_c (A : Option Addr) (n d : Nat) (c : List Int) (w : World) (h : Ints w A n c) (hn : n ≤ 6) (hc6 : ∀ x ∈ c, -6 ≤ x ∧ x ≤ 6 ∧ x ≠ 0) :
    Calls Try.prog 106 #[.slice A n d] w fun e w' => e = .returned (.int .i64 (codeOf c : Int)) ∧ Ext w w' := by
  have HC := hide hc6
  clear hc6
  go_enter Try.func106, Try.ntmps106
  go_wp2
  refine wp_loop (fun acT wr => ∃ s0 s1 s2 s3 s4 s5 s6 s7 s8 s9 s10 s11 s12 s13 s14 s15 s16 s17 s18 s19 s20 s21 s22 s23 s24 s25 s26 s27 : Value, (s6 = .slice A n d ∧ s7 = .int .i64 n ∧ (Ext w wr ∧ ∃ i : Nat, i ≤ n ∧ s8 = .int .i64 (i : Int) ∧ ∃ b : Nat, s3 = .int .i64 (b : Int) ∧ Hid (b = codeOf (c.take i)))) ∧ acT = ⟨#[s0, s1, s2, s3, s4, s5, s6, s7, s8, s9, s10, s11, s12, s13, s14, s15, s16, s17, s18, s19, s20, s21, s22, s23, s24, s25, s26, s27], []⟩) (fun acT wr => (fun (s8 : Value) (wr : World) => n - (intOf s8).toNat) (acT.tmps.getD 8 undef) wr) ?_ ?_
  · (refine ⟨_, _, _, _, _, _, _, _, _, _, _, _, _, _, _, _, _, _, _, _, _, _, _, _, _, _, _, _, ⟨rfl, rfl, ?_⟩, rfl⟩; exact ⟨Ext.refl _, 0, Nat.zero_le _, rfl, 0, rfl, by simp [Hid, codeOf]⟩)
  intro _ wr hinv; obtain ⟨s0, s1, s2, s3, s4, s5, s6, s7, s8, s9, s10, s11, s12, s13, s14, s15, s16, s17, s18, s19, s20, s21, s22, s23, s24, s25, s26, s27, ⟨rfl, rfl, hrel⟩, rfl⟩ := hinv; (try dsimp only)
  obtain ⟨he, i, hi, rfl, b, rfl, hq⟩ := hrel
  have hb : b ≤ 3000 := by have := codeOf_le HC.out i; have := hq.out; omega
  by_cases hlt : i < n
  · obtain ⟨ad, x, rfl, hx, hc⟩ := (h.ext he).at_ hlt
    have hx6 := HC.out x (List.mem_of_getElem? hx.out)
    have hsucc := hide (codeOf_succ hx)
    by_cases hpos : 0 < x
    · obtain ⟨m, rfl⟩ : ∃ m : Nat, x = ((m + 1 : Nat) : Int) := ⟨x.toNat - 1, by omega⟩
      have hd : Hid (digit ((m + 1 : Nat) : Int) = 2 * pow3 m) := hide (digit_pos m)
      have hp3 : pow3 m ≤ 729 := by have := pow3_mono (show m ≤ 6 by omega); have h6 : pow3 6 = 729 := rfl; omega
      have habs : absW ((m : Int) + 1) = (m : Int) + 1 := by unfold absW; rw [if_neg (by omega)]
      have hm5 : m ≤ 5 := by omega
      clear hx6
      go_wp2_with (first | (go_at_call 85; refine (power3_c _ _ ?_).mono ?_; omega; rintro e w' ⟨rfl, rfl⟩))
      refine ⟨⟨(by first | trivial | rfl), (by first | trivial | rfl), he, i + 1, by omega, by go_num, b + 2 * pow3 m, by go_num, ?_⟩, (by simp [intOf] <;> omega)⟩
      unfold Hid
      rw [hsucc.out, hd.out, hq.out]
    · obtain ⟨m, rfl⟩ : ∃ m : Nat, x = -((m + 1 : Nat) : Int) := ⟨x.natAbs - 1, by omega⟩
      have hd : Hid (digit (-((m + 1 : Nat) : Int)) = pow3 m) := hide (digit_neg m)
      have hp3 : pow3 m ≤ 729 := by have := pow3_mono (show m ≤ 6 by omega); have h6 : pow3 6 = 729 := rfl; omega
      have habs : absW (-((m : Int) + 1)) = (m : Int) + 1 := by unfold absW; rw [if_pos (by omega)]; unfold wrap64; omega
      have hm5 : m ≤ 5 := by omega
      clear hx6
      go_wp2_with (first | (go_at_call 85; refine (power3_c _ _ ?_).mono ?_; omega; rintro e w' ⟨rfl, rfl⟩))
      refine ⟨⟨(by first | trivial | rfl), (by first | trivial | rfl), he, i + 1, by omega, by go_num, b + pow3 m, by go_num, ?_⟩, (by simp [intOf] <;> omega)⟩
      unfold Hid
      rw [hsucc.out, hd.out, hq.out]
  · obtain rfl : i = n := by omega
    have hl := h.len
    have hbe : b = codeOf c := by rw [hq.out, codeOf_all (by omega)]
    subst hbe
    go_wp2
    go_ret
    exact ⟨rfl, he⟩
end Go.Proofs.Ytmpfhibncnamnaa
