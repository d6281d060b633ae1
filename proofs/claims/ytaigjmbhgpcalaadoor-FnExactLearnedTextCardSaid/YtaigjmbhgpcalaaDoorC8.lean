/-
  Inequalities: validity, whether they hold for bits, and the ranges of their left sides.
-/
import Derived.Test.YtaigjmbhgpcalaaDoorC3
import Derived.Test.YtaigjmbhgpcalaaDoorC7
namespace Go.Proofs.YtaigjmbhgpcalaaDoor
set_option linter.unusedSimpArgs false
set_option linter.unusedVariables false
open Go.RowKit

/-! ### Bits of an int -/
theorem ofInt_nat64 (a : Nat) (ha : a < 9223372036854775808) : (BitVec.ofInt 64 (a : Int)).toNat = a := by
  rw [BitVec.ofInt_natCast, BitVec.toNat_ofNat]; exact Nat.mod_eq_of_lt (by omega)
theorem and_one_nat (a : Nat) (ha : a < 9223372036854775808) : bits .and .i64 (a : Int) 1 = ((a % 2 : Nat) : Int) := by
  show IntKind.i64.wrap ((BitVec.ofInt 64 (a : Int) &&& BitVec.ofInt 64 1).toNat : Int) = _
  rw [BitVec.toNat_and, ofInt_nat64 a ha, show (BitVec.ofInt 64 1).toNat = 1 from rfl, Nat.and_one_is_mod]
  exact IntWalk.i64_in _ (by omega)
theorem bit_eq (b i : Nat) (hb : b ≤ 1000000) : (bits .and .i64 ((b : Int) / 2 ^ i) 1 == 1) = b.testBit i := by
  have h1 : ((b : Int) / 2 ^ i) = ((b / 2 ^ i : Nat) : Int) := by simp
  have h2 : b / 2 ^ i ≤ b := Nat.div_le_self _ _
  rw [h1, and_one_nat _ (by omega), Nat.testBit_eq_decide_div_mod_eq, Bool.eq_iff_iff]
  simp only [beq_iff_eq, decide_eq_true_eq]
  omega
theorem pow_small {v : Nat} (h : v ≤ 12) : 1 ≤ (2 : Int) ^ v ∧ (2 : Int) ^ v ≤ 4096 := by
  have : ∀ v < 13, 1 ≤ (2 : Int) ^ v ∧ (2 : Int) ^ v ≤ 4096 := by decide
  exact this v (by omega)

/-! ### The plain functions -/
def ineqOk (v bd : Int) (xs : List Int) : Bool := within v 0 12 && decide ((xs.length : Int) = v) && within bd (-10000) 10000 && xs.all (fun x => within x (-1000) 1000)
/-- The left side for bits b, of the first k coefficients. -/
def psum (xs : List Int) (b : Nat) : Nat → Int
  | 0 => 0
  | k + 1 => psum xs b k + (if b.testBit k then xs.getD k 0 else 0)
theorem psum_yes {xs : List Int} {b k : Nat} {x : Int} (hx : Hid (xs[k]? = some x)) (h : b.testBit k = true) : psum xs b (k + 1) = psum xs b k + x := by
  simp only [psum, h, if_true, getD_of hx]
theorem psum_no {xs : List Int} {b k : Nat} (h : b.testBit k = false) : psum xs b (k + 1) = psum xs b k := by
  simp [psum, h]
theorem psum_le {xs : List Int} (h : ∀ x ∈ xs, -1000 ≤ x ∧ x ≤ 1000) (b k : Nat) : -(1000 * (k : Int)) ≤ psum xs b k ∧ psum xs b k ≤ 1000 * (k : Int) := by
  induction k with
  | zero => simp [psum]
  | succ k ih =>
    simp only [psum]
    split
    · rw [List.getD_eq_getElem?_getD]
      cases hx : xs[k]? with
      | none => simp; omega
      | some x => have := h x (List.mem_of_getElem? hx); simp; omega
    · omega
def planeAt (xs : List Int) (bd : Int) (b : Nat) : Bool := decide (bd ≤ psum xs b xs.length)
theorem ineq_facts {v bd : Int} {xs : List Int} (h : ineqOk v bd xs = true) : (0 ≤ v ∧ v ≤ 12) ∧ (xs.length : Int) = v ∧ (-10000 ≤ bd ∧ bd ≤ 10000) ∧ ∀ x ∈ xs, -1000 ≤ x ∧ x ≤ 1000 := by
  obtain ⟨h1, h2, h3, h4⟩ := and4_true h
  refine ⟨within_true h1, by simpa using h2, within_true h3, fun x hx => ?_⟩
  rw [List.all_eq_true] at h4
  exact within_true (h4 x hx)

set_option maxHeartbeats 400000 in
theorem l16Plane_c (vars bd : Int) (A : Option Addr) (n c : Nat) (xs : List Int) (w : World) (h : Ints w A n xs) :
    Calls Tryd.prog 31 #[.int .i64 vars, .agg #[.slice A n c, .int .i64 bd]] w fun e w' =>
      e = .returned (.bool (decide ((n : Int) = vars) && within bd (-10000) 10000 && xs.all (fun x => within x (-1000) 1000))) ∧ Ext w w' := by
  have hb := h.bound
  go_enter Tryd.func31, Tryd.ntmps31
  by_cases hv : (n : Int) = vars
  · subst hv
    go_wp2_with (go_at_call 48; refine (l1In_c _ _ _ _).mono ?_; rintro e w' ⟨rfl, rfl⟩)
    · go_ret
      exact ⟨ret_bool (by simp_all), (Ext.refl _).alloc _⟩
    · have H2 : Hid ((!within bd (-10000) 10000) = false) := by assumption
      refine wp_loop (fun acT wr => ∃ s0 s1 s2 s3 s4 s5 s6 s7 s8 s9 s10 s11 s12 s13 s14 s15 s16 s17 s18 s19 s20 s21 s22 s23 s24 s25 s26 s27 s28 : Value, (s0 = .int .i64 n ∧ s3 = .pointer (some ⟨w.heap.size, 0, none⟩) ∧ (∃ k : Nat, k ≤ n ∧ s5 = .int .i64 k ∧ Ext (w.alloc (.cells #[.slice A n c, .int .i64 bd] 28)) wr ∧ Hid ((xs.take k).all (fun x => within x (-1000) 1000) = true))) ∧ acT = ⟨#[s0, s1, s2, s3, s4, s5, s6, s7, s8, s9, s10, s11, s12, s13, s14, s15, s16, s17, s18, s19, s20, s21, s22, s23, s24, s25, s26, s27, s28], []⟩) (fun acT wr => (fun (s5 : Value) (wr : World) => n - (intOf s5).toNat) (acT.tmps.getD 5 undef) wr) ?_ ?_
      · (refine ⟨_, _, _, _, _, _, _, _, _, _, _, _, _, _, _, _, _, _, _, _, _, _, _, _, _, _, _, _, _, ⟨rfl, rfl, ?_⟩, rfl⟩; exact ⟨0, Nat.zero_le _, rfl, Ext.refl _, by simp [Hid]⟩)
      intro _ wr hinv; obtain ⟨s0, s1, s2, s3, s4, s5, s6, s7, s8, s9, s10, s11, s12, s13, s14, s15, s16, s17, s18, s19, s20, s21, s22, s23, s24, s25, s26, s27, s28, ⟨rfl, rfl, hrel⟩, rfl⟩ := hinv; (try dsimp only)
      obtain ⟨k, hk, rfl, he, ha⟩ := hrel
      have c0 := he.box 0 _ rfl
      by_cases hlt : k < n
      · obtain ⟨ad, x, rfl, hx, hc⟩ := (h.ext ((Ext.refl w).alloc _ |>.trans he)).at_ hlt
        go_wp2_with (go_at_call 48; refine (l1In_c _ _ _ _).mono ?_; rintro e w' ⟨rfl, rfl⟩)
        · go_ret
          have h3 : within x (-1000) 1000 = false := by simp_all
          exact ⟨ret_bool (by rw [all_false_of hx h3]; simp), (Ext.refl w).alloc _ |>.trans he⟩
        · have h3 : within x (-1000) 1000 = true := by simp_all
          exact ⟨⟨(by first | trivial | rfl), (by first | trivial | rfl), k+1, by omega, by go_num, he, all_take_succ hx ha h3⟩, (by simp [intOf] <;> omega)⟩
      · go_wp2
        go_ret
        have H2 := H2.out
        have h4 := all_take_all ha (by have := h.len; omega)
        exact ⟨ret_bool (by simp_all), (Ext.refl w).alloc _ |>.trans he⟩
  · go_wp2_with (go_at_call 48; refine (l1In_c _ _ _ _).mono ?_; rintro e w' ⟨rfl, rfl⟩)
    go_ret
    exact ⟨ret_bool (by simp_all), (Ext.refl _).alloc _⟩
theorem spec_IsInequality_c (v bd : Int) (A : Option Addr) (n c : Nat) (xs : List Int) (w : World) (h : Ints w A n xs) :
    Calls Tryd.prog 19 #[.int .i64 v, .agg #[.slice A n c, .int .i64 bd]] w fun e w' => e = .returned (.bool (ineqOk v bd xs)) ∧ Ext w w' := by
  have hl := h.len
  have hq : ineqOk v bd xs = (within v 0 12 && (decide ((n : Int) = v) && within bd (-10000) 10000 && xs.all (fun x => within x (-1000) 1000))) := by
    unfold ineqOk; rw [hl]; simp only [Bool.and_assoc]
  rw [hq]
  clear hl hq
  have hp := fun w h => l16Plane_c v bd A n c xs w h
  generalize (decide ((n : Int) = v) && within bd (-10000) 10000 && xs.all (fun x => within x (-1000) 1000)) = r at hp ⊢
  have HP := hide hp
  clear hp
  cases hv : within v 0 12
  · go_enter Tryd.func19, Tryd.ntmps19
    go_wp2_with (go_at_call 30; refine (l2Vars_c _ _).mono ?_; rintro e w' ⟨rfl, rfl⟩)
    go_ret
    exact ⟨rfl, by (repeat (first | with_reducible exact Ext.refl _ | with_reducible assumption | ((with_reducible refine Ext.setCell ?_ ?_ _); rotate_left; focus (first | omega | (simp <;> omega))) | with_reducible refine Ext.alloc ?_ _ | with_reducible refine Ext.drewN ?_ _ | with_reducible refine Ext.drew ?_ | with_reducible refine Ext.trans ?_ (by with_reducible assumption)))⟩
  · go_enter Tryd.func19, Tryd.ntmps19
    go_wp2_with (first | (go_at_call 30; refine (l2Vars_c _ _).mono ?_; rintro e w' ⟨rfl, rfl⟩) | (go_at_call 31; refine (HP.out _ (h.ext (by (repeat (first | with_reducible exact Ext.refl _ | with_reducible assumption | ((with_reducible refine Ext.setCell ?_ ?_ _); rotate_left; focus (first | omega | (simp <;> omega))) | with_reducible refine Ext.alloc ?_ _ | with_reducible refine Ext.drewN ?_ _ | with_reducible refine Ext.drew ?_ | with_reducible refine Ext.trans ?_ (by with_reducible assumption)))))).mono ?_; rintro e w1 ⟨rfl, he⟩))
    go_ret
    exact ⟨ret_bool (by simp), by (repeat (first | with_reducible exact Ext.refl _ | with_reducible assumption | ((with_reducible refine Ext.setCell ?_ ?_ _); rotate_left; focus (first | omega | (simp <;> omega))) | with_reducible refine Ext.alloc ?_ _ | with_reducible refine Ext.drewN ?_ _ | with_reducible refine Ext.drew ?_ | with_reducible refine Ext.trans ?_ (by with_reducible assumption)))⟩
theorem IsInequality_lit_c (x : Int) (w : World) :
    Calls Tryd.prog 35 #[.int .i64 x] w fun e w' => e = .returned (.bool (!within x (-1000) 1000)) ∧ Ext w w' := by
  go_enter Tryd.func35, Tryd.ntmps35
  go_wp2_with (go_at_call 33; refine (within_c _ _ _ _).mono ?_; rintro e w' ⟨rfl, rfl⟩)
  go_ret
  exact ⟨rfl, Ext.refl _⟩
theorem IsInequality_lit_enters : Enters Tryd.prog 35 := enters_of Tryd.func35 (by kernel_rfl) (by kernel_rfl)
set_option maxHeartbeats 800000 in
theorem impl_IsInequality_c (v bd : Int) (A : Option Addr) (n c : Nat) (xs : List Int) (w : World) (h : Ints w A n xs) :
    Calls Tryd.prog 22 #[.int .i64 v, .agg #[.slice A n c, .int .i64 bd]] w fun e w' => e = .returned (.bool (ineqOk v bd xs)) ∧ Ext w w' := by
  have hq : ineqOk v bd xs = (within v 0 12 && decide ((n : Int) = v) && within bd (-10000) 10000 && !(xs.any fun x => !within x (-1000) 1000)) := by
    unfold ineqOk; rw [h.len, List.not_any_eq_all_not]; simp
  rw [hq]
  clear hq
  have hp := fun w (h : Ints w A n xs) => ContainsFunc_int_c 35 #[] (fun x => !within x (-1000) 1000) A n c xs w h IsInequality_lit_enters (fun x wr _ _ => by simpa using IsInequality_lit_c x wr)
  generalize (xs.any fun x => !within x (-1000) 1000) = r at hp ⊢
  have HP := hide hp
  clear hp
  have hb := h.bound
  cases hv : within v 0 12
  · go_enter Tryd.func22, Tryd.ntmps22
    go_wp2_with (go_at_call 32; refine (varsOk_c _ _).mono ?_; rintro e w' ⟨rfl, rfl⟩)
    go_ret
    exact ⟨rfl, by (repeat (first | with_reducible exact Ext.refl _ | with_reducible assumption | ((with_reducible refine Ext.setCell ?_ ?_ _); rotate_left; focus (first | omega | (simp <;> omega))) | with_reducible refine Ext.alloc ?_ _ | with_reducible refine Ext.drewN ?_ _ | with_reducible refine Ext.drew ?_ | with_reducible refine Ext.trans ?_ (by with_reducible assumption)))⟩
  · by_cases hn : (n : Int) = v
    · subst hn
      cases hw : within bd (-10000) 10000
      · go_enter Tryd.func22, Tryd.ntmps22
        go_wp2_with (first | (go_at_call 32; refine (varsOk_c _ _).mono ?_; rintro e w' ⟨rfl, rfl⟩) | (go_at_call 33; refine (within_c _ _ _ _).mono ?_; rintro e w' ⟨rfl, rfl⟩))
        go_ret
        exact ⟨ret_bool (by simp), by (repeat (first | with_reducible exact Ext.refl _ | with_reducible assumption | ((with_reducible refine Ext.setCell ?_ ?_ _); rotate_left; focus (first | omega | (simp <;> omega))) | with_reducible refine Ext.alloc ?_ _ | with_reducible refine Ext.drewN ?_ _ | with_reducible refine Ext.drew ?_ | with_reducible refine Ext.trans ?_ (by with_reducible assumption)))⟩
      · go_enter Tryd.func22, Tryd.ntmps22
        go_wp2_with (first | (go_at_call 32; refine (varsOk_c _ _).mono ?_; rintro e w' ⟨rfl, rfl⟩) | (go_at_call 33; refine (within_c _ _ _ _).mono ?_; rintro e w' ⟨rfl, rfl⟩) | (go_at_call 34; refine (HP.out _ (h.ext (by (repeat (first | with_reducible exact Ext.refl _ | with_reducible assumption | ((with_reducible refine Ext.setCell ?_ ?_ _); rotate_left; focus (first | omega | (simp <;> omega))) | with_reducible refine Ext.alloc ?_ _ | with_reducible refine Ext.drewN ?_ _ | with_reducible refine Ext.drew ?_ | with_reducible refine Ext.trans ?_ (by with_reducible assumption)))))).mono ?_; rintro e w1 ⟨rfl, he⟩))
        go_ret
        exact ⟨ret_bool (by simp), by (repeat (first | with_reducible exact Ext.refl _ | with_reducible assumption | ((with_reducible refine Ext.setCell ?_ ?_ _); rotate_left; focus (first | omega | (simp <;> omega))) | with_reducible refine Ext.alloc ?_ _ | with_reducible refine Ext.drewN ?_ _ | with_reducible refine Ext.drew ?_ | with_reducible refine Ext.trans ?_ (by with_reducible assumption)))⟩
    · go_enter Tryd.func22, Tryd.ntmps22
      go_wp2_with (go_at_call 32; refine (varsOk_c _ _).mono ?_; rintro e w' ⟨rfl, rfl⟩)
      go_ret
      exact ⟨ret_bool (by simp [hn]), by (repeat (first | with_reducible exact Ext.refl _ | with_reducible assumption | ((with_reducible refine Ext.setCell ?_ ?_ _); rotate_left; focus (first | omega | (simp <;> omega))) | with_reducible refine Ext.alloc ?_ _ | with_reducible refine Ext.drewN ?_ _ | with_reducible refine Ext.drew ?_ | with_reducible refine Ext.trans ?_ (by with_reducible assumption)))⟩
/-- The least and the greatest left side, of the first k coefficients. -/
def lowSum (xs : List Int) : Int := (xs.map fun x => min x 0).sum
def highSum (xs : List Int) : Int := (xs.map fun x => max x 0).sum
theorem lowSum_succ {xs : List Int} {i : Nat} {x : Int} (hx : Hid (xs[i]? = some x)) : lowSum (xs.take (i + 1)) = lowSum (xs.take i) + min x 0 := by rw [take_succ_of hx]; simp [lowSum]
theorem highSum_succ {xs : List Int} {i : Nat} {x : Int} (hx : Hid (xs[i]? = some x)) : highSum (xs.take (i + 1)) = highSum (xs.take i) + max x 0 := by rw [take_succ_of hx]; simp [highSum]
theorem low_high_le {xs : List Int} (h : ∀ x ∈ xs, -1000 ≤ x ∧ x ≤ 1000) (k : Nat) : -(1000 * (k : Int)) ≤ lowSum (xs.take k) ∧ lowSum (xs.take k) ≤ 0 ∧ 0 ≤ highSum (xs.take k) ∧ highSum (xs.take k) ≤ 1000 * (k : Int) := by
  induction k with
  | zero => simp [lowSum, highSum]
  | succ k ih =>
    by_cases hk : k < xs.length
    · have hx : Hid (xs[k]? = some xs[k]) := hide (List.getElem?_eq_getElem hk)
      rw [lowSum_succ hx, highSum_succ hx]
      have := h _ (List.getElem_mem hk)
      omega
    · rw [List.take_of_length_le (by omega)] at ih ⊢
      omega
end Go.Proofs.YtaigjmbhgpcalaaDoor
