/-
  Circuits: whether a gate is valid, whether gates are a circuit: both texts say the same.
-/
import Derived.Test.YtcbjaomjamfjcaaK2
namespace Go.Proofs.Ytcbjaomjamfjcaa
set_option linter.unusedSimpArgs false
set_option linter.unusedVariables false
open Go.RowKit

theorem gate_kinds (k : Int) : k = 1 ∨ k = 2 ∨ k = 3 ∨ k = 4 ∨ k = 5 ∨ k = 6 ∨ (k ≠ 1 ∧ k ≠ 2 ∧ k ≠ 3 ∧ k ≠ 4 ∧ k ≠ 5 ∧ k ≠ 6) := by omega
theorem dec_beq (b : Int) : decide (b = 0) = (b == 0) := by rw [Bool.eq_iff_iff]; simp
set_option maxHeartbeats 1600000 in
theorem l6Gate_c (v k a b i : Int) (w : World) (hi : 0 ≤ i ∧ i ≤ 1099511627776) :
    Calls Try.prog 120 #[.int .i64 v, .agg #[.int .i64 k, .int .i64 a, .int .i64 b], .int .i64 i] w fun e w' => e = .returned (.bool (gateB v i (k, a, b))) ∧ Ext w w' := by
  rcases gate_kinds k with rfl | rfl | rfl | rfl | rfl | rfl | hk
  · rw [gateB_1, dec_beq]
    cases h1 : within a 1 v <;> cases h2 : (b == 0) <;> (go_enter Try.func120, Try.ntmps120; go_wp2_with (go_at_call 107; refine (l1In_c _ _ _ _).mono ?_; rintro e w' ⟨rfl, rfl⟩); go_ret; exact ⟨rfl, by (repeat (first | with_reducible exact Ext.refl _ | with_reducible assumption | ((with_reducible refine Ext.setCell ?_ ?_ _); rotate_left; focus (first | omega | (simp <;> omega))) | with_reducible refine Ext.alloc ?_ _ | with_reducible refine Ext.drewN ?_ _ | with_reducible refine Ext.drew ?_ | with_reducible refine Ext.trans ?_ (by with_reducible assumption)))⟩)
  · rw [gateB_2, dec_beq, dec_beq]
    cases h1 : (a == 0) <;> cases h2 : (b == 0) <;> (go_enter Try.func120, Try.ntmps120; go_wp2_with (go_at_call 107; refine (l1In_c _ _ _ _).mono ?_; rintro e w' ⟨rfl, rfl⟩); go_ret; exact ⟨rfl, by (repeat (first | with_reducible exact Ext.refl _ | with_reducible assumption | ((with_reducible refine Ext.setCell ?_ ?_ _); rotate_left; focus (first | omega | (simp <;> omega))) | with_reducible refine Ext.alloc ?_ _ | with_reducible refine Ext.drewN ?_ _ | with_reducible refine Ext.drew ?_ | with_reducible refine Ext.trans ?_ (by with_reducible assumption)))⟩)
  · rw [gateB_3, dec_beq, dec_beq]
    cases h1 : (a == 0) <;> cases h2 : (b == 0) <;> (go_enter Try.func120, Try.ntmps120; go_wp2_with (go_at_call 107; refine (l1In_c _ _ _ _).mono ?_; rintro e w' ⟨rfl, rfl⟩); go_ret; exact ⟨rfl, by (repeat (first | with_reducible exact Ext.refl _ | with_reducible assumption | ((with_reducible refine Ext.setCell ?_ ?_ _); rotate_left; focus (first | omega | (simp <;> omega))) | with_reducible refine Ext.alloc ?_ _ | with_reducible refine Ext.drewN ?_ _ | with_reducible refine Ext.drew ?_ | with_reducible refine Ext.trans ?_ (by with_reducible assumption)))⟩)
  · rw [gateB_4, dec_beq]
    cases h1 : within a 0 (i - 1) <;> cases h2 : (b == 0) <;> (go_enter Try.func120, Try.ntmps120; go_wp2_with (go_at_call 107; refine (l1In_c _ _ _ _).mono ?_; rintro e w' ⟨rfl, rfl⟩); go_ret; exact ⟨rfl, by (repeat (first | with_reducible exact Ext.refl _ | with_reducible assumption | ((with_reducible refine Ext.setCell ?_ ?_ _); rotate_left; focus (first | omega | (simp <;> omega))) | with_reducible refine Ext.alloc ?_ _ | with_reducible refine Ext.drewN ?_ _ | with_reducible refine Ext.drew ?_ | with_reducible refine Ext.trans ?_ (by with_reducible assumption)))⟩)
  · rw [gateB_5]
    cases h1 : within a 0 (i - 1) <;> cases h2 : within b 0 (i - 1) <;> (go_enter Try.func120, Try.ntmps120; go_wp2_with (go_at_call 107; refine (l1In_c _ _ _ _).mono ?_; rintro e w' ⟨rfl, rfl⟩); go_ret; exact ⟨rfl, by (repeat (first | with_reducible exact Ext.refl _ | with_reducible assumption | ((with_reducible refine Ext.setCell ?_ ?_ _); rotate_left; focus (first | omega | (simp <;> omega))) | with_reducible refine Ext.alloc ?_ _ | with_reducible refine Ext.drewN ?_ _ | with_reducible refine Ext.drew ?_ | with_reducible refine Ext.trans ?_ (by with_reducible assumption)))⟩)
  · rw [gateB_6]
    cases h1 : within a 0 (i - 1) <;> cases h2 : within b 0 (i - 1) <;> (go_enter Try.func120, Try.ntmps120; go_wp2_with (go_at_call 107; refine (l1In_c _ _ _ _).mono ?_; rintro e w' ⟨rfl, rfl⟩); go_ret; exact ⟨rfl, by (repeat (first | with_reducible exact Ext.refl _ | with_reducible assumption | ((with_reducible refine Ext.setCell ?_ ?_ _); rotate_left; focus (first | omega | (simp <;> omega))) | with_reducible refine Ext.alloc ?_ _ | with_reducible refine Ext.drewN ?_ _ | with_reducible refine Ext.drew ?_ | with_reducible refine Ext.trans ?_ (by with_reducible assumption)))⟩)
  · rw [gateB_no _ _ _ _ _ hk]
    obtain ⟨h1, h2, h3, h4, h5, h6⟩ := hk
    have h1 : (k == 1) = false := by simpa using h1
    have h2 : (k == 2) = false := by simpa using h2
    have h3 : (k == 3) = false := by simpa using h3
    have h4 : (k == 4) = false := by simpa using h4
    have h5 : (k == 5) = false := by simpa using h5
    have h6 : (k == 6) = false := by simpa using h6
    go_enter Try.func120, Try.ntmps120
    go_wp2
    go_ret; exact ⟨rfl, by (repeat (first | with_reducible exact Ext.refl _ | with_reducible assumption | ((with_reducible refine Ext.setCell ?_ ?_ _); rotate_left; focus (first | omega | (simp <;> omega))) | with_reducible refine Ext.alloc ?_ _ | with_reducible refine Ext.drewN ?_ _ | with_reducible refine Ext.drew ?_ | with_reducible refine Ext.trans ?_ (by with_reducible assumption)))⟩
set_option maxHeartbeats 1600000 in
theorem gateOk_c (v k a b i : Int) (w : World) (hi : 0 ≤ i ∧ i ≤ 1099511627776) :
    Calls Try.prog 121 #[.int .i64 v, .int .i64 i, .agg #[.int .i64 k, .int .i64 a, .int .i64 b]] w fun e w' => e = .returned (.bool (gateB v i (k, a, b))) ∧ Ext w w' := by
  rcases gate_kinds k with rfl | rfl | rfl | rfl | rfl | rfl | hk
  · rw [gateB_1, dec_beq]
    cases h1 : within a 1 v <;> cases h2 : (b == 0) <;> (go_enter Try.func121, Try.ntmps121; go_wp2_with (first | (go_at_call 109; refine (within_c _ _ _ _).mono ?_; rintro e w' ⟨rfl, rfl⟩) | (go_at_call 153; refine (isVar_c _ _ _).mono ?_; rintro e w' ⟨rfl, rfl⟩)); go_ret; exact ⟨rfl, by (repeat (first | with_reducible exact Ext.refl _ | with_reducible assumption | ((with_reducible refine Ext.setCell ?_ ?_ _); rotate_left; focus (first | omega | (simp <;> omega))) | with_reducible refine Ext.alloc ?_ _ | with_reducible refine Ext.drewN ?_ _ | with_reducible refine Ext.drew ?_ | with_reducible refine Ext.trans ?_ (by with_reducible assumption)))⟩)
  · rw [gateB_2, dec_beq, dec_beq]
    cases h1 : (a == 0) <;> cases h2 : (b == 0) <;> (go_enter Try.func121, Try.ntmps121; go_wp2_with (first | (go_at_call 109; refine (within_c _ _ _ _).mono ?_; rintro e w' ⟨rfl, rfl⟩) | (go_at_call 153; refine (isVar_c _ _ _).mono ?_; rintro e w' ⟨rfl, rfl⟩)); go_ret; exact ⟨rfl, by (repeat (first | with_reducible exact Ext.refl _ | with_reducible assumption | ((with_reducible refine Ext.setCell ?_ ?_ _); rotate_left; focus (first | omega | (simp <;> omega))) | with_reducible refine Ext.alloc ?_ _ | with_reducible refine Ext.drewN ?_ _ | with_reducible refine Ext.drew ?_ | with_reducible refine Ext.trans ?_ (by with_reducible assumption)))⟩)
  · rw [gateB_3, dec_beq, dec_beq]
    cases h1 : (a == 0) <;> cases h2 : (b == 0) <;> (go_enter Try.func121, Try.ntmps121; go_wp2_with (first | (go_at_call 109; refine (within_c _ _ _ _).mono ?_; rintro e w' ⟨rfl, rfl⟩) | (go_at_call 153; refine (isVar_c _ _ _).mono ?_; rintro e w' ⟨rfl, rfl⟩)); go_ret; exact ⟨rfl, by (repeat (first | with_reducible exact Ext.refl _ | with_reducible assumption | ((with_reducible refine Ext.setCell ?_ ?_ _); rotate_left; focus (first | omega | (simp <;> omega))) | with_reducible refine Ext.alloc ?_ _ | with_reducible refine Ext.drewN ?_ _ | with_reducible refine Ext.drew ?_ | with_reducible refine Ext.trans ?_ (by with_reducible assumption)))⟩)
  · rw [gateB_4, dec_beq]
    cases h1 : within a 0 (i - 1) <;> cases h2 : (b == 0) <;> (go_enter Try.func121, Try.ntmps121; go_wp2_with (first | (go_at_call 109; refine (within_c _ _ _ _).mono ?_; rintro e w' ⟨rfl, rfl⟩) | (go_at_call 153; refine (isVar_c _ _ _).mono ?_; rintro e w' ⟨rfl, rfl⟩)); go_ret; exact ⟨rfl, by (repeat (first | with_reducible exact Ext.refl _ | with_reducible assumption | ((with_reducible refine Ext.setCell ?_ ?_ _); rotate_left; focus (first | omega | (simp <;> omega))) | with_reducible refine Ext.alloc ?_ _ | with_reducible refine Ext.drewN ?_ _ | with_reducible refine Ext.drew ?_ | with_reducible refine Ext.trans ?_ (by with_reducible assumption)))⟩)
  · rw [gateB_5]
    cases h1 : within a 0 (i - 1) <;> cases h2 : within b 0 (i - 1) <;> (go_enter Try.func121, Try.ntmps121; go_wp2_with (first | (go_at_call 109; refine (within_c _ _ _ _).mono ?_; rintro e w' ⟨rfl, rfl⟩) | (go_at_call 153; refine (isVar_c _ _ _).mono ?_; rintro e w' ⟨rfl, rfl⟩)); go_ret; exact ⟨rfl, by (repeat (first | with_reducible exact Ext.refl _ | with_reducible assumption | ((with_reducible refine Ext.setCell ?_ ?_ _); rotate_left; focus (first | omega | (simp <;> omega))) | with_reducible refine Ext.alloc ?_ _ | with_reducible refine Ext.drewN ?_ _ | with_reducible refine Ext.drew ?_ | with_reducible refine Ext.trans ?_ (by with_reducible assumption)))⟩)
  · rw [gateB_6]
    cases h1 : within a 0 (i - 1) <;> cases h2 : within b 0 (i - 1) <;> (go_enter Try.func121, Try.ntmps121; go_wp2_with (first | (go_at_call 109; refine (within_c _ _ _ _).mono ?_; rintro e w' ⟨rfl, rfl⟩) | (go_at_call 153; refine (isVar_c _ _ _).mono ?_; rintro e w' ⟨rfl, rfl⟩)); go_ret; exact ⟨rfl, by (repeat (first | with_reducible exact Ext.refl _ | with_reducible assumption | ((with_reducible refine Ext.setCell ?_ ?_ _); rotate_left; focus (first | omega | (simp <;> omega))) | with_reducible refine Ext.alloc ?_ _ | with_reducible refine Ext.drewN ?_ _ | with_reducible refine Ext.drew ?_ | with_reducible refine Ext.trans ?_ (by with_reducible assumption)))⟩)
  · rw [gateB_no _ _ _ _ _ hk]
    obtain ⟨h1, h2, h3, h4, h5, h6⟩ := hk
    have h1 : (k == 1) = false := by simpa using h1
    have h2 : (k == 2) = false := by simpa using h2
    have h3 : (k == 3) = false := by simpa using h3
    have h4 : (k == 4) = false := by simpa using h4
    have h5 : (k == 5) = false := by simpa using h5
    have h6 : (k == 6) = false := by simpa using h6
    go_enter Try.func121, Try.ntmps121
    go_wp2
    go_ret; exact ⟨rfl, by (repeat (first | with_reducible exact Ext.refl _ | with_reducible assumption | ((with_reducible refine Ext.setCell ?_ ?_ _); rotate_left; focus (first | omega | (simp <;> omega))) | with_reducible refine Ext.alloc ?_ _ | with_reducible refine Ext.drewN ?_ _ | with_reducible refine Ext.drew ?_ | with_reducible refine Ext.trans ?_ (by with_reducible assumption)))⟩
theorem gateAt_of {v : Int} {gs : List Gt} {i : Nat} {g : Gt} (h : Hid (gs[i]? = some g)) : gateB v i g = gateAt v gs i := by unfold gateAt; rw [getD_of h]
set_option maxRecDepth 100000 in
set_option maxHeartbeats 800000 in
theorem l6Good_c (v : Int) (A : Option Addr) (n c : Nat) (gs : List Gt) (w : World) (h : Gates w A n gs) :
    Calls Try.prog 66 #[.int .i64 v, .slice A n c] w fun e w' => e = .returned (.bool (circB v gs)) ∧ Ext w w' := by
  have hb := h.bound
  have hu : circB v gs = (within v 0 12 && within n 1 200 && (List.range n).all (gateAt v gs)) := by unfold circB; rw [h.len]
  rw [hu]; clear hu
  cases h1 : within v 0 12
  · go_enter Try.func66, Try.ntmps66
    go_wp2_with (first | (go_at_call 119; refine (l2Vars_c _ _).mono ?_; rintro e w' ⟨rfl, rfl⟩) | (go_at_call 107; refine (l1In_c _ _ _ _).mono ?_; rintro e w' ⟨rfl, rfl⟩))
    go_ret; exact ⟨rfl, by (repeat (first | with_reducible exact Ext.refl _ | with_reducible assumption | ((with_reducible refine Ext.setCell ?_ ?_ _); rotate_left; focus (first | omega | (simp <;> omega))) | with_reducible refine Ext.alloc ?_ _ | with_reducible refine Ext.drewN ?_ _ | with_reducible refine Ext.drew ?_ | with_reducible refine Ext.trans ?_ (by with_reducible assumption)))⟩
  cases h2 : within n 1 200
  · go_enter Try.func66, Try.ntmps66
    go_wp2_with (first | (go_at_call 119; refine (l2Vars_c _ _).mono ?_; rintro e w' ⟨rfl, rfl⟩) | (go_at_call 107; refine (l1In_c _ _ _ _).mono ?_; rintro e w' ⟨rfl, rfl⟩))
    go_ret; exact ⟨rfl, by (repeat (first | with_reducible exact Ext.refl _ | with_reducible assumption | ((with_reducible refine Ext.setCell ?_ ?_ _); rotate_left; focus (first | omega | (simp <;> omega))) | with_reducible refine Ext.alloc ?_ _ | with_reducible refine Ext.drewN ?_ _ | with_reducible refine Ext.drew ?_ | with_reducible refine Ext.trans ?_ (by with_reducible assumption)))⟩
  simp only [Bool.true_and]
  obtain ⟨R, hR⟩ : ∃ R, (List.range n).all (gateAt v gs) = R := ⟨_, rfl⟩
  rw [hR]
  have HR := hide hR
  clear hR
  go_enter Try.func66, Try.ntmps66
  go_wp2_with (first | (go_at_call 119; refine (l2Vars_c _ _).mono ?_; rintro e w' ⟨rfl, rfl⟩) | (go_at_call 107; refine (l1In_c _ _ _ _).mono ?_; rintro e w' ⟨rfl, rfl⟩))
  refine wp_loopF 29 _ rfl rfl [0, 1] rfl (fun fr wr => Ext w wr ∧ ∃ i : Nat, i ≤ n ∧ (fr 5) = .int .i64 i ∧ Hid ((List.range i).all (gateAt v gs) = true)) (fun fr wr => n - (intOf (fr 5)).toNat) ?_ ?_
  · (exact ⟨Ext.refl _, 0, by omega, rfl, rfl⟩)
  intro ks fr wr hkept hrel; (try dsimp only at hrel)
  change Code.wp _ _ _ ⟨#[ks 0, ks 1, fr 2, fr 3, fr 4, fr 5, fr 6, fr 7, fr 8, fr 9, fr 10, fr 11, fr 12, fr 13, fr 14, fr 15, fr 16, fr 17, fr 18, fr 19, fr 20, fr 21, fr 22, fr 23, fr 24, fr 25, fr 26, fr 27, fr 28], []⟩ wr
  simp only [KeptV, List.getD_cons_zero, List.getD_cons_succ] at hkept; obtain ⟨hk0, hk1, -⟩ := hkept
  generalize ks 0 = k0 at hk0 ⊢; subst hk0
  generalize ks 1 = k1 at hk1 ⊢; subst hk1
  generalize fr 5 = s5 at hrel ⊢
  obtain ⟨he, i, hi, hs1, ha⟩ := hrel
  subst hs1
  by_cases hlt : i < n
  · obtain ⟨g, k, a, b, rfl, hx, c0, c1, c2⟩ := (h.ext he).at_ hlt
    have HG := hide (gateAt_of (v := v) hx)
    go_wp2_with fail
    refine (l6Gate_c v k a b i _ (by omega)).mono ?_
    rintro e w1 ⟨rfl, he1⟩
    cases hg : gateB v i (k, a, b)
    · have hR : R = false := by rw [← HR.out]; exact rangeAll_false hlt (by rw [← HG.out]; exact hg)
      subst hR
      go_wp2_with fail
      go_ret
      exact ⟨rfl, he.trans he1⟩
    · have hq := rangeAll_succ ha (by rw [← HG.out]; exact hg)
      have hE := hide (he.trans he1)
      clear he he1
      go_wp2_with fail
      exact ⟨⟨(by (repeat (first | exact trivial | refine ⟨rfl, ?_⟩))), hE.out, i + 1, by omega, by go_num, hq⟩, (by simp [intOf] <;> omega)⟩
  · obtain rfl : i = n := by omega
    have hR : R = true := HR.out.symm.trans ha.out
    subst hR
    go_wp2_with fail
    go_ret
    exact ⟨rfl, he⟩
set_option maxRecDepth 100000 in
set_option maxHeartbeats 800000 in
theorem impl_IsCircuit_c (v : Int) (A : Option Addr) (n c : Nat) (gs : List Gt) (w : World) (h : Gates w A n gs) :
    Calls Try.prog 69 #[.int .i64 v, .slice A n c] w fun e w' => e = .returned (.bool (circB v gs)) ∧ Ext w w' := by
  have hb := h.bound
  have hu : circB v gs = ((within v 0 12 && within n 1 200) && (List.range n).all (gateAt v gs)) := by unfold circB; rw [h.len]
  rw [hu]; clear hu
  obtain ⟨R, hR⟩ : ∃ R, (List.range n).all (gateAt v gs) = R := ⟨_, rfl⟩
  rw [hR]
  have HR := hide hR
  clear hR
  go_enter Try.func69, Try.ntmps69
  go_wp2_with fail
  refine wp_loopF 27 _ rfl rfl [0, 1, 2, 7, 8, 20, 21, 22, 23, 24, 25, 26] rfl (fun fr wr => Ext w wr ∧ ∃ i : Nat, i ≤ n ∧ (fr 9) = .int .i64 i ∧ Hid ((List.range i).all (gateAt v gs) = true)) (fun fr wr => n - (intOf (fr 9)).toNat) ?_ ?_
  · (exact ⟨Ext.refl _, 0, by omega, rfl, rfl⟩)
  intro ks fr wr hkept hrel; (try dsimp only at hrel)
  change Code.wp _ _ _ ⟨#[ks 0, ks 1, ks 2, fr 3, fr 4, fr 5, fr 6, ks 7, ks 8, fr 9, fr 10, fr 11, fr 12, fr 13, fr 14, fr 15, fr 16, fr 17, fr 18, fr 19, ks 20, ks 21, ks 22, ks 23, ks 24, ks 25, ks 26], []⟩ wr
  simp only [KeptV, List.getD_cons_zero, List.getD_cons_succ] at hkept; obtain ⟨hk0, hk1, hk2, hk7, hk8, hk20, hk21, hk22, hk23, hk24, hk25, hk26, -⟩ := hkept
  generalize ks 0 = k0 at hk0 ⊢; subst hk0
  generalize ks 1 = k1 at hk1 ⊢; subst hk1
  generalize ks 2 = k2 at hk2 ⊢; subst hk2
  generalize ks 7 = k7 at hk7 ⊢; subst hk7
  generalize ks 8 = k8 at hk8 ⊢; subst hk8
  generalize ks 20 = k20 at hk20 ⊢; subst hk20
  generalize ks 21 = k21 at hk21 ⊢; subst hk21
  generalize ks 22 = k22 at hk22 ⊢; subst hk22
  generalize ks 23 = k23 at hk23 ⊢; subst hk23
  generalize ks 24 = k24 at hk24 ⊢; subst hk24
  generalize ks 25 = k25 at hk25 ⊢; subst hk25
  generalize ks 26 = k26 at hk26 ⊢; subst hk26
  generalize fr 9 = s9 at hrel ⊢
  obtain ⟨he, i, hi, hs1, ha⟩ := hrel
  subst hs1
  by_cases hlt : i < n
  · obtain ⟨g, k, a, b, rfl, hx, c0, c1, c2⟩ := (h.ext he).at_ hlt
    have HG := hide (gateAt_of (v := v) hx)
    go_wp2_with fail
    refine (gateOk_c v k a b i _ (by omega)).mono ?_
    rintro e w1 ⟨rfl, he1⟩
    have he2 : Ext wr w1 := by (repeat (first | with_reducible exact Ext.refl _ | with_reducible assumption | ((with_reducible refine Ext.setCell ?_ ?_ _); rotate_left; focus (first | omega | (simp <;> omega))) | with_reducible refine Ext.alloc ?_ _ | with_reducible refine Ext.drewN ?_ _ | with_reducible refine Ext.drew ?_ | with_reducible refine Ext.trans ?_ (by with_reducible assumption)))
    clear he1
    cases hg : gateB v i (k, a, b)
    · have hR : R = false := by rw [← HR.out]; exact rangeAll_false hlt (by rw [← HG.out]; exact hg)
      subst hR
      go_wp2_with fail
      go_ret
      exact ⟨ret_bool (by simp), he.trans he2⟩
    · have hq := rangeAll_succ ha (by rw [← HG.out]; exact hg)
      have hE := hide (he.trans he2)
      clear he he2
      go_wp2_with fail
      exact ⟨⟨(by (repeat (first | exact trivial | refine ⟨rfl, ?_⟩))), hE.out, i + 1, by omega, by go_num, hq⟩, (by simp [intOf] <;> omega)⟩
  · obtain rfl : i = n := by omega
    have hR : R = true := HR.out.symm.trans ha.out
    subst hR
    cases h1 : within v 0 12
    · go_wp2_with (first | (go_at_call 122; refine (varsOk_c _ _).mono ?_; rintro e w' ⟨rfl, rfl⟩) | (go_at_call 109; refine (within_c _ _ _ _).mono ?_; rintro e w' ⟨rfl, rfl⟩))
      go_ret; exact ⟨ret_bool (by simp [*]), he⟩
    · cases h2 : within i 1 200
      · go_wp2_with (first | (go_at_call 122; refine (varsOk_c _ _).mono ?_; rintro e w' ⟨rfl, rfl⟩) | (go_at_call 109; refine (within_c _ _ _ _).mono ?_; rintro e w' ⟨rfl, rfl⟩))
        go_ret; exact ⟨ret_bool (by simp [*]), he⟩
      · go_wp2_with (first | (go_at_call 122; refine (varsOk_c _ _).mono ?_; rintro e w' ⟨rfl, rfl⟩) | (go_at_call 109; refine (within_c _ _ _ _).mono ?_; rintro e w' ⟨rfl, rfl⟩))
        go_ret; exact ⟨ret_bool (by simp [*]), he⟩
end Go.Proofs.Ytcbjaomjamfjcaa
