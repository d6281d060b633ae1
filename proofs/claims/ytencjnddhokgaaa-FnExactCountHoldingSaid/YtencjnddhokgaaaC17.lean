/-
  CountHolding: how many places of the range an inequality holds at.
-/
import Derived.Test.YtencjnddhokgaaaC8
namespace Go.Proofs.Ytencjnddhokgaaa
open Go.RowKit

set_option maxHeartbeats 800000 in
theorem spec_CountHolding_c (v bd : Int) (A : Option Addr) (n c : Nat) (xs : List Int) (w : World) (h : Ints w A n xs) :
    Calls Try.prog 33 #[.int .i64 v, .agg #[.slice A n c, .int .i64 bd]] w fun e w' =>
      ∃ t : Nat, e = .returned (.tuple #[.int .i64 t, .bool (ineqOk v bd xs)]) ∧ (t = if ineqOk v bd xs then countB (planeAt xs bd) (2 ^ v.toNat) else 0) ∧ Ext w w' := by
  cases hq : ineqOk v bd xs
  · simp only [Bool.false_eq_true, if_false]
    go_enter Try.func33, Try.ntmps33
    go_wp2_with (go_at_call 60; refine (spec_IsInequality_c _ _ _ _ _ xs _ (h.ext (by (repeat (first | with_reducible exact Ext.refl _ | with_reducible assumption | ((with_reducible refine Ext.setCell ?_ ?_ _); rotate_left; focus (first | omega | (simp <;> omega))) | with_reducible refine Ext.alloc ?_ _ | with_reducible refine Ext.drewN ?_ _ | with_reducible refine Ext.drew ?_ | with_reducible refine Ext.trans ?_ (by with_reducible assumption)))))).mono ?_; rw [hq]; rintro e w1 ⟨rfl, he⟩)
    go_ret2
    exact ⟨0, rfl, rfl, by (repeat (first | with_reducible exact Ext.refl _ | with_reducible assumption | ((with_reducible refine Ext.setCell ?_ ?_ _); rotate_left; focus (first | omega | (simp <;> omega))) | with_reducible refine Ext.alloc ?_ _ | with_reducible refine Ext.drewN ?_ _ | with_reducible refine Ext.drew ?_ | with_reducible refine Ext.trans ?_ (by with_reducible assumption)))⟩
  · simp only [if_true]
    obtain ⟨hv, hl, hbd, hxs⟩ := ineq_facts hq
    have HQ := hide hq
    have HX := hide hxs
    have hn : n ≤ 12 := by have := h.len; omega
    have HL := hide hl
    clear hq hxs hl
    obtain ⟨u, rfl⟩ := int_nat hv.1
    have hp := pow_small (show u ≤ 12 by omega)
    have hp2 : ((2 ^ u : Nat) : Int) = (2 : Int) ^ u := by simp
    obtain ⟨N, hN⟩ : ∃ N : Nat, N = 2 ^ u := ⟨_, rfl⟩
    rw [← hN] at hp2
    rw [show ((u : Int)).toNat = u by omega, ← hN]
    have HN := hide hp2
    clear hN
    have hN4 : N ≤ 4096 := by omega
    clear hp2
    go_enter Try.func33, Try.ntmps33
    go_wp2_with (go_at_call 60; refine (spec_IsInequality_c _ _ _ _ _ xs _ (h.ext (by (repeat (first | with_reducible exact Ext.refl _ | with_reducible assumption | ((with_reducible refine Ext.setCell ?_ ?_ _); rotate_left; focus (first | omega | (simp <;> omega))) | with_reducible refine Ext.alloc ?_ _ | with_reducible refine Ext.drewN ?_ _ | with_reducible refine Ext.drew ?_ | with_reducible refine Ext.trans ?_ (by with_reducible assumption)))))).mono ?_; rw [HQ.out]; rintro e w1 ⟨rfl, he⟩)
    refine wp_loopK _ rfl (fun KK acT wr => ∃ s0 s1 s2 s3 s4 s5 s6 s7 s8 s9 s10 s11 s12 s13 s14 s15 s16 s17 s18 s19 s20 s21 s22 s23 : Value, (KeptM [true, false, false, true, false, false, false, false, false, false, false, false, false, false, false, false, false, false, false, false, false, false, false, true] [s0, s1, s2, s3, s4, s5, s6, s7, s8, s9, s10, s11, s12, s13, s14, s15, s16, s17, s18, s19, s20, s21, s22, s23] KK ∧ (Ext (w.alloc (.cells #[.slice A n c, .int .i64 bd] 24)) wr ∧ ∃ k t : Nat, k ≤ N ∧ t ≤ k ∧ s7 = .int .i64 k ∧ s6 = .int .i64 t ∧ Hid (t = countB (planeAt xs bd) k))) ∧ acT = ⟨#[s0, s1, s2, s3, s4, s5, s6, s7, s8, s9, s10, s11, s12, s13, s14, s15, s16, s17, s18, s19, s20, s21, s22, s23], []⟩) (fun acT wr => (fun (s7 : Value) (wr : World) => N - (intOf s7).toNat) (acT.tmps.getD 7 undef) wr) ?_ ?_
    · (refine ⟨_, _, _, _, _, _, _, _, _, _, _, _, _, _, _, _, _, _, _, _, _, _, _, _, ⟨(by (repeat (first | exact trivial | refine ⟨rfl, ?_⟩))), ?_⟩, rfl⟩; exact ⟨he, 0, 0, by omega, by omega, rfl, rfl, rfl⟩)
    intro _ wr hinv; obtain ⟨s0, s1, s2, s3, s4, s5, s6, s7, s8, s9, s10, s11, s12, s13, s14, s15, s16, s17, s18, s19, s20, s21, s22, s23, ⟨hkept, hrel⟩, rfl⟩ := hinv; simp only [KeptM] at hkept; obtain ⟨rfl, rfl, rfl, -⟩ := hkept; (try dsimp only)
    clear he
    obtain ⟨he, k, t, hk, htk, hs1, hs2, ht⟩ := hrel
    subst hs1
    subst hs2
    have b0 := he.box 0 _ rfl
    have b1 := he.box 1 _ rfl
    by_cases hlt : (k : Int) < (2 : Int) ^ u
    · have hkN : k < N := by have := HN.out; omega
      have HC := hide (l16Holds_c A n c k bd xs wr (h.ext (by (repeat (first | with_reducible exact Ext.refl _ | with_reducible assumption | ((with_reducible refine Ext.setCell ?_ ?_ _); rotate_left; focus (first | omega | (simp <;> omega))) | with_reducible refine Ext.alloc ?_ _ | with_reducible refine Ext.drewN ?_ _ | with_reducible refine Ext.drew ?_ | with_reducible refine Ext.trans ?_ (by with_reducible assumption))))) hn (by omega) hbd HX.out)
      cases hpl : planeAt xs bd k
      · rw [hpl] at HC
        have ht' : Hid (t = countB (planeAt xs bd) (k + 1)) := hide (by simp only [countB, hpl]; rw [ht.out]; simp)
        clear hpl
        go_wp2_with (go_at_call 72; refine HC.out.mono ?_; rintro e w2 ⟨rfl, he2⟩)
        exact ⟨⟨(by (repeat (first | exact trivial | refine ⟨rfl, ?_⟩))), he.trans he2, k + 1, t, by omega, by omega, by go_num, rfl, ht'⟩, (by simp [intOf] <;> omega)⟩
      · rw [hpl] at HC
        have ht' : Hid (t + 1 = countB (planeAt xs bd) (k + 1)) := hide (by simp only [countB, hpl]; rw [ht.out]; simp)
        clear hpl
        go_wp2_with (go_at_call 72; refine HC.out.mono ?_; rintro e w2 ⟨rfl, he2⟩)
        exact ⟨⟨(by (repeat (first | exact trivial | refine ⟨rfl, ?_⟩))), he.trans he2, k + 1, t + 1, by omega, by omega, by go_num, by go_num, ht'⟩, (by simp [intOf] <;> omega)⟩
    · have hkN : k = N := by have := HN.out; omega
      go_wp2
      go_ret2
      exact ⟨t, rfl, by rw [ht.out, hkN], by (repeat (first | with_reducible exact Ext.refl _ | with_reducible assumption | ((with_reducible refine Ext.setCell ?_ ?_ _); rotate_left; focus (first | omega | (simp <;> omega))) | with_reducible refine Ext.alloc ?_ _ | with_reducible refine Ext.drewN ?_ _ | with_reducible refine Ext.drew ?_ | with_reducible refine Ext.trans ?_ (by with_reducible assumption)))⟩
set_option maxHeartbeats 800000 in
theorem impl_CountHolding_c (v bd : Int) (A : Option Addr) (n c : Nat) (xs : List Int) (w : World) (h : Ints w A n xs) :
    Calls Try.prog 34 #[.int .i64 v, .agg #[.slice A n c, .int .i64 bd]] w fun e w' =>
      ∃ t : Nat, e = .returned (.tuple #[.int .i64 t, .bool (ineqOk v bd xs)]) ∧ (t = if ineqOk v bd xs then countB (planeAt xs bd) (2 ^ v.toNat) else 0) ∧ Ext w w' := by
  cases hq : ineqOk v bd xs
  · simp only [Bool.false_eq_true, if_false]
    go_enter Try.func34, Try.ntmps34
    go_wp2_with (go_at_call 62; refine (impl_IsInequality_c _ _ _ _ _ xs _ (h.ext (by (repeat (first | with_reducible exact Ext.refl _ | with_reducible assumption | ((with_reducible refine Ext.setCell ?_ ?_ _); rotate_left; focus (first | omega | (simp <;> omega))) | with_reducible refine Ext.alloc ?_ _ | with_reducible refine Ext.drewN ?_ _ | with_reducible refine Ext.drew ?_ | with_reducible refine Ext.trans ?_ (by with_reducible assumption)))))).mono ?_; rw [hq]; rintro e w1 ⟨rfl, he⟩)
    go_ret2
    exact ⟨0, rfl, rfl, by (repeat (first | with_reducible exact Ext.refl _ | with_reducible assumption | ((with_reducible refine Ext.setCell ?_ ?_ _); rotate_left; focus (first | omega | (simp <;> omega))) | with_reducible refine Ext.alloc ?_ _ | with_reducible refine Ext.drewN ?_ _ | with_reducible refine Ext.drew ?_ | with_reducible refine Ext.trans ?_ (by with_reducible assumption)))⟩
  · simp only [if_true]
    obtain ⟨hv, hl, hbd, hxs⟩ := ineq_facts hq
    have HQ := hide hq
    have HX := hide hxs
    have hn : n ≤ 12 := by have := h.len; omega
    have HL := hide hl
    clear hq hxs hl
    obtain ⟨u, rfl⟩ := int_nat hv.1
    have hp := pow_small (show u ≤ 12 by omega)
    have hp2 : ((2 ^ u : Nat) : Int) = (2 : Int) ^ u := by simp
    obtain ⟨N, hN⟩ : ∃ N : Nat, N = 2 ^ u := ⟨_, rfl⟩
    rw [← hN] at hp2
    rw [show ((u : Int)).toNat = u by omega, ← hN]
    have HN := hide hp2
    clear hN
    have hN4 : N ≤ 4096 := by omega
    clear hp2
    go_enter Try.func34, Try.ntmps34
    go_wp2_with (go_at_call 62; refine (impl_IsInequality_c _ _ _ _ _ xs _ (h.ext (by (repeat (first | with_reducible exact Ext.refl _ | with_reducible assumption | ((with_reducible refine Ext.setCell ?_ ?_ _); rotate_left; focus (first | omega | (simp <;> omega))) | with_reducible refine Ext.alloc ?_ _ | with_reducible refine Ext.drewN ?_ _ | with_reducible refine Ext.drew ?_ | with_reducible refine Ext.trans ?_ (by with_reducible assumption)))))).mono ?_; rw [HQ.out]; rintro e w1 ⟨rfl, he⟩)
    refine wp_loopK _ rfl (fun KK acT wr => ∃ s0 s1 s2 s3 s4 s5 s6 s7 s8 s9 s10 s11 s12 s13 s14 s15 s16 s17 s18 s19 s20 s21 s22 s23 : Value, (KeptM [false, false, false, true, false, false, false, false, false, false, false, false, false, true, false, false, false, false, false, false, false, false, false, true] [s0, s1, s2, s3, s4, s5, s6, s7, s8, s9, s10, s11, s12, s13, s14, s15, s16, s17, s18, s19, s20, s21, s22, s23] KK ∧ (Ext (w.alloc (.cells #[.slice A n c, .int .i64 bd] 24)) wr ∧ ∃ k t : Nat, k ≤ N ∧ t ≤ k ∧ s14 = .int .i64 k ∧ s6 = .int .i64 t ∧ Hid (t = countB (planeAt xs bd) k))) ∧ acT = ⟨#[s0, s1, s2, s3, s4, s5, s6, s7, s8, s9, s10, s11, s12, s13, s14, s15, s16, s17, s18, s19, s20, s21, s22, s23], []⟩) (fun acT wr => (fun (s14 : Value) (wr : World) => N - (intOf s14).toNat) (acT.tmps.getD 14 undef) wr) ?_ ?_
    · (refine ⟨_, _, _, _, _, _, _, _, _, _, _, _, _, _, _, _, _, _, _, _, _, _, _, _, ⟨(by (repeat (first | exact trivial | refine ⟨rfl, ?_⟩))), ?_⟩, rfl⟩; exact ⟨he, 0, 0, by omega, by omega, rfl, rfl, rfl⟩)
    intro _ wr hinv; obtain ⟨s0, s1, s2, s3, s4, s5, s6, s7, s8, s9, s10, s11, s12, s13, s14, s15, s16, s17, s18, s19, s20, s21, s22, s23, ⟨hkept, hrel⟩, rfl⟩ := hinv; simp only [KeptM] at hkept; obtain ⟨rfl, rfl, rfl, -⟩ := hkept; (try dsimp only)
    clear he
    obtain ⟨he, k, t, hk, htk, hs1, hs2, ht⟩ := hrel
    subst hs1
    subst hs2
    have b0 := he.box 0 _ rfl
    have b1 := he.box 1 _ rfl
    by_cases hlt : (k : Int) < (2 : Int) ^ u
    · have hkN : k < N := by have := HN.out; omega
      have HC := hide (planeHolds_c A n c k bd xs wr (h.ext (by (repeat (first | with_reducible exact Ext.refl _ | with_reducible assumption | ((with_reducible refine Ext.setCell ?_ ?_ _); rotate_left; focus (first | omega | (simp <;> omega))) | with_reducible refine Ext.alloc ?_ _ | with_reducible refine Ext.drewN ?_ _ | with_reducible refine Ext.drew ?_ | with_reducible refine Ext.trans ?_ (by with_reducible assumption))))) hn (by omega) hbd HX.out)
      cases hpl : planeAt xs bd k
      · rw [hpl] at HC
        have ht' : Hid (t = countB (planeAt xs bd) (k + 1)) := hide (by simp only [countB, hpl]; rw [ht.out]; simp)
        clear hpl
        go_wp2_with (go_at_call 73; refine HC.out.mono ?_; rintro e w2 ⟨rfl, he2⟩)
        exact ⟨⟨(by (repeat (first | exact trivial | refine ⟨rfl, ?_⟩))), he.trans he2, k + 1, t, by omega, by omega, by go_num, rfl, ht'⟩, (by simp [intOf] <;> omega)⟩
      · rw [hpl] at HC
        have ht' : Hid (t + 1 = countB (planeAt xs bd) (k + 1)) := hide (by simp only [countB, hpl]; rw [ht.out]; simp)
        clear hpl
        go_wp2_with (go_at_call 73; refine HC.out.mono ?_; rintro e w2 ⟨rfl, he2⟩)
        exact ⟨⟨(by (repeat (first | exact trivial | refine ⟨rfl, ?_⟩))), he.trans he2, k + 1, t + 1, by omega, by omega, by go_num, by go_num, ht'⟩, (by simp [intOf] <;> omega)⟩
    · have hkN : k = N := by have := HN.out; omega
      go_wp2
      go_ret2
      exact ⟨t, rfl, by rw [ht.out, hkN], by (repeat (first | with_reducible exact Ext.refl _ | with_reducible assumption | ((with_reducible refine Ext.setCell ?_ ?_ _); rotate_left; focus (first | omega | (simp <;> omega))) | with_reducible refine Ext.alloc ?_ _ | with_reducible refine Ext.drewN ?_ _ | with_reducible refine Ext.drew ?_ | with_reducible refine Ext.trans ?_ (by with_reducible assumption)))⟩
end Go.Proofs.Ytencjnddhokgaaa
