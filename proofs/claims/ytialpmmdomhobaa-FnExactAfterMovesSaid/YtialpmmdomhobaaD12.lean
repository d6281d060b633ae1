/-
  AfterMoves: both texts return the same; the marks over []PebbleMove.
-/
import Derived.Test.YtialpmmdomhobaaD9
namespace Go.Proofs.Ytialpmmdomhobaa
set_option linter.unusedSimpArgs false
set_option linter.unusedVariables false
open Go.RowKit

set_option maxRecDepth 100000 in
set_option maxHeartbeats 1600000 in
theorem markPebbleMoveS_o (A : Option Addr) (n c lo hi : Nat) (k : Int) (ys : List Int) (w : World) (h : ObF 49 2 w lo hi A n c ys) (hk : 0 ≤ k ∧ k ≤ 70368744177664) :
    Calls Try.prog 14 #[.slice A n c, .int .i64 k] w fun e w' => e = .returned (.int .i64 (k + (n * 2 : Nat))) ∧ ObF 49 2 w' lo hi A n c (upFrom k (n * 2)) ∧ Touch lo hi w w' := by
  have hsm := h.small
  have hlen : ys.length = n * 2 := by have := h.own.len; simpa using this
  have hbl := h.below
  go_enter Try.func14, Try.ntmps14
  go_wp2_with fail
  refine wp_loopF 27 _ rfl rfl [0, 26] rfl (fun fr wr => ∃ (i : Nat) (zs : List Int), i ≤ n ∧ (fr 5) = .int .i64 i ∧ (fr 1) = .int .i64 (k + (i * 2 : Nat)) ∧ Own wr lo 49 2 A n c (zs.map (Value.int .i64)) ∧ Hid (zs.length = n * 2 ∧ zs.take (i * 2) = upFrom k (i * 2)) ∧ Touch lo hi w wr) (fun fr wr => n - (intOf (fr 5)).toNat) ?_ ?_
  · (exact ⟨0, ys, by omega, rfl, by simp, h.own, ⟨hlen, rfl⟩, Touch.refl _ _ _⟩)
  intro ks fr wr hkept hrel; (try dsimp only at hrel)
  change Code.wp _ _ _ ⟨#[ks 0, fr 1, fr 2, fr 3, fr 4, fr 5, fr 6, fr 7, fr 8, fr 9, fr 10, fr 11, fr 12, fr 13, fr 14, fr 15, fr 16, fr 17, fr 18, fr 19, fr 20, fr 21, fr 22, fr 23, fr 24, fr 25, ks 26], []⟩ wr
  simp only [KeptV, List.getD_cons_zero, List.getD_cons_succ] at hkept; obtain ⟨hk0, hk26, -⟩ := hkept
  generalize ks 0 = k0 at hk0 ⊢; subst hk0
  generalize ks 26 = k26 at hk26 ⊢; subst hk26
  generalize fr 1 = s1 at hrel ⊢
  generalize fr 5 = s5 at hrel ⊢
  obtain ⟨i, zs, hi', hs1, hs2, ho, hz, ht⟩ := hrel
  subst hs1; subst hs2
  by_cases hlt : i < n
  · obtain ⟨g, rfl, hg1, hg2⟩ := h.own.form (by omega)
    have hg3 := hbl g rfl
    have hl1 : Hid (zs.length = n * 2) := hide hz.out.1
    obtain ⟨u0, _, d0, f0⟩ := ho.int_atS (q := i * 2) (by omega)
    obtain ⟨u1, _, d1, f1⟩ := ho.int_atS (q := i * 2 + 1) (by omega)
    have ho1 := (ho.store (i * 2) (.int .i64 (k + (i : Int) * 2))).store (i * 2 + 1) (.int .i64 (k + (i : Int) * 2 + 1))
    rw [set_map_int, set_map_int] at ho1
    have ht1 := (ht.trans (touch_setF _ (p := ⟨g, i * 2, none⟩) (.int .i64 (k + (i : Int) * 2)) ⟨hg1, hg3⟩)).trans (touch_setF _ (p := ⟨g, i * 2 + 1, none⟩) (.int .i64 (k + (i : Int) * 2 + 1)) ⟨hg1, hg3⟩)
    have hz2 : Hid (((zs.set (i * 2) (k + (i : Int) * 2)).set (i * 2 + 1) (k + (i : Int) * 2 + 1)).length = n * 2 ∧ ((zs.set (i * 2) (k + (i : Int) * 2)).set (i * 2 + 1) (k + (i : Int) * 2 + 1)).take ((i + 1) * 2) = upFrom k ((i + 1) * 2)) := hide ⟨by simpa using hl1.out, by
      rw [show (i + 1) * 2 = i * 2 + 2 by omega, take_set2 _ _ _ _ (by rw [hl1.out]; omega), hz.out.2, upFrom_succ k (i * 2 + 1), upFrom_succ k (i * 2)]; simp; omega⟩
    have HO := hide ho1
    have HT := hide ht1
    clear ho ht ho1 ht1
    go_wp2_with fail
    exact ⟨⟨(by (repeat (first | exact trivial | refine ⟨rfl, ?_⟩))), i + 1, _, by omega, by go_num, by first | rfl | go_num, HO.out, hz2, HT.out⟩, (by simp [intOf] <;> omega)⟩
  · obtain rfl : i = n := by omega
    have hall : zs = upFrom k (i * 2) := by
      have h1 := hz.out.2
      rwa [List.take_of_length_le (by rw [hz.out.1]; exact Nat.le_refl _)] at h1
    subst hall
    have hoh := hide ho
    have hth := hide ht
    clear ho ht hz
    go_wp2
    go_ret
    exact ⟨rfl, ⟨hoh.out, hbl, hsm⟩, hth.out⟩
set_option maxHeartbeats 1600000 in
theorem l14List_c (s : Nat) (w : World) (hs : s < 1024) :
    Calls Try.prog 20 #[.int .i64 (s : Nat)] w fun e w' => ∃ A n c, e = .returned (.slice A n c) ∧ n ≤ 10 ∧ Own w' w.heap.size 3 1 A n c ((pickAll s.testBit 10).map (Value.int .i64)) ∧ Ext w w' := by
  have h0 : Own (w.alloc (.cells #[] 3)) w.heap.size 3 1 (some ⟨w.heap.size, 0, none⟩) 0 0 ((pickAll s.testBit 0).map (Value.int .i64)) := Own.arr #[] 0 [] (Nat.le_refl _) (by decide) rfl rfl
  go_enter Try.func20, Try.ntmps20
  go_wp2_with fail
  refine wp_loopF 22 _ rfl rfl [0, 21] rfl (fun fr wr => Ext w wr ∧ ∃ k : Nat, k ≤ 10 ∧ (fr 4) = .int .i64 k ∧ ∃ X N y, (fr 3) = .slice X N y ∧ N ≤ k ∧ Own wr w.heap.size 3 1 X N y ((pickAll s.testBit k).map (Value.int .i64))) (fun fr wr => 10 - (intOf (fr 4)).toNat) ?_ ?_
  · (exact ⟨by (repeat (first | with_reducible exact Ext.refl _ | with_reducible assumption | ((with_reducible refine Ext.setCell ?_ ?_ _); rotate_left; focus (first | omega | (simp <;> omega))) | with_reducible refine Ext.alloc ?_ _ | with_reducible refine Ext.drewN ?_ _ | with_reducible refine Ext.drew ?_ | with_reducible refine Ext.trans ?_ (by with_reducible assumption))), 0, by omega, rfl, _, _, _, rfl, by omega, h0⟩)
  intro ks fr wr hkept hrel; (try dsimp only at hrel)
  change Code.wp _ _ _ ⟨#[ks 0, fr 1, fr 2, fr 3, fr 4, fr 5, fr 6, fr 7, fr 8, fr 9, fr 10, fr 11, fr 12, fr 13, fr 14, fr 15, fr 16, fr 17, fr 18, fr 19, fr 20, ks 21], []⟩ wr
  simp only [KeptV, List.getD_cons_zero, List.getD_cons_succ] at hkept; obtain ⟨hk0, hk21, -⟩ := hkept
  generalize ks 0 = k0 at hk0 ⊢; subst hk0
  generalize ks 21 = k21 at hk21 ⊢; subst hk21
  generalize fr 3 = s3 at hrel ⊢
  generalize fr 4 = s4 at hrel ⊢
  clear h0
  obtain ⟨he, k, hk, hs1, X, N, y, hs2, hN, ho⟩ := hrel
  subst hs1; subst hs2
  have hsz := he.size
  have hdv : ((s : Int) / 2 ^ k) = ((s / 2 ^ k : Nat) : Int) := by simp
  rcases Nat.eq_zero_or_pos (s / 2 ^ k) with hz | hz
  · have hz' : (s : Int) / 2 ^ k = 0 := by rw [hdv, hz]; rfl
    have hF : Hid (pickAll s.testBit 10 = pickAll s.testBit k) := hide (pickAll_more hk (fun j hj => by
      have h1 : s / 2 ^ j = 0 := by
        rw [Nat.div_eq_zero_iff] at hz ⊢
        have h2 : 2 ^ k ≤ 2 ^ j := Nat.pow_le_pow_right (by omega) hj
        have := Nat.one_le_two_pow (n := k)
        right; omega
      rw [Nat.testBit_eq_decide_div_mod_eq, h1]; rfl))
    clear hdv hz
    go_wp2_with fail
    go_ret
    exact ⟨_, _, _, rfl, by omega, by rw [hF.out]; exact ho, he⟩
  · have hk10 : k < 10 := by
      rcases Nat.lt_or_ge k 10 with h | h
      · exact h
      · obtain rfl : k = 10 := by omega
        have : s / 2 ^ 10 = 0 := by rw [Nat.div_eq_zero_iff]; right; omega
        omega
    have hz' : (0 : Int) < (s : Int) / 2 ^ k := by rw [hdv]; omega
    have hb := bit_eq s k (by omega)
    clear hdv hz
    cases hc : s.testBit k
    · have HH := hide (pickAll_miss hc)
      rw [hc] at hb
      clear hc
      go_wp2_with fail
      exact ⟨⟨(by (repeat (first | exact trivial | refine ⟨rfl, ?_⟩))), he, k + 1, by omega, by go_num, _, _, _, rfl, by omega, by rw [HH.out]; exact ho⟩, (by simp [intOf] <;> omega)⟩
    · have HH := hide (pickAll_hit hc)
      rw [hc] at hb
      clear hc
      go_wp2_with (at_builtin; refine wpList_app rfl _ _ _ _ rfl Try.underlying28 _ 1 8 info_int rfl (by decide) rfl ho 1 [.int .i64 (k : Int)] (by first | rfl | simp [go_sem]) rfl ?_ ?_ ?_ ?_ ?_; (intro u hu; simp at hu; first | (subst hu; rfl) | (rcases hu with rfl | rfl <;> rfl) | (rcases hu with rfl | rfl | rfl <;> rfl) | (rcases hu with rfl | rfl | rfl | rfl <;> rfl) | (rcases hu with rfl | rfl | rfl | rfl | rfl <;> rfl) | (rcases hu with rfl | rfl | rfl | rfl | rfl | rfl <;> rfl)); omega; omega; (first | omega | (simp; omega)); intro A' c' w' ho' hg' hb')
      exact ⟨⟨(by (repeat (first | exact trivial | refine ⟨rfl, ?_⟩))), he.trans_own (Nat.le_refl _) ho hg', k + 1, by omega, by go_num, _, _, _, rfl, by omega, by rw [HH.out]; simpa using ho'⟩, (by simp [intOf] <;> omega)⟩
def amOk (xss : List (List Int)) (ms : List Mv) : Bool := dagOk xss && (decide (ms.length ≤ 300) && (posTo xss false ms ms.length).isSome)
def amList (xss : List (List Int)) (ms : List Mv) : List Int := match posTo xss false ms ms.length with | none => [] | some (_, s) => pickAll s.testBit 10
end Go.Proofs.Ytialpmmdomhobaa
