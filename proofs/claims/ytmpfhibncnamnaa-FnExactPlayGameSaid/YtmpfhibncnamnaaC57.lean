/-
  The laws' helpers over [][3]int: rows of three, as one list of numbers.
-/
import Derived.Test.YtmpfhibncnamnaaO
import Derived.Test.YtmpfhibncnamnaaC32
import Derived.Test.YtmpfhibncnamnaaC44
namespace Go.Proofs.Ytmpfhibncnamnaa
set_option linter.unusedSimpArgs false
set_option linter.unusedVariables false
open Go.RowKit

theorem info_int3 : (Try.prog.info? 83).map (fun i => (i.zero, i.size, i.bytes)) = some (some (.agg #[.int .i64 0, .int .i64 0, .int .i64 0]), 3, 24) := by kernel_rfl
/-- Rows of three at a slice of the call's own: read as one list. -/
structure Tris (w : World) (A : Option Addr) (n : Nat) (ys : List Int) : Prop where
  len : ys.length = n * 3
  bound : n ≤ 1099511627776
  reads : 0 < n → ∃ g, A = some ⟨g, 0, none⟩ ∧ ∀ j u, ys[j]? = some u → w.cell? ⟨g, j, none⟩ = some (.int .i64 u)
theorem Tris.ext {w w' : World} {A : Option Addr} {n : Nat} {ys : List Int} (h : Tris w A n ys) (he : Ext w w') : Tris w' A n ys :=
  ⟨h.len, h.bound, fun hn => let ⟨g, e, hc⟩ := h.reads hn; ⟨g, e, fun j u hu => he.cell (hc j u hu)⟩⟩
theorem Tris.cell {w : World} {A : Option Addr} {n : Nat} {ys : List Int} (h : Tris w A n ys) {i : Nat} (hi : i < n) :
    ∃ g x y z, A = some ⟨g, 0, none⟩ ∧ Hid (ys[i * 3]? = some x ∧ ys[i * 3 + 1]? = some y ∧ ys[i * 3 + 2]? = some z) ∧ w.cell? ⟨g, i * 3, none⟩ = some (.int .i64 x) ∧ w.cell? ⟨g, i * 3 + 1, none⟩ = some (.int .i64 y) ∧ w.cell? ⟨g, i * 3 + 2, none⟩ = some (.int .i64 z) := by
  have hl := h.len
  obtain ⟨g, e, hc⟩ := h.reads (by omega)
  have h0 := List.getElem?_eq_getElem (show i * 3 < ys.length by omega)
  have h1 := List.getElem?_eq_getElem (show i * 3 + 1 < ys.length by omega)
  have h2 := List.getElem?_eq_getElem (show i * 3 + 2 < ys.length by omega)
  exact ⟨g, _, _, _, e, ⟨h0, h1, h2⟩, hc _ _ h0, hc _ _ h1, hc _ _ h2⟩
structure ObT (w : World) (lo hi : Nat) (A : Option Addr) (n c : Nat) (ys : List Int) : Prop where
  own : Own w lo 83 3 A n c (ys.map (Value.int .i64))
  below : ∀ k, (Value.slice A n c).ownBlock = some k → k < hi
  small : n ≤ 1099511627776
theorem ObT.tris {w : World} {lo hi : Nat} {A : Option Addr} {n c : Nat} {ys : List Int} (h : ObT w lo hi A n c ys) : Tris w A n ys := ⟨by have := h.own.len; simpa using this, h.small, fun hn => by
    obtain ⟨g, rfl, _, _⟩ := h.own.form hn
    exact ⟨g, rfl, fun j u hu => h.own.cell (by rw [List.getElem?_map, hu]; rfl)⟩⟩
theorem ObT.ext {w w' : World} {lo hi : Nat} {A : Option Addr} {n c : Nat} {ys : List Int} (h : ObT w lo hi A n c ys) (he : Ext w w') : ObT w' lo hi A n c ys := ⟨h.own.ext he, h.below, h.small⟩

set_option maxRecDepth 100000 in
set_option maxHeartbeats 800000 in
theorem eqIntA3_same (a b c : Int) (w : World) :
    Calls Try.prog 86 #[.agg #[.int .i64 a, .int .i64 b, .int .i64 c], .agg #[.int .i64 a, .int .i64 b, .int .i64 c]] w fun e w' => e = .returned (.bool true) ∧ Ext w w' := by
  obtain ⟨W1, hW1⟩ : ∃ W, W = (w.alloc (.cells #[.int .i64 a, .int .i64 b, .int .i64 c] 83)).alloc (.cells #[.int .i64 a, .int .i64 b, .int .i64 c] 83) := ⟨_, rfl⟩
  have e1 : Ext w W1 := by rw [hW1]; exact ((Ext.refl w).alloc _).alloc _
  have hb1 : BoxAt W1 w.heap.size 83 #[.int .i64 a, .int .i64 b, .int .i64 c] := by rw [hW1]; exact (BoxAt.made w _ _).alloc_old
  have hb2 : BoxAt W1 (w.heap.size + 1) 83 #[.int .i64 a, .int .i64 b, .int .i64 c] := by rw [hW1]; exact BoxAt.made_at (by simp)
  go_enter Try.func86, Try.ntmps86
  go_wp2
  rw [← hW1]
  clear hW1
  refine wp_loopF 17 _ rfl rfl [2, 3] rfl (fun fr wr => Ext W1 wr ∧ ∃ i : Nat, i ≤ 3 ∧ (fr 5) = .int .i64 i) (fun fr wr => 3 - (intOf (fr 5)).toNat) ?_ ?_
  · (exact ⟨Ext.refl _, 0, by omega, rfl⟩)
  intro ks fr wr hkept hrel; (try dsimp only at hrel)
  change Code.wp _ _ _ ⟨#[fr 0, fr 1, ks 2, ks 3, fr 4, fr 5, fr 6, fr 7, fr 8, fr 9, fr 10, fr 11, fr 12, fr 13, fr 14, fr 15, fr 16], []⟩ wr
  simp only [KeptV, List.getD_cons_zero, List.getD_cons_succ] at hkept; obtain ⟨hk2, hk3, -⟩ := hkept
  generalize ks 2 = k2 at hk2 ⊢; subst hk2
  generalize ks 3 = k3 at hk3 ⊢; subst hk3
  generalize fr 5 = s5 at hrel ⊢
  obtain ⟨he, i, hi, hs1⟩ := hrel
  subst hs1
  have a0 := (hb1.ext he).cell 0 (.int .i64 a) rfl
  have a1 := (hb1.ext he).cell 1 (.int .i64 b) rfl
  have a2 := (hb1.ext he).cell 2 (.int .i64 c) rfl
  have d0 := (hb2.ext he).cell 0 (.int .i64 a) rfl
  have d1 := (hb2.ext he).cell 1 (.int .i64 b) rfl
  have d2 := (hb2.ext he).cell 2 (.int .i64 c) rfl
  have heh := hide he
  have hed := hide ((he).drew)
  clear he
  rcases (show i = 0 ∨ i = 1 ∨ i = 2 ∨ i = 3 by omega) with rfl | rfl | rfl | rfl
  · go_wp2
    go_region
    go_wp2
    exact ⟨⟨(by (repeat (first | exact trivial | refine ⟨rfl, ?_⟩))), by first | exact hed.out | exact heh.out, 1, by omega, by go_num⟩, (by simp [intOf] <;> omega)⟩
  · go_wp2
    go_region
    go_wp2
    exact ⟨⟨(by (repeat (first | exact trivial | refine ⟨rfl, ?_⟩))), by first | exact hed.out | exact heh.out, 2, by omega, by go_num⟩, (by simp [intOf] <;> omega)⟩
  · go_wp2
    go_region
    go_wp2
    exact ⟨⟨(by (repeat (first | exact trivial | refine ⟨rfl, ?_⟩))), by first | exact hed.out | exact heh.out, 3, by omega, by go_num⟩, (by simp [intOf] <;> omega)⟩
  · go_wp2
    go_ret
    exact ⟨rfl, e1.trans heh.out⟩
set_option maxRecDepth 100000 in
set_option maxHeartbeats 800000 in
theorem eqIntA3S_same (A B : Option Addr) (n c m d : Nat) (ys : List Int) (w : World) (h : Tris w A n ys) (k : Tris w B m ys) :
    Calls Try.prog 45 #[.slice A n c, .slice B m d] w fun e w' => e = .returned (.bool true) ∧ Ext w w' := by
  have hl : n = m := by have := h.len; have := k.len; omega
  subst hl
  have hb := h.bound
  have hnn : ((n : Int) == (n : Int)) = true := by simp
  go_enter Try.func45, Try.ntmps45
  go_wp2_with fail
  refine wp_loopF 27 _ rfl rfl [0, 1] rfl (fun fr wr => Ext w wr ∧ ∃ i : Nat, i ≤ n ∧ (fr 5) = .int .i64 i) (fun fr wr => n - (intOf (fr 5)).toNat) ?_ ?_
  · (exact ⟨Ext.refl _, 0, by omega, rfl⟩)
  intro ks fr wr hkept hrel; (try dsimp only at hrel)
  change Code.wp _ _ _ ⟨#[ks 0, ks 1, fr 2, fr 3, fr 4, fr 5, fr 6, fr 7, fr 8, fr 9, fr 10, fr 11, fr 12, fr 13, fr 14, fr 15, fr 16, fr 17, fr 18, fr 19, fr 20, fr 21, fr 22, fr 23, fr 24, fr 25, fr 26], []⟩ wr
  simp only [KeptV, List.getD_cons_zero, List.getD_cons_succ] at hkept; obtain ⟨hk0, hk1, -⟩ := hkept
  generalize ks 0 = k0 at hk0 ⊢; subst hk0
  generalize ks 1 = k1 at hk1 ⊢; subst hk1
  generalize fr 5 = s5 at hrel ⊢
  obtain ⟨he, i, hi, hs1⟩ := hrel
  subst hs1
  by_cases hlt : i < n
  · obtain ⟨ad, x, y, z, rfl, hx, a0, a1, a2⟩ := (h.ext he).cell hlt
    obtain ⟨ad', x', y', z', rfl, hx', d0, d1, d2⟩ := (k.ext he).cell hlt
    have hxx : x' = x ∧ y' = y ∧ z' = z := by
      obtain ⟨p1, p2, p3⟩ := hx.out
      obtain ⟨q1, q2, q3⟩ := hx'.out
      rw [p1] at q1; rw [p2] at q2; rw [p3] at q3
      injection q1; injection q2; injection q3
      exact ⟨by omega, by omega, by omega⟩
    obtain ⟨rfl, rfl, rfl⟩ := hxx
    clear hx hx'
    have hed := (Ext.refl wr).drew
    go_wp2_with fail
    go_region_held3 (fun w' => w'.cell? ⟨ad, i * 3, none⟩ = some (.int .i64 x') ∧ w'.cell? ⟨ad, i * 3 + 1, none⟩ = some (.int .i64 y') ∧ w'.cell? ⟨ad, i * 3 + 2, none⟩ = some (.int .i64 z') ∧ w'.cell? ⟨ad', i * 3, none⟩ = some (.int .i64 x') ∧ w'.cell? ⟨ad', i * 3 + 1, none⟩ = some (.int .i64 y') ∧ w'.cell? ⟨ad', i * 3 + 2, none⟩ = some (.int .i64 z')) (exact ⟨(show Ext wr _ by (repeat (first | with_reducible exact Ext.refl _ | with_reducible assumption | ((with_reducible refine Ext.setCell ?_ ?_ _); rotate_left; focus (first | omega | (simp <;> omega))) | with_reducible refine Ext.alloc ?_ _ | with_reducible refine Ext.drewN ?_ _ | with_reducible refine Ext.drew ?_ | with_reducible refine Ext.trans ?_ (by with_reducible assumption)))).cell a0, (show Ext wr _ by (repeat (first | with_reducible exact Ext.refl _ | with_reducible assumption | ((with_reducible refine Ext.setCell ?_ ?_ _); rotate_left; focus (first | omega | (simp <;> omega))) | with_reducible refine Ext.alloc ?_ _ | with_reducible refine Ext.drewN ?_ _ | with_reducible refine Ext.drew ?_ | with_reducible refine Ext.trans ?_ (by with_reducible assumption)))).cell a1, (show Ext wr _ by (repeat (first | with_reducible exact Ext.refl _ | with_reducible assumption | ((with_reducible refine Ext.setCell ?_ ?_ _); rotate_left; focus (first | omega | (simp <;> omega))) | with_reducible refine Ext.alloc ?_ _ | with_reducible refine Ext.drewN ?_ _ | with_reducible refine Ext.drew ?_ | with_reducible refine Ext.trans ?_ (by with_reducible assumption)))).cell a2, (show Ext wr _ by (repeat (first | with_reducible exact Ext.refl _ | with_reducible assumption | ((with_reducible refine Ext.setCell ?_ ?_ _); rotate_left; focus (first | omega | (simp <;> omega))) | with_reducible refine Ext.alloc ?_ _ | with_reducible refine Ext.drewN ?_ _ | with_reducible refine Ext.drew ?_ | with_reducible refine Ext.trans ?_ (by with_reducible assumption)))).cell d0, (show Ext wr _ by (repeat (first | with_reducible exact Ext.refl _ | with_reducible assumption | ((with_reducible refine Ext.setCell ?_ ?_ _); rotate_left; focus (first | omega | (simp <;> omega))) | with_reducible refine Ext.alloc ?_ _ | with_reducible refine Ext.drewN ?_ _ | with_reducible refine Ext.drew ?_ | with_reducible refine Ext.trans ?_ (by with_reducible assumption)))).cell d1, (show Ext wr _ by (repeat (first | with_reducible exact Ext.refl _ | with_reducible assumption | ((with_reducible refine Ext.setCell ?_ ?_ _); rotate_left; focus (first | omega | (simp <;> omega))) | with_reducible refine Ext.alloc ?_ _ | with_reducible refine Ext.drewN ?_ _ | with_reducible refine Ext.drew ?_ | with_reducible refine Ext.trans ?_ (by with_reducible assumption)))).cell d2⟩) (first | (go_at_call 86; refine (eqIntA3_same x' y' z' _).mono ?_; rintro e w1 ⟨rfl, he1⟩; have ew1 : Ext wr w1 := (by (repeat (first | with_reducible exact Ext.refl _ | with_reducible assumption | ((with_reducible refine Ext.setCell ?_ ?_ _); rotate_left; focus (first | omega | (simp <;> omega))) | with_reducible refine Ext.alloc ?_ _ | with_reducible refine Ext.drewN ?_ _ | with_reducible refine Ext.drew ?_ | with_reducible refine Ext.trans ?_ (by with_reducible assumption))))))
    have hEH := hide (he.trans ew1)
    clear he
    go_wp2
    exact ⟨⟨(by (repeat (first | exact trivial | refine ⟨rfl, ?_⟩))), hEH.out, i + 1, by omega, by go_num⟩, (by simp [intOf] <;> omega)⟩
  · obtain rfl : i = n := by omega
    go_wp2
    go_ret
    exact ⟨rfl, by (repeat (first | with_reducible exact Ext.refl _ | with_reducible assumption | ((with_reducible refine Ext.setCell ?_ ?_ _); rotate_left; focus (first | omega | (simp <;> omega))) | with_reducible refine Ext.alloc ?_ _ | with_reducible refine Ext.drewN ?_ _ | with_reducible refine Ext.drew ?_ | with_reducible refine Ext.trans ?_ (by with_reducible assumption)))⟩
set_option maxRecDepth 100000 in
set_option maxHeartbeats 1600000 in
theorem markIntA3S_o (A : Option Addr) (n c lo hi : Nat) (k : Int) (ys : List Int) (w : World) (h : ObT w lo hi A n c ys) (hk : 0 ≤ k ∧ k ≤ 70368744177664) :
    Calls Try.prog 46 #[.slice A n c, .int .i64 k] w fun e w' => e = .returned (.int .i64 (k + (n * 3 : Nat))) ∧ ObT w' lo hi A n c (upFrom k (n * 3)) ∧ Touch lo hi w w' := by
  have hsm := h.small
  have hlen : ys.length = n * 3 := by have := h.own.len; simpa using this
  have hbl := h.below
  go_enter Try.func46, Try.ntmps46
  go_wp2_with fail
  refine wp_loopF 26 _ rfl rfl [0, 25] rfl (fun fr wr => ∃ (i : Nat) (zs : List Int), i ≤ n ∧ (fr 5) = .int .i64 i ∧ (fr 1) = .int .i64 (k + (i * 3 : Nat)) ∧ Own wr lo 83 3 A n c (zs.map (Value.int .i64)) ∧ Hid (zs.length = n * 3 ∧ zs.take (i * 3) = upFrom k (i * 3)) ∧ Touch lo hi w wr) (fun fr wr => n - (intOf (fr 5)).toNat) ?_ ?_
  · (exact ⟨0, ys, by omega, rfl, by simp, h.own, ⟨hlen, rfl⟩, Touch.refl _ _ _⟩)
  intro ks fr wr hkept hrel; (try dsimp only at hrel)
  change Code.wp _ _ _ ⟨#[ks 0, fr 1, fr 2, fr 3, fr 4, fr 5, fr 6, fr 7, fr 8, fr 9, fr 10, fr 11, fr 12, fr 13, fr 14, fr 15, fr 16, fr 17, fr 18, fr 19, fr 20, fr 21, fr 22, fr 23, fr 24, ks 25], []⟩ wr
  simp only [KeptV, List.getD_cons_zero, List.getD_cons_succ] at hkept; obtain ⟨hk0, hk25, -⟩ := hkept
  generalize ks 0 = k0 at hk0 ⊢; subst hk0
  generalize ks 25 = k25 at hk25 ⊢; subst hk25
  generalize fr 1 = s1 at hrel ⊢
  generalize fr 5 = s5 at hrel ⊢
  obtain ⟨i, zs, hi', hs1, hs2, ho, hz, ht⟩ := hrel
  subst hs1; subst hs2
  by_cases hlt : i < n
  · obtain ⟨g, rfl, hg1, hg2⟩ := h.own.form (by omega)
    have hg3 := hbl g rfl
    go_wp2_with fail
    refine wp_loopF 26 _ rfl rfl [0, 5, 7, 8, 9, 10, 11, 12, 25] rfl (fun fr wr => ∃ (j : Nat) (zs : List Int), j ≤ 3 ∧ (fr 6) = .int .i64 j ∧ (fr 1) = .int .i64 (k + (i * 3 + j : Nat)) ∧ Own wr lo 83 3 (some ⟨g, 0, none⟩) n c (zs.map (Value.int .i64)) ∧ Hid (zs.length = n * 3 ∧ zs.take (i * 3 + j) = upFrom k (i * 3 + j)) ∧ Touch lo hi w wr) (fun fr wr => 3 - (intOf (fr 6)).toNat) ?_ ?_
    · (exact ⟨0, zs, by omega, rfl, by go_num, ho, hz, ht⟩)
    intro ks fr wr hkept hrel; (try dsimp only at hrel)
    change Code.wp _ _ _ ⟨#[ks 0, fr 1, fr 2, fr 3, fr 4, ks 5, fr 6, ks 7, ks 8, ks 9, ks 10, ks 11, ks 12, fr 13, fr 14, fr 15, fr 16, fr 17, fr 18, fr 19, fr 20, fr 21, fr 22, fr 23, fr 24, ks 25], []⟩ wr
    simp only [KeptV, List.getD_cons_zero, List.getD_cons_succ] at hkept; obtain ⟨hk0, hk5, hk7, hk8, hk9, hk10, hk11, hk12, hk25, -⟩ := hkept
    generalize ks 0 = k0 at hk0 ⊢; subst hk0
    generalize ks 5 = k5 at hk5 ⊢; subst hk5
    generalize ks 7 = k7 at hk7 ⊢; subst hk7
    generalize ks 8 = k8 at hk8 ⊢; subst hk8
    generalize ks 9 = k9 at hk9 ⊢; subst hk9
    generalize ks 10 = k10 at hk10 ⊢; subst hk10
    generalize ks 11 = k11 at hk11 ⊢; subst hk11
    generalize ks 12 = k12 at hk12 ⊢; subst hk12
    generalize ks 25 = k25 at hk25 ⊢; subst hk25
    generalize fr 1 = s1 at hrel ⊢
    generalize fr 6 = s6 at hrel ⊢
    clear ho hz ht
    obtain ⟨j, zs, hj, hs3, hs4, ho, hz, ht⟩ := hrel
    subst hs3; subst hs4
    by_cases hlt2 : j < 3
    · have hzl := hz.out.1
      have hp : i * 3 + j < zs.length := by omega
      obtain ⟨z0, hz0⟩ : ∃ z0, zs[i * 3 + j]? = some z0 := ⟨_, List.getElem?_eq_getElem hp⟩
      have hc := ho.cell (j := i * 3 + j) (u := .int .i64 z0) (by rw [List.getElem?_map, hz0]; rfl)
      clear hz0
      have hf := ho.frozen (i * 3 + j)
      have ho2 := ho.store (i * 3 + j) (.int .i64 (k + (i * 3 + j : Nat)))
      rw [set_map_int] at ho2
      have ht2 := ht.trans (touch_setCell _ (p := ⟨g, i * 3 + j, none⟩) (.int .i64 (k + (i * 3 + j : Nat))) ⟨hg1, hg3⟩)
      have hz2 : Hid ((zs.set (i * 3 + j) (k + (i * 3 + j : Nat))).length = n * 3 ∧ (zs.set (i * 3 + j) (k + (i * 3 + j : Nat))).take (i * 3 + (j + 1)) = upFrom k (i * 3 + (j + 1))) := hide ⟨by simpa using hzl, by
        rw [show i * 3 + (j + 1) = (i * 3 + j) + 1 by omega, take_set_succ _ _ _ hp, hz.out.2, upFrom_succ]⟩
      have ho2 := hide ho2
      have ht2 := hide ht2
      clear hzl hp ho ht
      have hj3 : (j : Int) < 3 := by omega
      go_wp2
      exact ⟨⟨(by (repeat (first | exact trivial | refine ⟨rfl, ?_⟩))), j + 1, _, by omega, by go_num, by first | rfl | go_num, ho2.out, hz2, ht2.out⟩, (by simp [intOf] <;> omega)⟩
    · obtain rfl : j = 3 := by omega
      have hoh := hide ho
      have hth := hide ht
      clear ho ht
      go_wp2
      exact ⟨⟨(by (repeat (first | exact trivial | refine ⟨rfl, ?_⟩))), i + 1, zs, by omega, by go_num, by first | rfl | (congr 1; omega) | (simp; omega), hoh.out, hide ⟨hz.out.1, by have := hz.out.2; rwa [show (i + 1) * 3 = i * 3 + 3 by omega]⟩, hth.out⟩, (by simp [intOf] <;> omega)⟩
  · obtain rfl : i = n := by omega
    have hall : zs = upFrom k (i * 3) := by
      have h1 := hz.out.2
      rwa [List.take_of_length_le (by rw [hz.out.1]; exact Nat.le_refl _)] at h1
    subst hall
    have hoh := hide ho
    have hth := hide ht
    clear ho ht hz
    go_wp2
    go_ret
    exact ⟨rfl, ⟨hoh.out, hbl, hsm⟩, hth.out⟩
set_option maxRecDepth 100000 in
set_option maxHeartbeats 1600000 in
theorem heldIntA3S_o (A : Option Addr) (n c lo hi : Nat) (k : Int) (w : World) (h : ObT w lo hi A n c (upFrom k (n * 3))) (hk : 0 ≤ k ∧ k ≤ 70368744177664) :
    Calls Try.prog 47 #[.slice A n c, .int .i64 k] w fun e w' => e = .returned (.int .i64 (k + (n * 3 : Nat))) ∧ Ext w w' := by
  have hsm := h.small
  have hT := h.tris
  go_enter Try.func47, Try.ntmps47
  go_wp2_with fail
  refine wp_loopF 28 _ rfl rfl [0, 27] rfl (fun fr wr => ∃ (i : Nat), i ≤ n ∧ (fr 5) = .int .i64 i ∧ (fr 1) = .int .i64 (k + (i * 3 : Nat)) ∧ Ext w wr) (fun fr wr => n - (intOf (fr 5)).toNat) ?_ ?_
  · (exact ⟨0, by omega, rfl, by simp, Ext.refl _⟩)
  intro ks fr wr hkept hrel; (try dsimp only at hrel)
  change Code.wp _ _ _ ⟨#[ks 0, fr 1, fr 2, fr 3, fr 4, fr 5, fr 6, fr 7, fr 8, fr 9, fr 10, fr 11, fr 12, fr 13, fr 14, fr 15, fr 16, fr 17, fr 18, fr 19, fr 20, fr 21, fr 22, fr 23, fr 24, fr 25, fr 26, ks 27], []⟩ wr
  simp only [KeptV, List.getD_cons_zero, List.getD_cons_succ] at hkept; obtain ⟨hk0, hk27, -⟩ := hkept
  generalize ks 0 = k0 at hk0 ⊢; subst hk0
  generalize ks 27 = k27 at hk27 ⊢; subst hk27
  generalize fr 1 = s1 at hrel ⊢
  generalize fr 5 = s5 at hrel ⊢
  obtain ⟨i, hi', hs1, hs2, he⟩ := hrel
  subst hs1; subst hs2
  by_cases hlt : i < n
  · obtain ⟨g, rfl, hc⟩ := hT.reads (by omega)
    go_wp2_with fail
    refine wp_loopF 28 _ rfl rfl [0, 5, 7, 8, 9, 10, 11, 12, 27] rfl (fun fr wr => ∃ (j : Nat), j ≤ 3 ∧ (fr 6) = .int .i64 j ∧ (fr 1) = .int .i64 (k + (i * 3 + j : Nat)) ∧ Ext w wr) (fun fr wr => 3 - (intOf (fr 6)).toNat) ?_ ?_
    · (exact ⟨0, by omega, rfl, by go_num, he⟩)
    intro ks fr wr hkept hrel; (try dsimp only at hrel)
    change Code.wp _ _ _ ⟨#[ks 0, fr 1, fr 2, fr 3, fr 4, ks 5, fr 6, ks 7, ks 8, ks 9, ks 10, ks 11, ks 12, fr 13, fr 14, fr 15, fr 16, fr 17, fr 18, fr 19, fr 20, fr 21, fr 22, fr 23, fr 24, fr 25, fr 26, ks 27], []⟩ wr
    simp only [KeptV, List.getD_cons_zero, List.getD_cons_succ] at hkept; obtain ⟨hk0, hk5, hk7, hk8, hk9, hk10, hk11, hk12, hk27, -⟩ := hkept
    generalize ks 0 = k0 at hk0 ⊢; subst hk0
    generalize ks 5 = k5 at hk5 ⊢; subst hk5
    generalize ks 7 = k7 at hk7 ⊢; subst hk7
    generalize ks 8 = k8 at hk8 ⊢; subst hk8
    generalize ks 9 = k9 at hk9 ⊢; subst hk9
    generalize ks 10 = k10 at hk10 ⊢; subst hk10
    generalize ks 11 = k11 at hk11 ⊢; subst hk11
    generalize ks 12 = k12 at hk12 ⊢; subst hk12
    generalize ks 27 = k27 at hk27 ⊢; subst hk27
    generalize fr 1 = s1 at hrel ⊢
    generalize fr 6 = s6 at hrel ⊢
    clear he
    obtain ⟨j, hj, hs3, hs4, he⟩ := hrel
    subst hs3; subst hs4
    have heh := hide he
    by_cases hlt2 : j < 3
    · have hcj := he.cell (hc (i * 3 + j) (k + (i * 3 + j : Nat)) (upFrom_get (by omega)))
      have hj3 : (j : Int) < 3 := by omega
      have hne : ((k + (i * 3 + j : Nat)) == (k + (i * 3 + j : Nat))) = true := by simp
      clear he
      go_wp2
      exact ⟨⟨(by (repeat (first | exact trivial | refine ⟨rfl, ?_⟩))), j + 1, by omega, by go_num, by first | rfl | go_num, heh.out⟩, (by simp [intOf] <;> omega)⟩
    · obtain rfl : j = 3 := by omega
      clear he
      go_wp2
      exact ⟨⟨(by (repeat (first | exact trivial | refine ⟨rfl, ?_⟩))), i + 1, by omega, by go_num, by first | rfl | (congr 1; omega) | (simp; omega), heh.out⟩, (by simp [intOf] <;> omega)⟩
  · obtain rfl : i = n := by omega
    have heh := hide he
    clear he
    go_wp2
    go_ret
    exact ⟨rfl, heh.out⟩
theorem ObT.touch {w w' : World} {lo hi l r : Nat} {A : Option Addr} {n c : Nat} {ys : List Int} (h : ObT w lo hi A n c ys) (t : Touch l r w w') (hd : r ≤ lo ∨ hi ≤ l) : ObT w' lo hi A n c ys := by
  refine ⟨?_, h.below, h.small⟩
  rcases hd with hd | hd
  · exact h.own.touch t hd
  · exact h.own.touch_below t (fun k hk => by have := h.below k hk; omega)
end Go.Proofs.Ytmpfhibncnamnaa
