/-
  Pebbling: the program's move; the reference's play.
-/
import Derived.Test.YtialpmmdomhobaaD5
namespace Go.Proofs.Ytialpmmdomhobaa
set_option linter.unusedSimpArgs false
set_option linter.unusedVariables false
open Go.RowKit

set_option maxHeartbeats 3200000 in
theorem dmoved_c (xss : List (List Int)) (hd : dagOk xss = true) (rev : Bool) (s : Nat) (k nd : Int) (A : Option Addr) (n d : Nat) (w : World) (h : Intss w A n xss) (hs : s < 1024) :
    Calls Try.prog 38 #[.agg #[.slice A n d], .int .u64 (s : Nat), .agg #[.int .i64 k, .int .i64 nd], .bool rev] w fun e w' => e = .returned (.tuple #[.int .u64 ((moveP xss rev s (k, nd)).getD s : Nat), .bool (moveP xss rev s (k, nd)).isSome]) ∧ Ext w w' := by
  have hn10 : n ≤ 10 := by have := dagOk_len hd; have := h.len; omega
  have hl := hide h.len
  cases hw : within nd 0 ((n : Int) - 1)
  · have hr : moveP xss rev s (k, nd) = none := by unfold moveP; rw [← hl.out, hw]; rfl
    rw [hr]
    clear hr
    go_enter Try.func38, Try.ntmps38
    go_wp2_with (go_at_call 37; refine (within_c _ _ _ _).mono ?_; rintro e w' ⟨rfl, rfl⟩)
    go_ret2
    exact ⟨rfl, by (repeat (first | with_reducible exact Ext.refl _ | with_reducible assumption | ((with_reducible refine Ext.setCell ?_ ?_ _); rotate_left; focus (first | omega | (simp <;> omega))) | with_reducible refine Ext.alloc ?_ _ | with_reducible refine Ext.drewN ?_ _ | with_reducible refine Ext.drew ?_ | with_reducible refine Ext.trans ?_ (by with_reducible assumption)))⟩
  have hw2 := within_true hw
  obtain ⟨x, rfl⟩ := int_nat hw2.1
  have hx9 : x ≤ 9 := by omega
  have hxn : x < n := by omega
  have hps := pow_small10 hx9
  obtain ⟨ad, c, B, m, y, hA, hxc, hcell, hin⟩ := h.at_ hxn
  subst hA
  have hpc : Hid (prd xss x = c) := hide (by unfold prd; rw [getD_of hxc])
  have hpr : Hid (∀ p ∈ c, 0 ≤ p ∧ p ≤ 9) := hide (by have := dag_good hd x; rw [hpc.out] at this; intro p hp; have := this p hp; omega)
  have hm100 := hin.bound
  have ha0 := and_u64_pow hs hx9
  have ha1 := bne_of ha0
  have hwr := pow_u64 hx9
  have hm0 : moveP xss rev s (k, (x : Int)) = if k = 1 then (if !s.testBit x && fedB xss s x then some (s ||| 2 ^ x) else none) else if k = 2 then (if s.testBit x && (!rev || fedB xss s x) then some (s - 2 ^ x) else none) else none := by
    unfold moveP; rw [← hl.out, hw]; simp
  have hb1024 : bitsOf c < 1024 := by
    refine Nat.lt_pow_two_of_testBit (n := 10) _ (fun i hi => ?_)
    rw [bitsOf_bit]
    rw [List.any_eq_false]
    intro p hp
    have := hpr.out p hp
    simp; omega
  have hfu : (bits .and .u64 (s : Int) (bitsOf c : Nat) == ((bitsOf c : Nat) : Int)) = fedB xss s x := by have := fed_u64 (xss := xss) (x := x) hs (by rw [hpc.out]; exact hb1024); rwa [hpc.out] at this
  rw [hm0]
  clear hm0 hd
  obtain ⟨fd, hfd⟩ : ∃ fd, fedB xss s x = fd := ⟨_, rfl⟩
  rw [hfd] at hfu ⊢
  clear hfd
  have hNo := hide (fun W (kk : Ints W B m c) => nodesOf_c B m y c W kk hpr.out)
  obtain ⟨pb, hpb⟩ : ∃ pb, bitsOf c = pb := ⟨_, rfl⟩
  rw [hpb] at hNo hfu hb1024
  clear hpb
  have hcE := fun W (E : Ext w W) => E.cell hcell
  have HCE := hide hcE
  clear hcE hcell
  have hcell1 := fun o o' => HCE.out ((w.alloc o).alloc o') (((Ext.refl w).alloc o).alloc o')
  by_cases h1 : k = 1
  · subst h1
    simp only [if_true]
    cases hb : s.testBit x
    · rw [hb] at ha0 ha1
      simp only [Bool.not_false, Bool.not_true] at ha0 ha1
      have hor : bits .or .u64 (s : Int) ((2 : Int) ^ x) = ((s ||| 2 ^ x : Nat) : Int) := by rw [← powc]; exact or_u64 s _ (by omega) (by omega)
      obtain ⟨t, ht⟩ : ∃ t : Nat, s ||| 2 ^ x = t := ⟨_, rfl⟩
      rw [ht] at hor ⊢
      clear ht hb
      cases fd
      · go_enter Try.func38, Try.ntmps38
        go_wp2_with (first | (go_at_call 37; refine (within_c _ _ _ _).mono ?_; rintro e w' ⟨rfl, rfl⟩) | (go_at_call 40; refine (hNo.out _ (hin.ext (by (repeat (first | with_reducible exact Ext.refl _ | with_reducible assumption | ((with_reducible refine Ext.setCell ?_ ?_ _); rotate_left; focus (first | omega | (simp <;> omega))) | with_reducible refine Ext.alloc ?_ _ | with_reducible refine Ext.drewN ?_ _ | with_reducible refine Ext.drew ?_ | with_reducible refine Ext.trans ?_ (by with_reducible assumption)))))).mono ?_; rintro e w1 ⟨rfl, hpb, he1⟩; have bc0 := he1.cell (p := ⟨w.heap.size, 0, none⟩) (u := .slice (some ad) n d) (by first | simp [go_sem] | simp [go_sem, *]); have bf0 := he1.frozen (p := ⟨w.heap.size, 0, none⟩) (by first | omega | (simp <;> omega)) (by first | simp [go_sem] | simp [go_sem, *]); have bc1 := he1.cell (p := ⟨w.heap.size + 1, 0, none⟩) (u := .int .i64 1) (by first | simp [go_sem] | simp [go_sem, *]); have bf1 := he1.frozen (p := ⟨w.heap.size + 1, 0, none⟩) (by first | omega | (simp <;> omega)) (by first | simp [go_sem] | simp [go_sem, *]); have bc2 := he1.cell (p := ⟨w.heap.size + 1, 1, none⟩) (u := .int .i64 (x : Int)) (by first | simp [go_sem] | simp [go_sem, *]); have bf2 := he1.frozen (p := ⟨w.heap.size + 1, 1, none⟩) (by first | omega | (simp <;> omega)) (by first | simp [go_sem] | simp [go_sem, *])))
        go_ret2
        exact ⟨rfl, by (repeat (first | with_reducible exact Ext.refl _ | with_reducible assumption | ((with_reducible refine Ext.setCell ?_ ?_ _); rotate_left; focus (first | omega | (simp <;> omega))) | with_reducible refine Ext.alloc ?_ _ | with_reducible refine Ext.drewN ?_ _ | with_reducible refine Ext.drew ?_ | with_reducible refine Ext.trans ?_ (by with_reducible assumption)))⟩
      · skip
        go_enter Try.func38, Try.ntmps38
        go_wp2_with (first | (go_at_call 37; refine (within_c _ _ _ _).mono ?_; rintro e w' ⟨rfl, rfl⟩) | (go_at_call 40; refine (hNo.out _ (hin.ext (by (repeat (first | with_reducible exact Ext.refl _ | with_reducible assumption | ((with_reducible refine Ext.setCell ?_ ?_ _); rotate_left; focus (first | omega | (simp <;> omega))) | with_reducible refine Ext.alloc ?_ _ | with_reducible refine Ext.drewN ?_ _ | with_reducible refine Ext.drew ?_ | with_reducible refine Ext.trans ?_ (by with_reducible assumption)))))).mono ?_; rintro e w1 ⟨rfl, hpb, he1⟩; have bc3 := he1.cell (p := ⟨w.heap.size, 0, none⟩) (u := .slice (some ad) n d) (by first | simp [go_sem] | simp [go_sem, *]); have bf3 := he1.frozen (p := ⟨w.heap.size, 0, none⟩) (by first | omega | (simp <;> omega)) (by first | simp [go_sem] | simp [go_sem, *]); have bc4 := he1.cell (p := ⟨w.heap.size + 1, 0, none⟩) (u := .int .i64 1) (by first | simp [go_sem] | simp [go_sem, *]); have bf4 := he1.frozen (p := ⟨w.heap.size + 1, 0, none⟩) (by first | omega | (simp <;> omega)) (by first | simp [go_sem] | simp [go_sem, *]); have bc5 := he1.cell (p := ⟨w.heap.size + 1, 1, none⟩) (u := .int .i64 (x : Int)) (by first | simp [go_sem] | simp [go_sem, *]); have bf5 := he1.frozen (p := ⟨w.heap.size + 1, 1, none⟩) (by first | omega | (simp <;> omega)) (by first | simp [go_sem] | simp [go_sem, *])))
        go_ret2
        exact ⟨rfl, by (repeat (first | with_reducible exact Ext.refl _ | with_reducible assumption | ((with_reducible refine Ext.setCell ?_ ?_ _); rotate_left; focus (first | omega | (simp <;> omega))) | with_reducible refine Ext.alloc ?_ _ | with_reducible refine Ext.drewN ?_ _ | with_reducible refine Ext.drew ?_ | with_reducible refine Ext.trans ?_ (by with_reducible assumption)))⟩
    · rw [hb] at ha0 ha1
      simp only [Bool.not_false, Bool.not_true] at ha0 ha1
      clear hb
      cases fd
      · skip
        go_enter Try.func38, Try.ntmps38
        go_wp2_with (first | (go_at_call 37; refine (within_c _ _ _ _).mono ?_; rintro e w' ⟨rfl, rfl⟩) | (go_at_call 40; refine (hNo.out _ (hin.ext (by (repeat (first | with_reducible exact Ext.refl _ | with_reducible assumption | ((with_reducible refine Ext.setCell ?_ ?_ _); rotate_left; focus (first | omega | (simp <;> omega))) | with_reducible refine Ext.alloc ?_ _ | with_reducible refine Ext.drewN ?_ _ | with_reducible refine Ext.drew ?_ | with_reducible refine Ext.trans ?_ (by with_reducible assumption)))))).mono ?_; rintro e w1 ⟨rfl, hpb, he1⟩; have bc6 := he1.cell (p := ⟨w.heap.size, 0, none⟩) (u := .slice (some ad) n d) (by first | simp [go_sem] | simp [go_sem, *]); have bf6 := he1.frozen (p := ⟨w.heap.size, 0, none⟩) (by first | omega | (simp <;> omega)) (by first | simp [go_sem] | simp [go_sem, *]); have bc7 := he1.cell (p := ⟨w.heap.size + 1, 0, none⟩) (u := .int .i64 1) (by first | simp [go_sem] | simp [go_sem, *]); have bf7 := he1.frozen (p := ⟨w.heap.size + 1, 0, none⟩) (by first | omega | (simp <;> omega)) (by first | simp [go_sem] | simp [go_sem, *]); have bc8 := he1.cell (p := ⟨w.heap.size + 1, 1, none⟩) (u := .int .i64 (x : Int)) (by first | simp [go_sem] | simp [go_sem, *]); have bf8 := he1.frozen (p := ⟨w.heap.size + 1, 1, none⟩) (by first | omega | (simp <;> omega)) (by first | simp [go_sem] | simp [go_sem, *])))
        go_ret2
        exact ⟨rfl, by (repeat (first | with_reducible exact Ext.refl _ | with_reducible assumption | ((with_reducible refine Ext.setCell ?_ ?_ _); rotate_left; focus (first | omega | (simp <;> omega))) | with_reducible refine Ext.alloc ?_ _ | with_reducible refine Ext.drewN ?_ _ | with_reducible refine Ext.drew ?_ | with_reducible refine Ext.trans ?_ (by with_reducible assumption)))⟩
      · skip
        go_enter Try.func38, Try.ntmps38
        go_wp2_with (first | (go_at_call 37; refine (within_c _ _ _ _).mono ?_; rintro e w' ⟨rfl, rfl⟩) | (go_at_call 40; refine (hNo.out _ (hin.ext (by (repeat (first | with_reducible exact Ext.refl _ | with_reducible assumption | ((with_reducible refine Ext.setCell ?_ ?_ _); rotate_left; focus (first | omega | (simp <;> omega))) | with_reducible refine Ext.alloc ?_ _ | with_reducible refine Ext.drewN ?_ _ | with_reducible refine Ext.drew ?_ | with_reducible refine Ext.trans ?_ (by with_reducible assumption)))))).mono ?_; rintro e w1 ⟨rfl, hpb, he1⟩; have bc9 := he1.cell (p := ⟨w.heap.size, 0, none⟩) (u := .slice (some ad) n d) (by first | simp [go_sem] | simp [go_sem, *]); have bf9 := he1.frozen (p := ⟨w.heap.size, 0, none⟩) (by first | omega | (simp <;> omega)) (by first | simp [go_sem] | simp [go_sem, *]); have bc10 := he1.cell (p := ⟨w.heap.size + 1, 0, none⟩) (u := .int .i64 1) (by first | simp [go_sem] | simp [go_sem, *]); have bf10 := he1.frozen (p := ⟨w.heap.size + 1, 0, none⟩) (by first | omega | (simp <;> omega)) (by first | simp [go_sem] | simp [go_sem, *]); have bc11 := he1.cell (p := ⟨w.heap.size + 1, 1, none⟩) (u := .int .i64 (x : Int)) (by first | simp [go_sem] | simp [go_sem, *]); have bf11 := he1.frozen (p := ⟨w.heap.size + 1, 1, none⟩) (by first | omega | (simp <;> omega)) (by first | simp [go_sem] | simp [go_sem, *])))
        go_ret2
        exact ⟨rfl, by (repeat (first | with_reducible exact Ext.refl _ | with_reducible assumption | ((with_reducible refine Ext.setCell ?_ ?_ _); rotate_left; focus (first | omega | (simp <;> omega))) | with_reducible refine Ext.alloc ?_ _ | with_reducible refine Ext.drewN ?_ _ | with_reducible refine Ext.drew ?_ | with_reducible refine Ext.trans ?_ (by with_reducible assumption)))⟩
  have hk1 : (k == 1) = false := by simpa using h1
  rw [if_neg h1]
  by_cases h2 : k = 2
  · subst h2
    simp only [if_true]
    clear h1
    cases hb : s.testBit x
    · rw [hb] at ha0 ha1
      simp only [Bool.not_false, Bool.not_true] at ha0 ha1
      clear hb
      cases fd
      · skip
        go_enter Try.func38, Try.ntmps38
        go_wp2_with (first | (go_at_call 37; refine (within_c _ _ _ _).mono ?_; rintro e w' ⟨rfl, rfl⟩) | (go_at_call 40; refine (hNo.out _ (hin.ext (by (repeat (first | with_reducible exact Ext.refl _ | with_reducible assumption | ((with_reducible refine Ext.setCell ?_ ?_ _); rotate_left; focus (first | omega | (simp <;> omega))) | with_reducible refine Ext.alloc ?_ _ | with_reducible refine Ext.drewN ?_ _ | with_reducible refine Ext.drew ?_ | with_reducible refine Ext.trans ?_ (by with_reducible assumption)))))).mono ?_; rintro e w1 ⟨rfl, hpb, he1⟩; have bc12 := he1.cell (p := ⟨w.heap.size, 0, none⟩) (u := .slice (some ad) n d) (by first | simp [go_sem] | simp [go_sem, *]); have bf12 := he1.frozen (p := ⟨w.heap.size, 0, none⟩) (by first | omega | (simp <;> omega)) (by first | simp [go_sem] | simp [go_sem, *]); have bc13 := he1.cell (p := ⟨w.heap.size + 1, 0, none⟩) (u := .int .i64 2) (by first | simp [go_sem] | simp [go_sem, *]); have bf13 := he1.frozen (p := ⟨w.heap.size + 1, 0, none⟩) (by first | omega | (simp <;> omega)) (by first | simp [go_sem] | simp [go_sem, *]); have bc14 := he1.cell (p := ⟨w.heap.size + 1, 1, none⟩) (u := .int .i64 (x : Int)) (by first | simp [go_sem] | simp [go_sem, *]); have bf14 := he1.frozen (p := ⟨w.heap.size + 1, 1, none⟩) (by first | omega | (simp <;> omega)) (by first | simp [go_sem] | simp [go_sem, *])))
        go_ret2
        exact ⟨rfl, by (repeat (first | with_reducible exact Ext.refl _ | with_reducible assumption | ((with_reducible refine Ext.setCell ?_ ?_ _); rotate_left; focus (first | omega | (simp <;> omega))) | with_reducible refine Ext.alloc ?_ _ | with_reducible refine Ext.drewN ?_ _ | with_reducible refine Ext.drew ?_ | with_reducible refine Ext.trans ?_ (by with_reducible assumption)))⟩
      · skip
        go_enter Try.func38, Try.ntmps38
        go_wp2_with (first | (go_at_call 37; refine (within_c _ _ _ _).mono ?_; rintro e w' ⟨rfl, rfl⟩) | (go_at_call 40; refine (hNo.out _ (hin.ext (by (repeat (first | with_reducible exact Ext.refl _ | with_reducible assumption | ((with_reducible refine Ext.setCell ?_ ?_ _); rotate_left; focus (first | omega | (simp <;> omega))) | with_reducible refine Ext.alloc ?_ _ | with_reducible refine Ext.drewN ?_ _ | with_reducible refine Ext.drew ?_ | with_reducible refine Ext.trans ?_ (by with_reducible assumption)))))).mono ?_; rintro e w1 ⟨rfl, hpb, he1⟩; have bc15 := he1.cell (p := ⟨w.heap.size, 0, none⟩) (u := .slice (some ad) n d) (by first | simp [go_sem] | simp [go_sem, *]); have bf15 := he1.frozen (p := ⟨w.heap.size, 0, none⟩) (by first | omega | (simp <;> omega)) (by first | simp [go_sem] | simp [go_sem, *]); have bc16 := he1.cell (p := ⟨w.heap.size + 1, 0, none⟩) (u := .int .i64 2) (by first | simp [go_sem] | simp [go_sem, *]); have bf16 := he1.frozen (p := ⟨w.heap.size + 1, 0, none⟩) (by first | omega | (simp <;> omega)) (by first | simp [go_sem] | simp [go_sem, *]); have bc17 := he1.cell (p := ⟨w.heap.size + 1, 1, none⟩) (u := .int .i64 (x : Int)) (by first | simp [go_sem] | simp [go_sem, *]); have bf17 := he1.frozen (p := ⟨w.heap.size + 1, 1, none⟩) (by first | omega | (simp <;> omega)) (by first | simp [go_sem] | simp [go_sem, *])))
        go_ret2
        exact ⟨rfl, by (repeat (first | with_reducible exact Ext.refl _ | with_reducible assumption | ((with_reducible refine Ext.setCell ?_ ?_ _); rotate_left; focus (first | omega | (simp <;> omega))) | with_reducible refine Ext.alloc ?_ _ | with_reducible refine Ext.drewN ?_ _ | with_reducible refine Ext.drew ?_ | with_reducible refine Ext.trans ?_ (by with_reducible assumption)))⟩
    · have han := andNot_u64 hs hx9 hb
      obtain ⟨t, ht⟩ : ∃ t : Nat, s - 2 ^ x = t := ⟨_, rfl⟩
      rw [ht] at han ⊢
      rw [hb] at ha0 ha1
      simp only [Bool.not_false, Bool.not_true] at ha0 ha1
      clear hb ht
      cases rev
      · cases fd
        · skip
          go_enter Try.func38, Try.ntmps38
          go_wp2_with (first | (go_at_call 37; refine (within_c _ _ _ _).mono ?_; rintro e w' ⟨rfl, rfl⟩) | (go_at_call 40; refine (hNo.out _ (hin.ext (by (repeat (first | with_reducible exact Ext.refl _ | with_reducible assumption | ((with_reducible refine Ext.setCell ?_ ?_ _); rotate_left; focus (first | omega | (simp <;> omega))) | with_reducible refine Ext.alloc ?_ _ | with_reducible refine Ext.drewN ?_ _ | with_reducible refine Ext.drew ?_ | with_reducible refine Ext.trans ?_ (by with_reducible assumption)))))).mono ?_; rintro e w1 ⟨rfl, hpb, he1⟩; have bc18 := he1.cell (p := ⟨w.heap.size, 0, none⟩) (u := .slice (some ad) n d) (by first | simp [go_sem] | simp [go_sem, *]); have bf18 := he1.frozen (p := ⟨w.heap.size, 0, none⟩) (by first | omega | (simp <;> omega)) (by first | simp [go_sem] | simp [go_sem, *]); have bc19 := he1.cell (p := ⟨w.heap.size + 1, 0, none⟩) (u := .int .i64 2) (by first | simp [go_sem] | simp [go_sem, *]); have bf19 := he1.frozen (p := ⟨w.heap.size + 1, 0, none⟩) (by first | omega | (simp <;> omega)) (by first | simp [go_sem] | simp [go_sem, *]); have bc20 := he1.cell (p := ⟨w.heap.size + 1, 1, none⟩) (u := .int .i64 (x : Int)) (by first | simp [go_sem] | simp [go_sem, *]); have bf20 := he1.frozen (p := ⟨w.heap.size + 1, 1, none⟩) (by first | omega | (simp <;> omega)) (by first | simp [go_sem] | simp [go_sem, *])))
          go_ret2
          exact ⟨rfl, by (repeat (first | with_reducible exact Ext.refl _ | with_reducible assumption | ((with_reducible refine Ext.setCell ?_ ?_ _); rotate_left; focus (first | omega | (simp <;> omega))) | with_reducible refine Ext.alloc ?_ _ | with_reducible refine Ext.drewN ?_ _ | with_reducible refine Ext.drew ?_ | with_reducible refine Ext.trans ?_ (by with_reducible assumption)))⟩
        · skip
          go_enter Try.func38, Try.ntmps38
          go_wp2_with (first | (go_at_call 37; refine (within_c _ _ _ _).mono ?_; rintro e w' ⟨rfl, rfl⟩) | (go_at_call 40; refine (hNo.out _ (hin.ext (by (repeat (first | with_reducible exact Ext.refl _ | with_reducible assumption | ((with_reducible refine Ext.setCell ?_ ?_ _); rotate_left; focus (first | omega | (simp <;> omega))) | with_reducible refine Ext.alloc ?_ _ | with_reducible refine Ext.drewN ?_ _ | with_reducible refine Ext.drew ?_ | with_reducible refine Ext.trans ?_ (by with_reducible assumption)))))).mono ?_; rintro e w1 ⟨rfl, hpb, he1⟩; have bc21 := he1.cell (p := ⟨w.heap.size, 0, none⟩) (u := .slice (some ad) n d) (by first | simp [go_sem] | simp [go_sem, *]); have bf21 := he1.frozen (p := ⟨w.heap.size, 0, none⟩) (by first | omega | (simp <;> omega)) (by first | simp [go_sem] | simp [go_sem, *]); have bc22 := he1.cell (p := ⟨w.heap.size + 1, 0, none⟩) (u := .int .i64 2) (by first | simp [go_sem] | simp [go_sem, *]); have bf22 := he1.frozen (p := ⟨w.heap.size + 1, 0, none⟩) (by first | omega | (simp <;> omega)) (by first | simp [go_sem] | simp [go_sem, *]); have bc23 := he1.cell (p := ⟨w.heap.size + 1, 1, none⟩) (u := .int .i64 (x : Int)) (by first | simp [go_sem] | simp [go_sem, *]); have bf23 := he1.frozen (p := ⟨w.heap.size + 1, 1, none⟩) (by first | omega | (simp <;> omega)) (by first | simp [go_sem] | simp [go_sem, *])))
          go_ret2
          exact ⟨rfl, by (repeat (first | with_reducible exact Ext.refl _ | with_reducible assumption | ((with_reducible refine Ext.setCell ?_ ?_ _); rotate_left; focus (first | omega | (simp <;> omega))) | with_reducible refine Ext.alloc ?_ _ | with_reducible refine Ext.drewN ?_ _ | with_reducible refine Ext.drew ?_ | with_reducible refine Ext.trans ?_ (by with_reducible assumption)))⟩
      · cases fd
        · skip
          go_enter Try.func38, Try.ntmps38
          go_wp2_with (first | (go_at_call 37; refine (within_c _ _ _ _).mono ?_; rintro e w' ⟨rfl, rfl⟩) | (go_at_call 40; refine (hNo.out _ (hin.ext (by (repeat (first | with_reducible exact Ext.refl _ | with_reducible assumption | ((with_reducible refine Ext.setCell ?_ ?_ _); rotate_left; focus (first | omega | (simp <;> omega))) | with_reducible refine Ext.alloc ?_ _ | with_reducible refine Ext.drewN ?_ _ | with_reducible refine Ext.drew ?_ | with_reducible refine Ext.trans ?_ (by with_reducible assumption)))))).mono ?_; rintro e w1 ⟨rfl, hpb, he1⟩; have bc24 := he1.cell (p := ⟨w.heap.size, 0, none⟩) (u := .slice (some ad) n d) (by first | simp [go_sem] | simp [go_sem, *]); have bf24 := he1.frozen (p := ⟨w.heap.size, 0, none⟩) (by first | omega | (simp <;> omega)) (by first | simp [go_sem] | simp [go_sem, *]); have bc25 := he1.cell (p := ⟨w.heap.size + 1, 0, none⟩) (u := .int .i64 2) (by first | simp [go_sem] | simp [go_sem, *]); have bf25 := he1.frozen (p := ⟨w.heap.size + 1, 0, none⟩) (by first | omega | (simp <;> omega)) (by first | simp [go_sem] | simp [go_sem, *]); have bc26 := he1.cell (p := ⟨w.heap.size + 1, 1, none⟩) (u := .int .i64 (x : Int)) (by first | simp [go_sem] | simp [go_sem, *]); have bf26 := he1.frozen (p := ⟨w.heap.size + 1, 1, none⟩) (by first | omega | (simp <;> omega)) (by first | simp [go_sem] | simp [go_sem, *])))
          go_ret2
          exact ⟨rfl, by (repeat (first | with_reducible exact Ext.refl _ | with_reducible assumption | ((with_reducible refine Ext.setCell ?_ ?_ _); rotate_left; focus (first | omega | (simp <;> omega))) | with_reducible refine Ext.alloc ?_ _ | with_reducible refine Ext.drewN ?_ _ | with_reducible refine Ext.drew ?_ | with_reducible refine Ext.trans ?_ (by with_reducible assumption)))⟩
        · skip
          go_enter Try.func38, Try.ntmps38
          go_wp2_with (first | (go_at_call 37; refine (within_c _ _ _ _).mono ?_; rintro e w' ⟨rfl, rfl⟩) | (go_at_call 40; refine (hNo.out _ (hin.ext (by (repeat (first | with_reducible exact Ext.refl _ | with_reducible assumption | ((with_reducible refine Ext.setCell ?_ ?_ _); rotate_left; focus (first | omega | (simp <;> omega))) | with_reducible refine Ext.alloc ?_ _ | with_reducible refine Ext.drewN ?_ _ | with_reducible refine Ext.drew ?_ | with_reducible refine Ext.trans ?_ (by with_reducible assumption)))))).mono ?_; rintro e w1 ⟨rfl, hpb, he1⟩; have bc27 := he1.cell (p := ⟨w.heap.size, 0, none⟩) (u := .slice (some ad) n d) (by first | simp [go_sem] | simp [go_sem, *]); have bf27 := he1.frozen (p := ⟨w.heap.size, 0, none⟩) (by first | omega | (simp <;> omega)) (by first | simp [go_sem] | simp [go_sem, *]); have bc28 := he1.cell (p := ⟨w.heap.size + 1, 0, none⟩) (u := .int .i64 2) (by first | simp [go_sem] | simp [go_sem, *]); have bf28 := he1.frozen (p := ⟨w.heap.size + 1, 0, none⟩) (by first | omega | (simp <;> omega)) (by first | simp [go_sem] | simp [go_sem, *]); have bc29 := he1.cell (p := ⟨w.heap.size + 1, 1, none⟩) (u := .int .i64 (x : Int)) (by first | simp [go_sem] | simp [go_sem, *]); have bf29 := he1.frozen (p := ⟨w.heap.size + 1, 1, none⟩) (by first | omega | (simp <;> omega)) (by first | simp [go_sem] | simp [go_sem, *])))
          go_ret2
          exact ⟨rfl, by (repeat (first | with_reducible exact Ext.refl _ | with_reducible assumption | ((with_reducible refine Ext.setCell ?_ ?_ _); rotate_left; focus (first | omega | (simp <;> omega))) | with_reducible refine Ext.alloc ?_ _ | with_reducible refine Ext.drewN ?_ _ | with_reducible refine Ext.drew ?_ | with_reducible refine Ext.trans ?_ (by with_reducible assumption)))⟩
  · have hk2 : (k == 2) = false := by simpa using h2
    rw [if_neg h2]
    clear h1 h2
    cases fd
    · skip
      go_enter Try.func38, Try.ntmps38
      go_wp2_with (first | (go_at_call 37; refine (within_c _ _ _ _).mono ?_; rintro e w' ⟨rfl, rfl⟩) | (go_at_call 40; refine (hNo.out _ (hin.ext (by (repeat (first | with_reducible exact Ext.refl _ | with_reducible assumption | ((with_reducible refine Ext.setCell ?_ ?_ _); rotate_left; focus (first | omega | (simp <;> omega))) | with_reducible refine Ext.alloc ?_ _ | with_reducible refine Ext.drewN ?_ _ | with_reducible refine Ext.drew ?_ | with_reducible refine Ext.trans ?_ (by with_reducible assumption)))))).mono ?_; rintro e w1 ⟨rfl, hpb, he1⟩; have bc30 := he1.cell (p := ⟨w.heap.size, 0, none⟩) (u := .slice (some ad) n d) (by first | simp [go_sem] | simp [go_sem, *]); have bf30 := he1.frozen (p := ⟨w.heap.size, 0, none⟩) (by first | omega | (simp <;> omega)) (by first | simp [go_sem] | simp [go_sem, *]); have bc31 := he1.cell (p := ⟨w.heap.size + 1, 0, none⟩) (u := .int .i64 k) (by first | simp [go_sem] | simp [go_sem, *]); have bf31 := he1.frozen (p := ⟨w.heap.size + 1, 0, none⟩) (by first | omega | (simp <;> omega)) (by first | simp [go_sem] | simp [go_sem, *]); have bc32 := he1.cell (p := ⟨w.heap.size + 1, 1, none⟩) (u := .int .i64 (x : Int)) (by first | simp [go_sem] | simp [go_sem, *]); have bf32 := he1.frozen (p := ⟨w.heap.size + 1, 1, none⟩) (by first | omega | (simp <;> omega)) (by first | simp [go_sem] | simp [go_sem, *])))
      go_ret2
      exact ⟨rfl, by (repeat (first | with_reducible exact Ext.refl _ | with_reducible assumption | ((with_reducible refine Ext.setCell ?_ ?_ _); rotate_left; focus (first | omega | (simp <;> omega))) | with_reducible refine Ext.alloc ?_ _ | with_reducible refine Ext.drewN ?_ _ | with_reducible refine Ext.drew ?_ | with_reducible refine Ext.trans ?_ (by with_reducible assumption)))⟩
    · skip
      go_enter Try.func38, Try.ntmps38
      go_wp2_with (first | (go_at_call 37; refine (within_c _ _ _ _).mono ?_; rintro e w' ⟨rfl, rfl⟩) | (go_at_call 40; refine (hNo.out _ (hin.ext (by (repeat (first | with_reducible exact Ext.refl _ | with_reducible assumption | ((with_reducible refine Ext.setCell ?_ ?_ _); rotate_left; focus (first | omega | (simp <;> omega))) | with_reducible refine Ext.alloc ?_ _ | with_reducible refine Ext.drewN ?_ _ | with_reducible refine Ext.drew ?_ | with_reducible refine Ext.trans ?_ (by with_reducible assumption)))))).mono ?_; rintro e w1 ⟨rfl, hpb, he1⟩; have bc33 := he1.cell (p := ⟨w.heap.size, 0, none⟩) (u := .slice (some ad) n d) (by first | simp [go_sem] | simp [go_sem, *]); have bf33 := he1.frozen (p := ⟨w.heap.size, 0, none⟩) (by first | omega | (simp <;> omega)) (by first | simp [go_sem] | simp [go_sem, *]); have bc34 := he1.cell (p := ⟨w.heap.size + 1, 0, none⟩) (u := .int .i64 k) (by first | simp [go_sem] | simp [go_sem, *]); have bf34 := he1.frozen (p := ⟨w.heap.size + 1, 0, none⟩) (by first | omega | (simp <;> omega)) (by first | simp [go_sem] | simp [go_sem, *]); have bc35 := he1.cell (p := ⟨w.heap.size + 1, 1, none⟩) (u := .int .i64 (x : Int)) (by first | simp [go_sem] | simp [go_sem, *]); have bf35 := he1.frozen (p := ⟨w.heap.size + 1, 1, none⟩) (by first | omega | (simp <;> omega)) (by first | simp [go_sem] | simp [go_sem, *])))
      go_ret2
      exact ⟨rfl, by (repeat (first | with_reducible exact Ext.refl _ | with_reducible assumption | ((with_reducible refine Ext.setCell ?_ ?_ _); rotate_left; focus (first | omega | (simp <;> omega))) | with_reducible refine Ext.alloc ?_ _ | with_reducible refine Ext.drewN ?_ _ | with_reducible refine Ext.drew ?_ | with_reducible refine Ext.trans ?_ (by with_reducible assumption)))⟩
end Go.Proofs.Ytialpmmdomhobaa
