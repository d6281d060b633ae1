/-
  PROVED: the walk of the law FnExactPlaneText: it returns true for every input.
-/
import Derived.Test.YtaigjmbhgpcalaaDoorT3
namespace Go.Proofs.YtaigjmbhgpcalaaDoor
set_option linter.unusedSimpArgs false
set_option linter.unusedVariables false
open Go.RowKit
set_option maxHeartbeats 1000000 in
theorem PlaneText_law (v : Int) (Aq : Option Addr) (nq dq : Nat) (bq : Int) (xsq : List Int) (w : World) (hq : Ints w Aq nq xsq) (ht : Tab w) :
    Calls Tryd.prog 3 #[.int .i64 v, .agg #[.slice Aq nq dq, .int .i64 bq]] w fun e w' => e = .returned (.bool true) ∧ Ext w w' := by
  have hbq := hq.bound
  have hs := fun w A n c (h : Ints w A n xsq) => spec_PlaneText_c v bq A n c xsq w h
  have hi := fun w A n c (h : Ints w A n xsq) (t : Tab w) => impl_PlaneText_c v bq A n c xsq w h t
  generalize textP v bq xsq = r1 at hs hi
  generalize ineqOk v bq xsq = r2 at hs hi
  have HS := hide hs
  have HI := hide hi
  have HTb := hide (fun W (E : Ext w W) => ht.ext E)
  clear ht
  clear hs hi
  by_cases hsq : nq ≤ 1048576
  rotate_left
  · skip
    go_enter Tryd.func3, Tryd.ntmps3
    go_wp2_with fail
    refine (szInequality_no _ _ _ _ bq _ hbq (by omega) (by omega)).mono ?_
    rintro e w1 ⟨rfl, he1⟩
    have z1_0 : w.heap.size < w1.heap.size := by have := he1.size; (try simp at this); omega
    have c1_0_0 := he1.cell (p := ⟨w.heap.size, 0, none⟩) (u := .slice Aq nq dq) (by first | assumption | simp [go_sem] | simp [go_sem, *])
    have c1_0_1 := he1.cell (p := ⟨w.heap.size, 1, none⟩) (u := .int .i64 bq) (by first | assumption | simp [go_sem] | simp [go_sem, *])
    go_wp2_with fail
    go_ret
    exact ⟨rfl, by (repeat (first | with_reducible exact Ext.refl _ | with_reducible assumption | ((with_reducible refine Ext.setCell ?_ ?_ _); rotate_left; focus (first | omega | (simp <;> omega))) | with_reducible refine Ext.alloc ?_ _ | with_reducible refine Ext.drewN ?_ _ | with_reducible refine Ext.drew ?_ | with_reducible refine Ext.trans ?_ (by with_reducible assumption)))⟩
  go_enter Tryd.func3, Tryd.ntmps3
  go_wp2_with fail
  refine (szInequality_fit _ _ _ _ bq _ hbq (by omega) (by omega)).mono ?_
  rintro e w1 ⟨rfl, he1⟩
  have z1_0 : w.heap.size < w1.heap.size := by have := he1.size; (try simp at this); omega
  have c1_0_0 := he1.cell (p := ⟨w.heap.size, 0, none⟩) (u := .slice Aq nq dq) (by first | assumption | simp [go_sem] | simp [go_sem, *])
  have c1_0_1 := he1.cell (p := ⟨w.heap.size, 1, none⟩) (u := .int .i64 bq) (by first | assumption | simp [go_sem] | simp [go_sem, *])
  go_wp2_with fail
  refine (toInequality_c _ _ _ bq xsq _ (hq.ext (by (repeat (first | with_reducible exact Ext.refl _ | with_reducible assumption | ((with_reducible refine Ext.setCell ?_ ?_ _); rotate_left; focus (first | omega | (simp <;> omega))) | with_reducible refine Ext.alloc ?_ _ | with_reducible refine Ext.drewN ?_ _ | with_reducible refine Ext.drew ?_ | with_reducible refine Ext.trans ?_ (by with_reducible assumption))))) (by omega)).mono ?_
  rintro e w2 ⟨X2, Y2, rfl, ho2, he2⟩
  have z2_0 : w.heap.size < w2.heap.size := by have := he2.size; (try simp at this); omega
  have c2_0_0 := he2.cell (p := ⟨w.heap.size, 0, none⟩) (u := .slice Aq nq dq) (by first | assumption | simp [go_sem] | simp [go_sem, *])
  have c2_0_1 := he2.cell (p := ⟨w.heap.size, 1, none⟩) (u := .int .i64 bq) (by first | assumption | simp [go_sem] | simp [go_sem, *])
  go_wp2_with fail
  refine (HS.out _ _ _ _ ((ho2.ints (by omega)).ext (by (repeat (first | with_reducible exact Ext.refl _ | with_reducible assumption | ((with_reducible refine Ext.setCell ?_ ?_ _); rotate_left; focus (first | omega | (simp <;> omega))) | with_reducible refine Ext.alloc ?_ _ | with_reducible refine Ext.drewN ?_ _ | with_reducible refine Ext.drew ?_ | with_reducible refine Ext.trans ?_ (by with_reducible assumption)))))).mono ?_
  rintro e w3 ⟨rfl, he3⟩
  have z3_0 : w.heap.size < w3.heap.size := by have := he3.size; (try simp at this); omega
  have c3_0_0 := he3.cell (p := ⟨w.heap.size, 0, none⟩) (u := .slice Aq nq dq) (by first | assumption | simp [go_sem] | simp [go_sem, *])
  have c3_0_1 := he3.cell (p := ⟨w.heap.size, 1, none⟩) (u := .int .i64 bq) (by first | assumption | simp [go_sem] | simp [go_sem, *])
  go_wp2_with fail
  refine (toInequality_c _ _ _ bq xsq _ (hq.ext (by (repeat (first | with_reducible exact Ext.refl _ | with_reducible assumption | ((with_reducible refine Ext.setCell ?_ ?_ _); rotate_left; focus (first | omega | (simp <;> omega))) | with_reducible refine Ext.alloc ?_ _ | with_reducible refine Ext.drewN ?_ _ | with_reducible refine Ext.drew ?_ | with_reducible refine Ext.trans ?_ (by with_reducible assumption))))) (by omega)).mono ?_
  rintro e w4 ⟨X4, Y4, rfl, ho4, he4⟩
  have z4_0 : w.heap.size < w4.heap.size := by have := he4.size; (try simp at this); omega
  have c4_0_0 := he4.cell (p := ⟨w.heap.size, 0, none⟩) (u := .slice Aq nq dq) (by first | assumption | simp [go_sem] | simp [go_sem, *])
  have c4_0_1 := he4.cell (p := ⟨w.heap.size, 1, none⟩) (u := .int .i64 bq) (by first | assumption | simp [go_sem] | simp [go_sem, *])
  go_wp2_with fail
  refine (HI.out _ _ _ _ ((ho4.ints (by omega)).ext (by (repeat (first | with_reducible exact Ext.refl _ | with_reducible assumption | ((with_reducible refine Ext.setCell ?_ ?_ _); rotate_left; focus (first | omega | (simp <;> omega))) | with_reducible refine Ext.alloc ?_ _ | with_reducible refine Ext.drewN ?_ _ | with_reducible refine Ext.drew ?_ | with_reducible refine Ext.trans ?_ (by with_reducible assumption))))) (HTb.out _ (by (repeat (first | with_reducible exact Ext.refl _ | with_reducible assumption | ((with_reducible refine Ext.setCell ?_ ?_ _); rotate_left; focus (first | omega | (simp <;> omega))) | with_reducible refine Ext.alloc ?_ _ | with_reducible refine Ext.drewN ?_ _ | with_reducible refine Ext.drew ?_ | with_reducible refine Ext.trans ?_ (by with_reducible assumption)))))).mono ?_
  rintro e w5 ⟨rfl, he5⟩
  have z5_0 : w.heap.size < w5.heap.size := by have := he5.size; (try simp at this); omega
  have c5_0_0 := he5.cell (p := ⟨w.heap.size, 0, none⟩) (u := .slice Aq nq dq) (by first | assumption | simp [go_sem] | simp [go_sem, *])
  have c5_0_1 := he5.cell (p := ⟨w.heap.size, 1, none⟩) (u := .int .i64 bq) (by first | assumption | simp [go_sem] | simp [go_sem, *])
  have z5_1 : w4.heap.size < w5.heap.size := by have := he5.size; (try simp at this); omega
  have c5_1_0 := he5.cell (p := ⟨w4.heap.size, 0, none⟩) (u := .slice X4 nq Y4) (by first | assumption | simp [go_sem] | simp [go_sem, *])
  have c5_1_1 := he5.cell (p := ⟨w4.heap.size, 1, none⟩) (u := .int .i64 bq) (by first | assumption | simp [go_sem] | simp [go_sem, *])
  go_wp2_with fail
  have hx0 := (ho4.ints (by omega)).ext (w' := w5) (by (repeat (first | with_reducible exact Ext.refl _ | with_reducible assumption | ((with_reducible refine Ext.setCell ?_ ?_ _); rotate_left; focus (first | omega | (simp <;> omega))) | with_reducible refine Ext.alloc ?_ _ | with_reducible refine Ext.drewN ?_ _ | with_reducible refine Ext.drew ?_ | with_reducible refine Ext.trans ?_ (by with_reducible assumption))))
  have eg0 : Ext w5 w5.drew := (Ext.refl _).drew
  go_region_held3 (fun w' => w'.cell? ⟨w.heap.size, 0, none⟩ = some (.slice Aq nq dq) ∧ w'.cell? ⟨w.heap.size, 1, none⟩ = some (.int .i64 bq) ∧ w'.cell? ⟨w4.heap.size, 0, none⟩ = some (.slice X4 nq Y4) ∧ w'.cell? ⟨w4.heap.size, 1, none⟩ = some (.int .i64 bq) ∧ Ext w5 w') (simp [go_sem, *]) (first | (go_at_call 7; refine (toInequality_c _ _ _ bq xsq _ (hq.ext (by (repeat (first | with_reducible exact Ext.refl _ | with_reducible assumption | ((with_reducible refine Ext.setCell ?_ ?_ _); rotate_left; focus (first | omega | (simp <;> omega))) | with_reducible refine Ext.alloc ?_ _ | with_reducible refine Ext.drewN ?_ _ | with_reducible refine Ext.drew ?_ | with_reducible refine Ext.trans ?_ (by with_reducible assumption))))) (by omega)).mono ?_; rintro e w6 ⟨X6, Y6, rfl, ho6, he6⟩; have gw6_0_0 := he6.cell (p := ⟨w.heap.size, 0, none⟩) (u := .slice Aq nq dq) (by simp [go_sem, *]); have gw6_0_1 := he6.cell (p := ⟨w.heap.size, 1, none⟩) (u := .int .i64 bq) (by simp [go_sem, *]); have gw6_1_0 := he6.cell (p := ⟨w4.heap.size, 0, none⟩) (u := .slice X4 nq Y4) (by simp [go_sem, *]); have gw6_1_1 := he6.cell (p := ⟨w4.heap.size, 1, none⟩) (u := .int .i64 bq) (by simp [go_sem, *]); have ew6 : Ext w5 w6 := eg0.trans he6) | (go_at_call 9; refine (eqInequality_same _ _ _ _ _ _ _ xsq _ (hx0.ext (by (repeat (first | with_reducible exact Ext.refl _ | with_reducible assumption | ((with_reducible refine Ext.setCell ?_ ?_ _); rotate_left; focus (first | omega | (simp <;> omega))) | with_reducible refine Ext.alloc ?_ _ | with_reducible refine Ext.drewN ?_ _ | with_reducible refine Ext.drew ?_ | with_reducible refine Ext.trans ?_ (by with_reducible assumption))))) ((ho6.ints (by omega)).ext (by (repeat (first | with_reducible exact Ext.refl _ | with_reducible assumption | ((with_reducible refine Ext.setCell ?_ ?_ _); rotate_left; focus (first | omega | (simp <;> omega))) | with_reducible refine Ext.alloc ?_ _ | with_reducible refine Ext.drewN ?_ _ | with_reducible refine Ext.drew ?_ | with_reducible refine Ext.trans ?_ (by with_reducible assumption)))))).mono ?_; rintro e w7 ⟨rfl, he7⟩; have gw7_0_0 := he7.cell (p := ⟨w.heap.size, 0, none⟩) (u := .slice Aq nq dq) (by simp [go_sem, *]); have gw7_0_1 := he7.cell (p := ⟨w.heap.size, 1, none⟩) (u := .int .i64 bq) (by simp [go_sem, *]); have gw7_1_0 := he7.cell (p := ⟨w4.heap.size, 0, none⟩) (u := .slice X4 nq Y4) (by simp [go_sem, *]); have gw7_1_1 := he7.cell (p := ⟨w4.heap.size, 1, none⟩) (u := .int .i64 bq) (by simp [go_sem, *]); have ew7 : Ext w5 w7 := ew6.trans he7))
  have z7_0 : w.heap.size < w7.heap.size := by have := ew7.size; omega
  have z7_1 : w4.heap.size < w7.heap.size := by have := ew7.size; omega
  go_wp2_with fail
  go_ret
  exact ⟨rfl, by (repeat (first | with_reducible exact Ext.refl _ | with_reducible assumption | ((with_reducible refine Ext.setCell ?_ ?_ _); rotate_left; focus (first | omega | (simp <;> omega))) | with_reducible refine Ext.alloc ?_ _ | with_reducible refine Ext.drewN ?_ _ | with_reducible refine Ext.drew ?_ | with_reducible refine Ext.trans ?_ (by with_reducible assumption)))⟩
end Go.Proofs.YtaigjmbhgpcalaaDoor
