/-
  PROVED: the walk of the law FnExactPlaneOfClause: it returns true for every input.
-/
import Derived.Test.YtencjnddhokgaaaC24
namespace Go.Proofs.Ytencjnddhokgaaa
open Go.RowKit
set_option maxHeartbeats 2000000 in
theorem PlaneOfClause_law (v : Int) (Ac : Option Addr) (nc dc : Nat) (xsc : List Int) (w : World) (hc : Ints w Ac nc xsc) :
    Calls Try.prog 3 #[.int .i64 v, .slice Ac nc dc] w fun e w' => e = .returned (.bool true) ∧ Ext w w' := by
  have hbc := hc.bound
  have hs := fun w A n c (h : Ints w A n xsc) => spec_PlaneOfClause_o v A n c xsc w h
  have hi := fun w A n c (h : Ints w A n xsc) => impl_PlaneOfClause_o v A n c xsc w h
  generalize (if clauseOk v xsc then litCells v.toNat xsc else []) = F at hs hi
  generalize (if clauseOk v xsc then litBound xsc else 0) = b at hs hi
  generalize clauseOk v xsc = ok at hs hi
  have HS := hide hs
  have HI := hide hi
  clear hs hi
  by_cases hsc : nc ≤ 1048576
  rotate_left
  · go_enter Try.func3, Try.ntmps3
    go_wp2
    go_ret
    exact ⟨rfl, by (repeat (first | with_reducible exact Ext.refl _ | with_reducible assumption | ((with_reducible refine Ext.setCell ?_ ?_ _); rotate_left; focus (first | omega | (simp <;> omega))) | with_reducible refine Ext.alloc ?_ _ | with_reducible refine Ext.drewN ?_ _ | with_reducible refine Ext.drew ?_ | with_reducible refine Ext.trans ?_ (by with_reducible assumption)))⟩
  go_enter Try.func3, Try.ntmps3
  go_wp2_with fail
  refine (toIntS_o _ _ _ xsc _ (hc.ext (by (repeat (first | with_reducible exact Ext.refl _ | with_reducible assumption | ((with_reducible refine Ext.setCell ?_ ?_ _); rotate_left; focus (first | omega | (simp <;> omega))) | with_reducible refine Ext.alloc ?_ _ | with_reducible refine Ext.drewN ?_ _ | with_reducible refine Ext.drew ?_ | with_reducible refine Ext.trans ?_ (by with_reducible assumption))))) (by omega)).mono ?_
  rintro e w1 ⟨X1, Y1, rfl, ho1, he1⟩
  have s_w1 : w.heap.size ≤ w1.heap.size := by have := he1.size; (try simp at this); omega
  have ho1 : ObI 3 w1 (w.heap.size) w1.heap.size X1 nc Y1 xsc := by simpa using ho1
  have q_ho1 := ho1.small
  go_wp2_with fail
  refine (HS.out _ _ _ _ ((ho1.ints).ext (by (repeat (first | with_reducible exact Ext.refl _ | with_reducible assumption | ((with_reducible refine Ext.setCell ?_ ?_ _); rotate_left; focus (first | omega | (simp <;> omega))) | with_reducible refine Ext.alloc ?_ _ | with_reducible refine Ext.drewN ?_ _ | with_reducible refine Ext.drew ?_ | with_reducible refine Ext.trans ?_ (by with_reducible assumption)))))).mono ?_
  rintro e w2 ⟨A2_0, n2_0, c2_0, rfl, ho2_0, he2⟩
  have s_w2 : w1.heap.size ≤ w2.heap.size := by have := he2.size; (try simp at this); omega
  have ho2_0 : ObI 3 w2 (w1.heap.size) w2.heap.size A2_0 n2_0 c2_0 F := by simpa using ho2_0
  have q_ho2_0 := ho2_0.small
  go_wp2_with fail
  refine (toIntS_o _ _ _ xsc _ (hc.ext (by (repeat (first | with_reducible exact Ext.refl _ | with_reducible assumption | ((with_reducible refine Ext.setCell ?_ ?_ _); rotate_left; focus (first | omega | (simp <;> omega))) | with_reducible refine Ext.alloc ?_ _ | with_reducible refine Ext.drewN ?_ _ | with_reducible refine Ext.drew ?_ | with_reducible refine Ext.trans ?_ (by with_reducible assumption))))) (by omega)).mono ?_
  rintro e w3 ⟨X3, Y3, rfl, ho3, he3⟩
  have s_w3 : w2.heap.size ≤ w3.heap.size := by have := he3.size; (try simp at this); omega
  have z_w3_0 : w2.heap.size < w3.heap.size := by have := he3.size; (try simp at this); omega
  have c_w3_0_0 := he3.cell (p := ⟨w2.heap.size, 0, none⟩) (u := .slice A2_0 n2_0 c2_0) (by first | assumption | simp [go_sem] | simp [go_sem, *])
  have c_w3_0_1 := he3.cell (p := ⟨w2.heap.size, 1, none⟩) (u := .int .i64 b) (by first | assumption | simp [go_sem] | simp [go_sem, *])
  have ho3 : ObI 3 w3 (w2.heap.size + 1) w3.heap.size X3 nc Y3 xsc := by simpa using ho3
  have q_ho3 := ho3.small
  go_wp2_with fail
  refine (HI.out _ _ _ _ ((ho3.ints).ext (by (repeat (first | with_reducible exact Ext.refl _ | with_reducible assumption | ((with_reducible refine Ext.setCell ?_ ?_ _); rotate_left; focus (first | omega | (simp <;> omega))) | with_reducible refine Ext.alloc ?_ _ | with_reducible refine Ext.drewN ?_ _ | with_reducible refine Ext.drew ?_ | with_reducible refine Ext.trans ?_ (by with_reducible assumption)))))).mono ?_
  rintro e w4 ⟨A4_0, n4_0, c4_0, rfl, ho4_0, he4⟩
  have s_w4 : w3.heap.size ≤ w4.heap.size := by have := he4.size; (try simp at this); omega
  have z_w4_0 : w2.heap.size < w4.heap.size := by have := he4.size; (try simp at this); omega
  have c_w4_0_0 := he4.cell (p := ⟨w2.heap.size, 0, none⟩) (u := .slice A2_0 n2_0 c2_0) (by first | assumption | simp [go_sem] | simp [go_sem, *])
  have c_w4_0_1 := he4.cell (p := ⟨w2.heap.size, 1, none⟩) (u := .int .i64 b) (by first | assumption | simp [go_sem] | simp [go_sem, *])
  have ho4_0 : ObI 3 w4 (w3.heap.size) w4.heap.size A4_0 n4_0 c4_0 F := by simpa using ho4_0
  have q_ho4_0 := ho4_0.small
  go_wp2_with fail
  refine (eqInequality_same _ _ _ _ _ _ _ F _ ((ho4_0.ints).ext (by (repeat (first | with_reducible exact Ext.refl _ | with_reducible assumption | ((with_reducible refine Ext.setCell ?_ ?_ _); rotate_left; focus (first | omega | (simp <;> omega))) | with_reducible refine Ext.alloc ?_ _ | with_reducible refine Ext.drewN ?_ _ | with_reducible refine Ext.drew ?_ | with_reducible refine Ext.trans ?_ (by with_reducible assumption))))) ((ho2_0.ints).ext (by (repeat (first | with_reducible exact Ext.refl _ | with_reducible assumption | ((with_reducible refine Ext.setCell ?_ ?_ _); rotate_left; focus (first | omega | (simp <;> omega))) | with_reducible refine Ext.alloc ?_ _ | with_reducible refine Ext.drewN ?_ _ | with_reducible refine Ext.drew ?_ | with_reducible refine Ext.trans ?_ (by with_reducible assumption)))))).mono ?_
  rintro e w5 ⟨rfl, he5⟩
  have s_w5 : w4.heap.size ≤ w5.heap.size := by have := he5.size; (try simp at this); omega
  have z_w5_0 : w2.heap.size < w5.heap.size := by have := he5.size; (try simp at this); omega
  have c_w5_0_0 := he5.cell (p := ⟨w2.heap.size, 0, none⟩) (u := .slice A2_0 n2_0 c2_0) (by first | assumption | simp [go_sem] | simp [go_sem, *])
  have c_w5_0_1 := he5.cell (p := ⟨w2.heap.size, 1, none⟩) (u := .int .i64 b) (by first | assumption | simp [go_sem] | simp [go_sem, *])
  have z_w5_1 : w4.heap.size < w5.heap.size := by have := he5.size; (try simp at this); omega
  have c_w5_1_0 := he5.cell (p := ⟨w4.heap.size, 0, none⟩) (u := .slice A4_0 n4_0 c4_0) (by first | assumption | simp [go_sem] | simp [go_sem, *])
  have c_w5_1_1 := he5.cell (p := ⟨w4.heap.size, 1, none⟩) (u := .int .i64 b) (by first | assumption | simp [go_sem] | simp [go_sem, *])
  go_wp2_with fail
  refine (toIntS_o _ _ _ xsc _ (hc.ext (by (repeat (first | with_reducible exact Ext.refl _ | with_reducible assumption | ((with_reducible refine Ext.setCell ?_ ?_ _); rotate_left; focus (first | omega | (simp <;> omega))) | with_reducible refine Ext.alloc ?_ _ | with_reducible refine Ext.drewN ?_ _ | with_reducible refine Ext.drew ?_ | with_reducible refine Ext.trans ?_ (by with_reducible assumption))))) (by omega)).mono ?_
  rintro e w6 ⟨X6, Y6, rfl, ho6, he6⟩
  have s_w6 : w5.heap.size ≤ w6.heap.size := by have := he6.size; (try simp at this); omega
  have z_w6_0 : w2.heap.size < w6.heap.size := by have := he6.size; (try simp at this); omega
  have c_w6_0_0 := he6.cell (p := ⟨w2.heap.size, 0, none⟩) (u := .slice A2_0 n2_0 c2_0) (by first | assumption | simp [go_sem] | simp [go_sem, *])
  have c_w6_0_1 := he6.cell (p := ⟨w2.heap.size, 1, none⟩) (u := .int .i64 b) (by first | assumption | simp [go_sem] | simp [go_sem, *])
  have z_w6_1 : w4.heap.size < w6.heap.size := by have := he6.size; (try simp at this); omega
  have c_w6_1_0 := he6.cell (p := ⟨w4.heap.size, 0, none⟩) (u := .slice A4_0 n4_0 c4_0) (by first | assumption | simp [go_sem] | simp [go_sem, *])
  have c_w6_1_1 := he6.cell (p := ⟨w4.heap.size, 1, none⟩) (u := .int .i64 b) (by first | assumption | simp [go_sem] | simp [go_sem, *])
  have ho6 : ObI 3 w6 (w5.heap.size) w6.heap.size X6 nc Y6 xsc := by simpa using ho6
  have q_ho6 := ho6.small
  go_wp2_with fail
  refine (eqIntS_same _ _ _ _ _ _ xsc _ ((ho3.ints).ext (by (repeat (first | with_reducible exact Ext.refl _ | with_reducible assumption | ((with_reducible refine Ext.setCell ?_ ?_ _); rotate_left; focus (first | omega | (simp <;> omega))) | with_reducible refine Ext.alloc ?_ _ | with_reducible refine Ext.drewN ?_ _ | with_reducible refine Ext.drew ?_ | with_reducible refine Ext.trans ?_ (by with_reducible assumption))))) ((ho6.ints).ext (by (repeat (first | with_reducible exact Ext.refl _ | with_reducible assumption | ((with_reducible refine Ext.setCell ?_ ?_ _); rotate_left; focus (first | omega | (simp <;> omega))) | with_reducible refine Ext.alloc ?_ _ | with_reducible refine Ext.drewN ?_ _ | with_reducible refine Ext.drew ?_ | with_reducible refine Ext.trans ?_ (by with_reducible assumption)))))).mono ?_
  rintro e w7 ⟨rfl, he7⟩
  have s_w7 : w6.heap.size ≤ w7.heap.size := by have := he7.size; (try simp at this); omega
  have z_w7_0 : w2.heap.size < w7.heap.size := by have := he7.size; (try simp at this); omega
  have c_w7_0_0 := he7.cell (p := ⟨w2.heap.size, 0, none⟩) (u := .slice A2_0 n2_0 c2_0) (by first | assumption | simp [go_sem] | simp [go_sem, *])
  have c_w7_0_1 := he7.cell (p := ⟨w2.heap.size, 1, none⟩) (u := .int .i64 b) (by first | assumption | simp [go_sem] | simp [go_sem, *])
  have z_w7_1 : w4.heap.size < w7.heap.size := by have := he7.size; (try simp at this); omega
  have c_w7_1_0 := he7.cell (p := ⟨w4.heap.size, 0, none⟩) (u := .slice A4_0 n4_0 c4_0) (by first | assumption | simp [go_sem] | simp [go_sem, *])
  have c_w7_1_1 := he7.cell (p := ⟨w4.heap.size, 1, none⟩) (u := .int .i64 b) (by first | assumption | simp [go_sem] | simp [go_sem, *])
  go_wp2_with fail
  refine (markIntS_o _ _ _ _ _ _ xsc _ (ho3.ext (by (repeat (first | with_reducible exact Ext.refl _ | with_reducible assumption | ((with_reducible refine Ext.setCell ?_ ?_ _); rotate_left; focus (first | omega | (simp <;> omega))) | with_reducible refine Ext.alloc ?_ _ | with_reducible refine Ext.drewN ?_ _ | with_reducible refine Ext.drew ?_ | with_reducible refine Ext.trans ?_ (by with_reducible assumption))))) (by omega)).mono ?_
  rintro e w8 ⟨rfl, hm8, t8⟩
  have s_w8 : w7.heap.size ≤ w8.heap.size := by have := t8.size; (try simp at this); omega
  have z_w8_0 : w2.heap.size < w8.heap.size := by have := t8.size; (try simp at this); omega
  have c_w8_0_0 := t8.cell (p := ⟨w2.heap.size, 0, none⟩) (u := .slice A2_0 n2_0 c2_0) (by first | assumption | simp [go_sem] | simp [go_sem, *]) (by simp only []; omega)
  have c_w8_0_1 := t8.cell (p := ⟨w2.heap.size, 1, none⟩) (u := .int .i64 b) (by first | assumption | simp [go_sem] | simp [go_sem, *]) (by simp only []; omega)
  have z_w8_1 : w4.heap.size < w8.heap.size := by have := t8.size; (try simp at this); omega
  have c_w8_1_0 := t8.cell (p := ⟨w4.heap.size, 0, none⟩) (u := .slice A4_0 n4_0 c4_0) (by first | assumption | simp [go_sem] | simp [go_sem, *]) (by simp only []; omega)
  have c_w8_1_1 := t8.cell (p := ⟨w4.heap.size, 1, none⟩) (u := .int .i64 b) (by first | assumption | simp [go_sem] | simp [go_sem, *]) (by simp only []; omega)
  have ew8 : Ext w w8 := Ext.touched (by (repeat (first | with_reducible exact Ext.refl _ | with_reducible assumption | ((with_reducible refine Ext.setCell ?_ ?_ _); rotate_left; focus (first | omega | (simp <;> omega))) | with_reducible refine Ext.alloc ?_ _ | with_reducible refine Ext.drewN ?_ _ | with_reducible refine Ext.drew ?_ | with_reducible refine Ext.trans ?_ (by with_reducible assumption)))) t8 (by omega)
  have ho2_0_8 := (ho2_0.ext (by (repeat (first | with_reducible exact Ext.refl _ | with_reducible assumption | ((with_reducible refine Ext.setCell ?_ ?_ _); rotate_left; focus (first | omega | (simp <;> omega))) | with_reducible refine Ext.alloc ?_ _ | with_reducible refine Ext.drewN ?_ _ | with_reducible refine Ext.drew ?_ | with_reducible refine Ext.trans ?_ (by with_reducible assumption))))).touch t8 (by omega)
  have ho4_0_8 := (ho4_0.ext (by (repeat (first | with_reducible exact Ext.refl _ | with_reducible assumption | ((with_reducible refine Ext.setCell ?_ ?_ _); rotate_left; focus (first | omega | (simp <;> omega))) | with_reducible refine Ext.alloc ?_ _ | with_reducible refine Ext.drewN ?_ _ | with_reducible refine Ext.drew ?_ | with_reducible refine Ext.trans ?_ (by with_reducible assumption))))).touch t8 (by omega)
  go_wp2_with fail
  refine (eqInequality_same _ _ _ _ _ _ _ F _ ((ho4_0_8.ints).ext (by (repeat (first | with_reducible exact Ext.refl _ | with_reducible assumption | ((with_reducible refine Ext.setCell ?_ ?_ _); rotate_left; focus (first | omega | (simp <;> omega))) | with_reducible refine Ext.alloc ?_ _ | with_reducible refine Ext.drewN ?_ _ | with_reducible refine Ext.drew ?_ | with_reducible refine Ext.trans ?_ (by with_reducible assumption))))) ((ho2_0_8.ints).ext (by (repeat (first | with_reducible exact Ext.refl _ | with_reducible assumption | ((with_reducible refine Ext.setCell ?_ ?_ _); rotate_left; focus (first | omega | (simp <;> omega))) | with_reducible refine Ext.alloc ?_ _ | with_reducible refine Ext.drewN ?_ _ | with_reducible refine Ext.drew ?_ | with_reducible refine Ext.trans ?_ (by with_reducible assumption)))))).mono ?_
  rintro e w9 ⟨rfl, he9⟩
  have s_w9 : w8.heap.size ≤ w9.heap.size := by have := he9.size; (try simp at this); omega
  have z_w9_0 : w2.heap.size < w9.heap.size := by have := he9.size; (try simp at this); omega
  have c_w9_0_0 := he9.cell (p := ⟨w2.heap.size, 0, none⟩) (u := .slice A2_0 n2_0 c2_0) (by first | assumption | simp [go_sem] | simp [go_sem, *])
  have c_w9_0_1 := he9.cell (p := ⟨w2.heap.size, 1, none⟩) (u := .int .i64 b) (by first | assumption | simp [go_sem] | simp [go_sem, *])
  have z_w9_1 : w4.heap.size < w9.heap.size := by have := he9.size; (try simp at this); omega
  have c_w9_1_0 := he9.cell (p := ⟨w4.heap.size, 0, none⟩) (u := .slice A4_0 n4_0 c4_0) (by first | assumption | simp [go_sem] | simp [go_sem, *])
  have c_w9_1_1 := he9.cell (p := ⟨w4.heap.size, 1, none⟩) (u := .int .i64 b) (by first | assumption | simp [go_sem] | simp [go_sem, *])
  go_wp2_with fail
  refine (markInequality_o _ _ _ _ _ _ _ F _ (ho4_0_8.ext (by (repeat (first | with_reducible exact Ext.refl _ | with_reducible assumption | ((with_reducible refine Ext.setCell ?_ ?_ _); rotate_left; focus (first | omega | (simp <;> omega))) | with_reducible refine Ext.alloc ?_ _ | with_reducible refine Ext.drewN ?_ _ | with_reducible refine Ext.drew ?_ | with_reducible refine Ext.trans ?_ (by with_reducible assumption))))) (by omega)).mono ?_
  rintro e w10 ⟨rfl, hm10, t10⟩
  have s_w10 : w9.heap.size ≤ w10.heap.size := by have := t10.size; (try simp at this); omega
  have z_w10_0 : w2.heap.size < w10.heap.size := by have := t10.size; (try simp at this); omega
  have c_w10_0_0 := t10.cell (p := ⟨w2.heap.size, 0, none⟩) (u := .slice A2_0 n2_0 c2_0) (by first | assumption | simp [go_sem] | simp [go_sem, *]) (by simp only []; omega)
  have c_w10_0_1 := t10.cell (p := ⟨w2.heap.size, 1, none⟩) (u := .int .i64 b) (by first | assumption | simp [go_sem] | simp [go_sem, *]) (by simp only []; omega)
  have z_w10_1 : w4.heap.size < w10.heap.size := by have := t10.size; (try simp at this); omega
  have c_w10_1_0 := t10.cell (p := ⟨w4.heap.size, 0, none⟩) (u := .slice A4_0 n4_0 c4_0) (by first | assumption | simp [go_sem] | simp [go_sem, *]) (by simp only []; omega)
  have c_w10_1_1 := t10.cell (p := ⟨w4.heap.size, 1, none⟩) (u := .int .i64 b) (by first | assumption | simp [go_sem] | simp [go_sem, *]) (by simp only []; omega)
  have ew10 : Ext w w10 := Ext.touched (by (repeat (first | with_reducible exact Ext.refl _ | with_reducible assumption | ((with_reducible refine Ext.setCell ?_ ?_ _); rotate_left; focus (first | omega | (simp <;> omega))) | with_reducible refine Ext.alloc ?_ _ | with_reducible refine Ext.drewN ?_ _ | with_reducible refine Ext.drew ?_ | with_reducible refine Ext.trans ?_ (by with_reducible assumption)))) t10 (by omega)
  have ho2_0_8_10 := (ho2_0_8.ext (by (repeat (first | with_reducible exact Ext.refl _ | with_reducible assumption | ((with_reducible refine Ext.setCell ?_ ?_ _); rotate_left; focus (first | omega | (simp <;> omega))) | with_reducible refine Ext.alloc ?_ _ | with_reducible refine Ext.drewN ?_ _ | with_reducible refine Ext.drew ?_ | with_reducible refine Ext.trans ?_ (by with_reducible assumption))))).touch t10 (by omega)
  have hm8_10 := (hm8.ext (by (repeat (first | with_reducible exact Ext.refl _ | with_reducible assumption | ((with_reducible refine Ext.setCell ?_ ?_ _); rotate_left; focus (first | omega | (simp <;> omega))) | with_reducible refine Ext.alloc ?_ _ | with_reducible refine Ext.drewN ?_ _ | with_reducible refine Ext.drew ?_ | with_reducible refine Ext.trans ?_ (by with_reducible assumption))))).touch t10 (by omega)
  go_wp2_with fail
  refine (heldInequality_o _ _ _ _ _ _ _ _ (hm10.ext (by (repeat (first | with_reducible exact Ext.refl _ | with_reducible assumption | ((with_reducible refine Ext.setCell ?_ ?_ _); rotate_left; focus (first | omega | (simp <;> omega))) | with_reducible refine Ext.alloc ?_ _ | with_reducible refine Ext.drewN ?_ _ | with_reducible refine Ext.drew ?_ | with_reducible refine Ext.trans ?_ (by with_reducible assumption))))) (by omega)).mono ?_
  rintro e w11 ⟨rfl, he11⟩
  have s_w11 : w10.heap.size ≤ w11.heap.size := by have := he11.size; (try simp at this); omega
  have z_w11_0 : w2.heap.size < w11.heap.size := by have := he11.size; (try simp at this); omega
  have c_w11_0_0 := he11.cell (p := ⟨w2.heap.size, 0, none⟩) (u := .slice A2_0 n2_0 c2_0) (by first | assumption | simp [go_sem] | simp [go_sem, *])
  have c_w11_0_1 := he11.cell (p := ⟨w2.heap.size, 1, none⟩) (u := .int .i64 b) (by first | assumption | simp [go_sem] | simp [go_sem, *])
  have z_w11_1 : w4.heap.size < w11.heap.size := by have := he11.size; (try simp at this); omega
  have c_w11_1_0 := he11.cell (p := ⟨w4.heap.size, 0, none⟩) (u := .slice A4_0 n4_0 c4_0) (by first | assumption | simp [go_sem] | simp [go_sem, *])
  have c_w11_1_1 := he11.cell (p := ⟨w4.heap.size, 1, none⟩) (u := .int .i64 b) (by first | assumption | simp [go_sem] | simp [go_sem, *])
  go_wp2_with fail
  refine (toIntS_o _ _ _ xsc _ (hc.ext (by (repeat (first | with_reducible exact Ext.refl _ | with_reducible assumption | ((with_reducible refine Ext.setCell ?_ ?_ _); rotate_left; focus (first | omega | (simp <;> omega))) | with_reducible refine Ext.alloc ?_ _ | with_reducible refine Ext.drewN ?_ _ | with_reducible refine Ext.drew ?_ | with_reducible refine Ext.trans ?_ (by with_reducible assumption))))) (by omega)).mono ?_
  rintro e w12 ⟨X12, Y12, rfl, ho12, he12⟩
  have s_w12 : w11.heap.size ≤ w12.heap.size := by have := he12.size; (try simp at this); omega
  have z_w12_0 : w2.heap.size < w12.heap.size := by have := he12.size; (try simp at this); omega
  have c_w12_0_0 := he12.cell (p := ⟨w2.heap.size, 0, none⟩) (u := .slice A2_0 n2_0 c2_0) (by first | assumption | simp [go_sem] | simp [go_sem, *])
  have c_w12_0_1 := he12.cell (p := ⟨w2.heap.size, 1, none⟩) (u := .int .i64 b) (by first | assumption | simp [go_sem] | simp [go_sem, *])
  have z_w12_1 : w4.heap.size < w12.heap.size := by have := he12.size; (try simp at this); omega
  have c_w12_1_0 := he12.cell (p := ⟨w4.heap.size, 0, none⟩) (u := .slice A4_0 n4_0 c4_0) (by first | assumption | simp [go_sem] | simp [go_sem, *])
  have c_w12_1_1 := he12.cell (p := ⟨w4.heap.size, 1, none⟩) (u := .int .i64 b) (by first | assumption | simp [go_sem] | simp [go_sem, *])
  have ho12 : ObI 3 w12 (w11.heap.size) w12.heap.size X12 nc Y12 xsc := by simpa using ho12
  have q_ho12 := ho12.small
  go_wp2_with fail
  refine (HI.out _ _ _ _ ((ho12.ints).ext (by (repeat (first | with_reducible exact Ext.refl _ | with_reducible assumption | ((with_reducible refine Ext.setCell ?_ ?_ _); rotate_left; focus (first | omega | (simp <;> omega))) | with_reducible refine Ext.alloc ?_ _ | with_reducible refine Ext.drewN ?_ _ | with_reducible refine Ext.drew ?_ | with_reducible refine Ext.trans ?_ (by with_reducible assumption)))))).mono ?_
  rintro e w13 ⟨A13_0, n13_0, c13_0, rfl, ho13_0, he13⟩
  have s_w13 : w12.heap.size ≤ w13.heap.size := by have := he13.size; (try simp at this); omega
  have z_w13_0 : w2.heap.size < w13.heap.size := by have := he13.size; (try simp at this); omega
  have c_w13_0_0 := he13.cell (p := ⟨w2.heap.size, 0, none⟩) (u := .slice A2_0 n2_0 c2_0) (by first | assumption | simp [go_sem] | simp [go_sem, *])
  have c_w13_0_1 := he13.cell (p := ⟨w2.heap.size, 1, none⟩) (u := .int .i64 b) (by first | assumption | simp [go_sem] | simp [go_sem, *])
  have z_w13_1 : w4.heap.size < w13.heap.size := by have := he13.size; (try simp at this); omega
  have c_w13_1_0 := he13.cell (p := ⟨w4.heap.size, 0, none⟩) (u := .slice A4_0 n4_0 c4_0) (by first | assumption | simp [go_sem] | simp [go_sem, *])
  have c_w13_1_1 := he13.cell (p := ⟨w4.heap.size, 1, none⟩) (u := .int .i64 b) (by first | assumption | simp [go_sem] | simp [go_sem, *])
  have ho13_0 : ObI 3 w13 (w12.heap.size) w13.heap.size A13_0 n13_0 c13_0 F := by simpa using ho13_0
  have q_ho13_0 := ho13_0.small
  go_wp2_with fail
  refine (eqInequality_same _ _ _ _ _ _ _ F _ ((ho13_0.ints).ext (by (repeat (first | with_reducible exact Ext.refl _ | with_reducible assumption | ((with_reducible refine Ext.setCell ?_ ?_ _); rotate_left; focus (first | omega | (simp <;> omega))) | with_reducible refine Ext.alloc ?_ _ | with_reducible refine Ext.drewN ?_ _ | with_reducible refine Ext.drew ?_ | with_reducible refine Ext.trans ?_ (by with_reducible assumption))))) ((ho2_0_8_10.ints).ext (by (repeat (first | with_reducible exact Ext.refl _ | with_reducible assumption | ((with_reducible refine Ext.setCell ?_ ?_ _); rotate_left; focus (first | omega | (simp <;> omega))) | with_reducible refine Ext.alloc ?_ _ | with_reducible refine Ext.drewN ?_ _ | with_reducible refine Ext.drew ?_ | with_reducible refine Ext.trans ?_ (by with_reducible assumption)))))).mono ?_
  rintro e w14 ⟨rfl, he14⟩
  have s_w14 : w13.heap.size ≤ w14.heap.size := by have := he14.size; (try simp at this); omega
  have z_w14_0 : w2.heap.size < w14.heap.size := by have := he14.size; (try simp at this); omega
  have c_w14_0_0 := he14.cell (p := ⟨w2.heap.size, 0, none⟩) (u := .slice A2_0 n2_0 c2_0) (by first | assumption | simp [go_sem] | simp [go_sem, *])
  have c_w14_0_1 := he14.cell (p := ⟨w2.heap.size, 1, none⟩) (u := .int .i64 b) (by first | assumption | simp [go_sem] | simp [go_sem, *])
  have z_w14_1 : w4.heap.size < w14.heap.size := by have := he14.size; (try simp at this); omega
  have c_w14_1_0 := he14.cell (p := ⟨w4.heap.size, 0, none⟩) (u := .slice A4_0 n4_0 c4_0) (by first | assumption | simp [go_sem] | simp [go_sem, *])
  have c_w14_1_1 := he14.cell (p := ⟨w4.heap.size, 1, none⟩) (u := .int .i64 b) (by first | assumption | simp [go_sem] | simp [go_sem, *])
  have z_w14_2 : w13.heap.size < w14.heap.size := by have := he14.size; (try simp at this); omega
  have c_w14_2_0 := he14.cell (p := ⟨w13.heap.size, 0, none⟩) (u := .slice A13_0 n13_0 c13_0) (by first | assumption | simp [go_sem] | simp [go_sem, *])
  have c_w14_2_1 := he14.cell (p := ⟨w13.heap.size, 1, none⟩) (u := .int .i64 b) (by first | assumption | simp [go_sem] | simp [go_sem, *])
  go_wp2_with fail
  refine (heldInequality_o _ _ _ _ _ _ _ _ (hm10.ext (by (repeat (first | with_reducible exact Ext.refl _ | with_reducible assumption | ((with_reducible refine Ext.setCell ?_ ?_ _); rotate_left; focus (first | omega | (simp <;> omega))) | with_reducible refine Ext.alloc ?_ _ | with_reducible refine Ext.drewN ?_ _ | with_reducible refine Ext.drew ?_ | with_reducible refine Ext.trans ?_ (by with_reducible assumption))))) (by omega)).mono ?_
  rintro e w15 ⟨rfl, he15⟩
  have s_w15 : w14.heap.size ≤ w15.heap.size := by have := he15.size; (try simp at this); omega
  have z_w15_0 : w2.heap.size < w15.heap.size := by have := he15.size; (try simp at this); omega
  have c_w15_0_0 := he15.cell (p := ⟨w2.heap.size, 0, none⟩) (u := .slice A2_0 n2_0 c2_0) (by first | assumption | simp [go_sem] | simp [go_sem, *])
  have c_w15_0_1 := he15.cell (p := ⟨w2.heap.size, 1, none⟩) (u := .int .i64 b) (by first | assumption | simp [go_sem] | simp [go_sem, *])
  have z_w15_1 : w4.heap.size < w15.heap.size := by have := he15.size; (try simp at this); omega
  have c_w15_1_0 := he15.cell (p := ⟨w4.heap.size, 0, none⟩) (u := .slice A4_0 n4_0 c4_0) (by first | assumption | simp [go_sem] | simp [go_sem, *])
  have c_w15_1_1 := he15.cell (p := ⟨w4.heap.size, 1, none⟩) (u := .int .i64 b) (by first | assumption | simp [go_sem] | simp [go_sem, *])
  have z_w15_2 : w13.heap.size < w15.heap.size := by have := he15.size; (try simp at this); omega
  have c_w15_2_0 := he15.cell (p := ⟨w13.heap.size, 0, none⟩) (u := .slice A13_0 n13_0 c13_0) (by first | assumption | simp [go_sem] | simp [go_sem, *])
  have c_w15_2_1 := he15.cell (p := ⟨w13.heap.size, 1, none⟩) (u := .int .i64 b) (by first | assumption | simp [go_sem] | simp [go_sem, *])
  go_wp2_with fail
  go_ret
  exact ⟨rfl, by (repeat (first | with_reducible exact Ext.refl _ | with_reducible assumption | ((with_reducible refine Ext.setCell ?_ ?_ _); rotate_left; focus (first | omega | (simp <;> omega))) | with_reducible refine Ext.alloc ?_ _ | with_reducible refine Ext.drewN ?_ _ | with_reducible refine Ext.drew ?_ | with_reducible refine Ext.trans ?_ (by with_reducible assumption)))⟩
end Go.Proofs.Ytencjnddhokgaaa
