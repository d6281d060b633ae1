/-
  PROVED: the walk of the law FnExactAfterMoves: it returns true for every input.
-/
import Derived.Test.YtialpmmdomhobaaD13
namespace Go.Proofs.Ytialpmmdomhobaa
set_option linter.unusedSimpArgs false
set_option linter.unusedVariables false
open Go.RowKit
set_option maxRecDepth 100000 in
set_option maxHeartbeats 8000000 in
theorem AfterMoves_law (Aq : Option Addr) (nq dq : Nat) (xsq : List (List Int)) (Ar : Option Addr) (nr dr : Nat) (xsr : List Mv) (w : World) (hq : Intss w Aq nq xsq) (hr : FlatA 2 w Ar nr (flm xsr)) :
    Calls Try.prog 3 #[.agg #[.slice Aq nq dq], .slice Ar nr dr] w fun e w' => e = .returned (.bool true) ∧ Ext w w' := by
  have hbq := hq.bound
  have hbr := hr.bound
  have hs := fun w A n c (h : Intss w A n xsq) B m d (k : Moves w B m xsr) => spec_AfterMoves_o A n c xsq B m d xsr w h k
  have hi := fun w A n c (h : Intss w A n xsq) B m d (k : Moves w B m xsr) (hm : m ≤ 1048576) => impl_AfterMoves_o A n c xsq B m d xsr w h k hm
  generalize (if amOk xsq xsr then amList xsq xsr else []) = F at hs hi
  generalize amOk xsq xsr = ok at hs hi
  have HS := hide hs
  have HI := hide hi
  clear hs hi
  by_cases hsq : rowsSize xsq ≤ 1048576
  rotate_left
  · skip
    go_enter Try.func3, Try.ntmps3
    go_wp2_with fail
    refine (szDag_no _ _ _ _ xsq _ (hq.ext (by (repeat (first | with_reducible exact Ext.refl _ | with_reducible assumption | ((with_reducible refine Ext.setCell ?_ ?_ _); rotate_left; focus (first | omega | (simp <;> omega))) | with_reducible refine Ext.alloc ?_ _ | with_reducible refine Ext.drewN ?_ _ | with_reducible refine Ext.drew ?_ | with_reducible refine Ext.trans ?_ (by with_reducible assumption))))) (by omega) (by omega)).mono ?_
    rintro e w1 ⟨rfl, he1⟩
    have s_w1 : w.heap.size ≤ w1.heap.size := by have := he1.size; (try simp at this); omega
    have z_w1_0 : w.heap.size < w1.heap.size := by have := he1.size; (try simp at this); omega
    have c_w1_0_0 := he1.cell (p := ⟨w.heap.size, 0, none⟩) (u := .slice Aq nq dq) (by first | assumption | simp [go_sem] | simp [go_sem, *])
    go_wp2_with fail
    go_ret
    exact ⟨rfl, by (repeat (first | with_reducible exact Ext.refl _ | with_reducible assumption | ((with_reducible refine Ext.setCell ?_ ?_ _); rotate_left; focus (first | omega | (simp <;> omega))) | with_reducible refine Ext.alloc ?_ _ | with_reducible refine Ext.drewN ?_ _ | with_reducible refine Ext.drew ?_ | with_reducible refine Ext.trans ?_ (by with_reducible assumption)))⟩
  by_cases hsr : rowsSize xsq + nr ≤ 1048576
  rotate_left
  · skip
    go_enter Try.func3, Try.ntmps3
    go_wp2_with fail
    refine (szDag_fit _ _ _ _ xsq _ (hq.ext (by (repeat (first | with_reducible exact Ext.refl _ | with_reducible assumption | ((with_reducible refine Ext.setCell ?_ ?_ _); rotate_left; focus (first | omega | (simp <;> omega))) | with_reducible refine Ext.alloc ?_ _ | with_reducible refine Ext.drewN ?_ _ | with_reducible refine Ext.drew ?_ | with_reducible refine Ext.trans ?_ (by with_reducible assumption))))) (by omega) (by omega)).mono ?_
    rintro e w1 ⟨rfl, he1⟩
    have s_w1 : w.heap.size ≤ w1.heap.size := by have := he1.size; (try simp at this); omega
    have z_w1_0 : w.heap.size < w1.heap.size := by have := he1.size; (try simp at this); omega
    have c_w1_0_0 := he1.cell (p := ⟨w.heap.size, 0, none⟩) (u := .slice Aq nq dq) (by first | assumption | simp [go_sem] | simp [go_sem, *])
    go_wp2_with fail
    refine (szPebbleMoveS_no _ _ _ _ _ hbr (by omega) (by omega)).mono ?_
    rintro e w2 ⟨rfl, he2⟩
    have s_w2 : w1.heap.size ≤ w2.heap.size := by have := he2.size; (try simp at this); omega
    have z_w2_0 : w.heap.size < w2.heap.size := by have := he2.size; (try simp at this); omega
    have c_w2_0_0 := he2.cell (p := ⟨w.heap.size, 0, none⟩) (u := .slice Aq nq dq) (by first | assumption | simp [go_sem] | simp [go_sem, *])
    go_wp2_with fail
    go_ret
    exact ⟨rfl, by (repeat (first | with_reducible exact Ext.refl _ | with_reducible assumption | ((with_reducible refine Ext.setCell ?_ ?_ _); rotate_left; focus (first | omega | (simp <;> omega))) | with_reducible refine Ext.alloc ?_ _ | with_reducible refine Ext.drewN ?_ _ | with_reducible refine Ext.drew ?_ | with_reducible refine Ext.trans ?_ (by with_reducible assumption)))⟩
  go_enter Try.func3, Try.ntmps3
  go_wp2_with fail
  refine (szDag_fit _ _ _ _ xsq _ (hq.ext (by (repeat (first | with_reducible exact Ext.refl _ | with_reducible assumption | ((with_reducible refine Ext.setCell ?_ ?_ _); rotate_left; focus (first | omega | (simp <;> omega))) | with_reducible refine Ext.alloc ?_ _ | with_reducible refine Ext.drewN ?_ _ | with_reducible refine Ext.drew ?_ | with_reducible refine Ext.trans ?_ (by with_reducible assumption))))) (by omega) (by omega)).mono ?_
  rintro e w1 ⟨rfl, he1⟩
  have s_w1 : w.heap.size ≤ w1.heap.size := by have := he1.size; (try simp at this); omega
  have z_w1_0 : w.heap.size < w1.heap.size := by have := he1.size; (try simp at this); omega
  have c_w1_0_0 := he1.cell (p := ⟨w.heap.size, 0, none⟩) (u := .slice Aq nq dq) (by first | assumption | simp [go_sem] | simp [go_sem, *])
  go_wp2_with fail
  refine (szPebbleMoveS_fit _ _ _ _ _ hbr (by omega) (by omega)).mono ?_
  rintro e w2 ⟨rfl, he2⟩
  have s_w2 : w1.heap.size ≤ w2.heap.size := by have := he2.size; (try simp at this); omega
  have z_w2_0 : w.heap.size < w2.heap.size := by have := he2.size; (try simp at this); omega
  have c_w2_0_0 := he2.cell (p := ⟨w.heap.size, 0, none⟩) (u := .slice Aq nq dq) (by first | assumption | simp [go_sem] | simp [go_sem, *])
  go_wp2_with fail
  have hnq := rowsSize_len hq.len (t := 1048576) (by omega)
  refine (toDag_o _ _ _ xsq _ (hq.ext (by (repeat (first | with_reducible exact Ext.refl _ | with_reducible assumption | ((with_reducible refine Ext.setCell ?_ ?_ _); rotate_left; focus (first | omega | (simp <;> omega))) | with_reducible refine Ext.alloc ?_ _ | with_reducible refine Ext.drewN ?_ _ | with_reducible refine Ext.drew ?_ | with_reducible refine Ext.trans ?_ (by with_reducible assumption))))) (by omega)).mono ?_
  rintro e w3 ⟨X3, Y3, rfl, ho3, he3⟩
  have s_w3 : w2.heap.size ≤ w3.heap.size := by have := he3.size; (try simp at this); omega
  have z_w3_0 : w.heap.size < w3.heap.size := by have := he3.size; (try simp at this); omega
  have c_w3_0_0 := he3.cell (p := ⟨w.heap.size, 0, none⟩) (u := .slice Aq nq dq) (by first | assumption | simp [go_sem] | simp [go_sem, *])
  have ho3 : ObR 28 3 w3 (w2.heap.size) w3.heap.size X3 nq Y3 xsq := by simpa using ho3
  have q_ho3 := rowsTotal_small ho3.small
  go_wp2_with fail
  refine (toPebbleMoveS_o _ _ _ (flm xsr) _ (hr.ext (by (repeat (first | with_reducible exact Ext.refl _ | with_reducible assumption | ((with_reducible refine Ext.setCell ?_ ?_ _); rotate_left; focus (first | omega | (simp <;> omega))) | with_reducible refine Ext.alloc ?_ _ | with_reducible refine Ext.drewN ?_ _ | with_reducible refine Ext.drew ?_ | with_reducible refine Ext.trans ?_ (by with_reducible assumption))))) (by omega)).mono ?_
  rintro e w4 ⟨X4, Y4, rfl, ho4, he4⟩
  have s_w4 : w3.heap.size ≤ w4.heap.size := by have := he4.size; (try simp at this); omega
  have z_w4_0 : w.heap.size < w4.heap.size := by have := he4.size; (try simp at this); omega
  have c_w4_0_0 := he4.cell (p := ⟨w.heap.size, 0, none⟩) (u := .slice Aq nq dq) (by first | assumption | simp [go_sem] | simp [go_sem, *])
  have ho4 : ObF 49 2 w4 (w3.heap.size) w4.heap.size X4 nr Y4 (flm xsr) := by simpa using ho4
  have q_ho4 := ho4.small
  go_wp2_with fail
  refine (HS.out _ _ _ _ ((ho3.intss).ext (by (repeat (first | with_reducible exact Ext.refl _ | with_reducible assumption | ((with_reducible refine Ext.setCell ?_ ?_ _); rotate_left; focus (first | omega | (simp <;> omega))) | with_reducible refine Ext.alloc ?_ _ | with_reducible refine Ext.drewN ?_ _ | with_reducible refine Ext.drew ?_ | with_reducible refine Ext.trans ?_ (by with_reducible assumption))))) _ _ _ ((ho4.moves).ext (by (repeat (first | with_reducible exact Ext.refl _ | with_reducible assumption | ((with_reducible refine Ext.setCell ?_ ?_ _); rotate_left; focus (first | omega | (simp <;> omega))) | with_reducible refine Ext.alloc ?_ _ | with_reducible refine Ext.drewN ?_ _ | with_reducible refine Ext.drew ?_ | with_reducible refine Ext.trans ?_ (by with_reducible assumption)))))).mono ?_
  rintro e w5 ⟨A5_0, n5_0, c5_0, rfl, ho5_0, he5⟩
  have s_w5 : w4.heap.size ≤ w5.heap.size := by have := he5.size; (try simp at this); omega
  have z_w5_0 : w.heap.size < w5.heap.size := by have := he5.size; (try simp at this); omega
  have c_w5_0_0 := he5.cell (p := ⟨w.heap.size, 0, none⟩) (u := .slice Aq nq dq) (by first | assumption | simp [go_sem] | simp [go_sem, *])
  have ho5_0 : ObI 3 w5 (w4.heap.size) w5.heap.size A5_0 n5_0 c5_0 F := by simpa using ho5_0
  have q_ho5_0 := ho5_0.small
  go_wp2_with fail
  refine (toDag_o _ _ _ xsq _ (hq.ext (by (repeat (first | with_reducible exact Ext.refl _ | with_reducible assumption | ((with_reducible refine Ext.setCell ?_ ?_ _); rotate_left; focus (first | omega | (simp <;> omega))) | with_reducible refine Ext.alloc ?_ _ | with_reducible refine Ext.drewN ?_ _ | with_reducible refine Ext.drew ?_ | with_reducible refine Ext.trans ?_ (by with_reducible assumption))))) (by omega)).mono ?_
  rintro e w6 ⟨X6, Y6, rfl, ho6, he6⟩
  have s_w6 : w5.heap.size ≤ w6.heap.size := by have := he6.size; (try simp at this); omega
  have z_w6_0 : w.heap.size < w6.heap.size := by have := he6.size; (try simp at this); omega
  have c_w6_0_0 := he6.cell (p := ⟨w.heap.size, 0, none⟩) (u := .slice Aq nq dq) (by first | assumption | simp [go_sem] | simp [go_sem, *])
  have ho6 : ObR 28 3 w6 (w5.heap.size) w6.heap.size X6 nq Y6 xsq := by simpa using ho6
  have q_ho6 := rowsTotal_small ho6.small
  go_wp2_with fail
  refine (toPebbleMoveS_o _ _ _ (flm xsr) _ (hr.ext (by (repeat (first | with_reducible exact Ext.refl _ | with_reducible assumption | ((with_reducible refine Ext.setCell ?_ ?_ _); rotate_left; focus (first | omega | (simp <;> omega))) | with_reducible refine Ext.alloc ?_ _ | with_reducible refine Ext.drewN ?_ _ | with_reducible refine Ext.drew ?_ | with_reducible refine Ext.trans ?_ (by with_reducible assumption))))) (by omega)).mono ?_
  rintro e w7 ⟨X7, Y7, rfl, ho7, he7⟩
  have s_w7 : w6.heap.size ≤ w7.heap.size := by have := he7.size; (try simp at this); omega
  have z_w7_0 : w.heap.size < w7.heap.size := by have := he7.size; (try simp at this); omega
  have c_w7_0_0 := he7.cell (p := ⟨w.heap.size, 0, none⟩) (u := .slice Aq nq dq) (by first | assumption | simp [go_sem] | simp [go_sem, *])
  have z_w7_1 : w6.heap.size < w7.heap.size := by have := he7.size; (try simp at this); omega
  have c_w7_1_0 := he7.cell (p := ⟨w6.heap.size, 0, none⟩) (u := .slice X6 nq Y6) (by first | assumption | simp [go_sem] | simp [go_sem, *])
  have ho7 : ObF 49 2 w7 (w6.heap.size + 1) w7.heap.size X7 nr Y7 (flm xsr) := by simpa using ho7
  have q_ho7 := ho7.small
  go_wp2_with fail
  refine (HI.out _ _ _ _ ((ho6.intss).ext (by (repeat (first | with_reducible exact Ext.refl _ | with_reducible assumption | ((with_reducible refine Ext.setCell ?_ ?_ _); rotate_left; focus (first | omega | (simp <;> omega))) | with_reducible refine Ext.alloc ?_ _ | with_reducible refine Ext.drewN ?_ _ | with_reducible refine Ext.drew ?_ | with_reducible refine Ext.trans ?_ (by with_reducible assumption))))) _ _ _ ((ho7.moves).ext (by (repeat (first | with_reducible exact Ext.refl _ | with_reducible assumption | ((with_reducible refine Ext.setCell ?_ ?_ _); rotate_left; focus (first | omega | (simp <;> omega))) | with_reducible refine Ext.alloc ?_ _ | with_reducible refine Ext.drewN ?_ _ | with_reducible refine Ext.drew ?_ | with_reducible refine Ext.trans ?_ (by with_reducible assumption))))) (by omega)).mono ?_
  rintro e w8 ⟨A8_0, n8_0, c8_0, rfl, ho8_0, he8⟩
  have s_w8 : w7.heap.size ≤ w8.heap.size := by have := he8.size; (try simp at this); omega
  have z_w8_0 : w.heap.size < w8.heap.size := by have := he8.size; (try simp at this); omega
  have c_w8_0_0 := he8.cell (p := ⟨w.heap.size, 0, none⟩) (u := .slice Aq nq dq) (by first | assumption | simp [go_sem] | simp [go_sem, *])
  have z_w8_1 : w6.heap.size < w8.heap.size := by have := he8.size; (try simp at this); omega
  have c_w8_1_0 := he8.cell (p := ⟨w6.heap.size, 0, none⟩) (u := .slice X6 nq Y6) (by first | assumption | simp [go_sem] | simp [go_sem, *])
  have ho8_0 : ObI 3 w8 (w7.heap.size) w8.heap.size A8_0 n8_0 c8_0 F := by simpa using ho8_0
  have q_ho8_0 := ho8_0.small
  go_wp2_with fail
  refine (eqIntS_same _ _ _ _ _ _ F _ ((ho8_0.ints).ext (by (repeat (first | with_reducible exact Ext.refl _ | with_reducible assumption | ((with_reducible refine Ext.setCell ?_ ?_ _); rotate_left; focus (first | omega | (simp <;> omega))) | with_reducible refine Ext.alloc ?_ _ | with_reducible refine Ext.drewN ?_ _ | with_reducible refine Ext.drew ?_ | with_reducible refine Ext.trans ?_ (by with_reducible assumption))))) ((ho5_0.ints).ext (by (repeat (first | with_reducible exact Ext.refl _ | with_reducible assumption | ((with_reducible refine Ext.setCell ?_ ?_ _); rotate_left; focus (first | omega | (simp <;> omega))) | with_reducible refine Ext.alloc ?_ _ | with_reducible refine Ext.drewN ?_ _ | with_reducible refine Ext.drew ?_ | with_reducible refine Ext.trans ?_ (by with_reducible assumption)))))).mono ?_
  rintro e w9 ⟨rfl, he9⟩
  have s_w9 : w8.heap.size ≤ w9.heap.size := by have := he9.size; (try simp at this); omega
  have z_w9_0 : w.heap.size < w9.heap.size := by have := he9.size; (try simp at this); omega
  have c_w9_0_0 := he9.cell (p := ⟨w.heap.size, 0, none⟩) (u := .slice Aq nq dq) (by first | assumption | simp [go_sem] | simp [go_sem, *])
  have z_w9_1 : w6.heap.size < w9.heap.size := by have := he9.size; (try simp at this); omega
  have c_w9_1_0 := he9.cell (p := ⟨w6.heap.size, 0, none⟩) (u := .slice X6 nq Y6) (by first | assumption | simp [go_sem] | simp [go_sem, *])
  go_wp2_with fail
  have eg9 : Ext w9 w9.drew := (Ext.refl _).drew
  go_region_held3 (fun w' => w'.cell? ⟨w.heap.size, 0, none⟩ = some (.slice Aq nq dq) ∧ w'.cell? ⟨w6.heap.size, 0, none⟩ = some (.slice X6 nq Y6) ∧ Ext w9 w') (simp [go_sem, *]) (first | (go_at_call 7; (with_reducible refine (toDag_o _ _ _ xsq _ (hq.ext (by (repeat (first | with_reducible exact Ext.refl _ | with_reducible assumption | ((with_reducible refine Ext.setCell ?_ ?_ _); rotate_left; focus (first | omega | (simp <;> omega))) | with_reducible refine Ext.alloc ?_ _ | with_reducible refine Ext.drewN ?_ _ | with_reducible refine Ext.drew ?_ | with_reducible refine Ext.trans ?_ (by with_reducible assumption))))) (by omega)).mono ?_); rintro e w10 ⟨X10, Y10, rfl, ho10, he10⟩; have c_w10_0_0 := he10.cell (p := ⟨w.heap.size, 0, none⟩) (u := .slice Aq nq dq) (by simp [go_sem, *]); have c_w10_1_0 := he10.cell (p := ⟨w6.heap.size, 0, none⟩) (u := .slice X6 nq Y6) (by simp [go_sem, *]); have ew10 : Ext w9 w10 := Ext.trans (by (repeat (first | with_reducible exact Ext.refl _ | with_reducible assumption | ((with_reducible refine Ext.setCell ?_ ?_ _); rotate_left; focus (first | omega | (simp <;> omega))) | with_reducible refine Ext.alloc ?_ _ | with_reducible refine Ext.drewN ?_ _ | with_reducible refine Ext.drew ?_ | with_reducible refine Ext.trans ?_ (by with_reducible assumption)))) he10; have s_w10 : w9.heap.size ≤ w10.heap.size := (by have := ew10.size; (try simp at this); omega)) | (go_at_call 11; (with_reducible refine (eqDag_same _ _ _ _ _ _ xsq _ ((ho6.intss).ext (by (repeat (first | with_reducible exact Ext.refl _ | with_reducible assumption | ((with_reducible refine Ext.setCell ?_ ?_ _); rotate_left; focus (first | omega | (simp <;> omega))) | with_reducible refine Ext.alloc ?_ _ | with_reducible refine Ext.drewN ?_ _ | with_reducible refine Ext.drew ?_ | with_reducible refine Ext.trans ?_ (by with_reducible assumption))))) ((ho10.intss).ext (by (repeat (first | with_reducible exact Ext.refl _ | with_reducible assumption | ((with_reducible refine Ext.setCell ?_ ?_ _); rotate_left; focus (first | omega | (simp <;> omega))) | with_reducible refine Ext.alloc ?_ _ | with_reducible refine Ext.drewN ?_ _ | with_reducible refine Ext.drew ?_ | with_reducible refine Ext.trans ?_ (by with_reducible assumption)))))).mono ?_); rintro e w11 ⟨rfl, he11⟩; have c_w11_0_0 := he11.cell (p := ⟨w.heap.size, 0, none⟩) (u := .slice Aq nq dq) (by simp [go_sem, *]); have c_w11_1_0 := he11.cell (p := ⟨w6.heap.size, 0, none⟩) (u := .slice X6 nq Y6) (by simp [go_sem, *]); have ew11 : Ext w9 w11 := Ext.trans (by (repeat (first | with_reducible exact Ext.refl _ | with_reducible assumption | ((with_reducible refine Ext.setCell ?_ ?_ _); rotate_left; focus (first | omega | (simp <;> omega))) | with_reducible refine Ext.alloc ?_ _ | with_reducible refine Ext.drewN ?_ _ | with_reducible refine Ext.drew ?_ | with_reducible refine Ext.trans ?_ (by with_reducible assumption)))) he11; have s_w11 : w9.heap.size ≤ w11.heap.size := (by have := ew11.size; (try simp at this); omega)))
  have z_w11_0 : w.heap.size < w11.heap.size := by have := ew11.size; omega
  have z_w11_1 : w6.heap.size < w11.heap.size := by have := ew11.size; omega
  go_wp2_with fail
  refine (toPebbleMoveS_o _ _ _ (flm xsr) _ (hr.ext (by (repeat (first | with_reducible exact Ext.refl _ | with_reducible assumption | ((with_reducible refine Ext.setCell ?_ ?_ _); rotate_left; focus (first | omega | (simp <;> omega))) | with_reducible refine Ext.alloc ?_ _ | with_reducible refine Ext.drewN ?_ _ | with_reducible refine Ext.drew ?_ | with_reducible refine Ext.trans ?_ (by with_reducible assumption))))) (by omega)).mono ?_
  rintro e w12 ⟨X12, Y12, rfl, ho12, he12⟩
  have s_w12 : w11.heap.size ≤ w12.heap.size := by have := he12.size; (try simp at this); omega
  have z_w12_0 : w.heap.size < w12.heap.size := by have := he12.size; (try simp at this); omega
  have c_w12_0_0 := he12.cell (p := ⟨w.heap.size, 0, none⟩) (u := .slice Aq nq dq) (by first | assumption | simp [go_sem] | simp [go_sem, *])
  have z_w12_1 : w6.heap.size < w12.heap.size := by have := he12.size; (try simp at this); omega
  have c_w12_1_0 := he12.cell (p := ⟨w6.heap.size, 0, none⟩) (u := .slice X6 nq Y6) (by first | assumption | simp [go_sem] | simp [go_sem, *])
  have ho12 : ObF 49 2 w12 (w11.heap.size) w12.heap.size X12 nr Y12 (flm xsr) := by simpa using ho12
  have q_ho12 := ho12.small
  go_wp2_with fail
  refine (eqPebbleMoveS_same _ _ _ _ _ _ (flm xsr) _ ((ho7.flat).ext (by (repeat (first | with_reducible exact Ext.refl _ | with_reducible assumption | ((with_reducible refine Ext.setCell ?_ ?_ _); rotate_left; focus (first | omega | (simp <;> omega))) | with_reducible refine Ext.alloc ?_ _ | with_reducible refine Ext.drewN ?_ _ | with_reducible refine Ext.drew ?_ | with_reducible refine Ext.trans ?_ (by with_reducible assumption))))) ((ho12.flat).ext (by (repeat (first | with_reducible exact Ext.refl _ | with_reducible assumption | ((with_reducible refine Ext.setCell ?_ ?_ _); rotate_left; focus (first | omega | (simp <;> omega))) | with_reducible refine Ext.alloc ?_ _ | with_reducible refine Ext.drewN ?_ _ | with_reducible refine Ext.drew ?_ | with_reducible refine Ext.trans ?_ (by with_reducible assumption)))))).mono ?_
  rintro e w13 ⟨rfl, he13⟩
  have s_w13 : w12.heap.size ≤ w13.heap.size := by have := he13.size; (try simp at this); omega
  have z_w13_0 : w.heap.size < w13.heap.size := by have := he13.size; (try simp at this); omega
  have c_w13_0_0 := he13.cell (p := ⟨w.heap.size, 0, none⟩) (u := .slice Aq nq dq) (by first | assumption | simp [go_sem] | simp [go_sem, *])
  have z_w13_1 : w6.heap.size < w13.heap.size := by have := he13.size; (try simp at this); omega
  have c_w13_1_0 := he13.cell (p := ⟨w6.heap.size, 0, none⟩) (u := .slice X6 nq Y6) (by first | assumption | simp [go_sem] | simp [go_sem, *])
  go_wp2_with fail
  refine (markDag_o _ _ _ _ _ _ xsq _ (ho6.ext (by (repeat (first | with_reducible exact Ext.refl _ | with_reducible assumption | ((with_reducible refine Ext.setCell ?_ ?_ _); rotate_left; focus (first | omega | (simp <;> omega))) | with_reducible refine Ext.alloc ?_ _ | with_reducible refine Ext.drewN ?_ _ | with_reducible refine Ext.drew ?_ | with_reducible refine Ext.trans ?_ (by with_reducible assumption))))) (by omega)).mono ?_
  rintro e w14 ⟨rfl, hm14, t14⟩
  have s_w14 : w13.heap.size ≤ w14.heap.size := by have := t14.size; (try simp at this); omega
  have z_w14_0 : w.heap.size < w14.heap.size := by have := t14.size; (try simp at this); omega
  have c_w14_0_0 := t14.cell (p := ⟨w.heap.size, 0, none⟩) (u := .slice Aq nq dq) (by first | assumption | simp [go_sem] | simp [go_sem, *]) (by simp only []; omega)
  have z_w14_1 : w6.heap.size < w14.heap.size := by have := t14.size; (try simp at this); omega
  have c_w14_1_0 := t14.cell (p := ⟨w6.heap.size, 0, none⟩) (u := .slice X6 nq Y6) (by first | assumption | simp [go_sem] | simp [go_sem, *]) (by simp only []; omega)
  have ew14 : Ext w w14 := Ext.touched (by (repeat (first | with_reducible exact Ext.refl _ | with_reducible assumption | ((with_reducible refine Ext.setCell ?_ ?_ _); rotate_left; focus (first | omega | (simp <;> omega))) | with_reducible refine Ext.alloc ?_ _ | with_reducible refine Ext.drewN ?_ _ | with_reducible refine Ext.drew ?_ | with_reducible refine Ext.trans ?_ (by with_reducible assumption)))) t14 (by omega)
  have ho5_0_14 := (ho5_0.ext (by (repeat (first | with_reducible exact Ext.refl _ | with_reducible assumption | ((with_reducible refine Ext.setCell ?_ ?_ _); rotate_left; focus (first | omega | (simp <;> omega))) | with_reducible refine Ext.alloc ?_ _ | with_reducible refine Ext.drewN ?_ _ | with_reducible refine Ext.drew ?_ | with_reducible refine Ext.trans ?_ (by with_reducible assumption))))).touch t14 (by omega)
  have ho7_14 := (ho7.ext (by (repeat (first | with_reducible exact Ext.refl _ | with_reducible assumption | ((with_reducible refine Ext.setCell ?_ ?_ _); rotate_left; focus (first | omega | (simp <;> omega))) | with_reducible refine Ext.alloc ?_ _ | with_reducible refine Ext.drewN ?_ _ | with_reducible refine Ext.drew ?_ | with_reducible refine Ext.trans ?_ (by with_reducible assumption))))).touch t14 (by omega)
  have ho8_0_14 := (ho8_0.ext (by (repeat (first | with_reducible exact Ext.refl _ | with_reducible assumption | ((with_reducible refine Ext.setCell ?_ ?_ _); rotate_left; focus (first | omega | (simp <;> omega))) | with_reducible refine Ext.alloc ?_ _ | with_reducible refine Ext.drewN ?_ _ | with_reducible refine Ext.drew ?_ | with_reducible refine Ext.trans ?_ (by with_reducible assumption))))).touch t14 (by omega)
  go_wp2_with fail
  refine (markPebbleMoveS_o _ _ _ _ _ _ (flm xsr) _ (ho7_14.ext (by (repeat (first | with_reducible exact Ext.refl _ | with_reducible assumption | ((with_reducible refine Ext.setCell ?_ ?_ _); rotate_left; focus (first | omega | (simp <;> omega))) | with_reducible refine Ext.alloc ?_ _ | with_reducible refine Ext.drewN ?_ _ | with_reducible refine Ext.drew ?_ | with_reducible refine Ext.trans ?_ (by with_reducible assumption))))) (by omega)).mono ?_
  rintro e w15 ⟨rfl, hm15, t15⟩
  have s_w15 : w14.heap.size ≤ w15.heap.size := by have := t15.size; (try simp at this); omega
  have z_w15_0 : w.heap.size < w15.heap.size := by have := t15.size; (try simp at this); omega
  have c_w15_0_0 := t15.cell (p := ⟨w.heap.size, 0, none⟩) (u := .slice Aq nq dq) (by first | assumption | simp [go_sem] | simp [go_sem, *]) (by simp only []; omega)
  have z_w15_1 : w6.heap.size < w15.heap.size := by have := t15.size; (try simp at this); omega
  have c_w15_1_0 := t15.cell (p := ⟨w6.heap.size, 0, none⟩) (u := .slice X6 nq Y6) (by first | assumption | simp [go_sem] | simp [go_sem, *]) (by simp only []; omega)
  have ew15 : Ext w w15 := Ext.touched (by (repeat (first | with_reducible exact Ext.refl _ | with_reducible assumption | ((with_reducible refine Ext.setCell ?_ ?_ _); rotate_left; focus (first | omega | (simp <;> omega))) | with_reducible refine Ext.alloc ?_ _ | with_reducible refine Ext.drewN ?_ _ | with_reducible refine Ext.drew ?_ | with_reducible refine Ext.trans ?_ (by with_reducible assumption)))) t15 (by omega)
  have ho5_0_14_15 := (ho5_0_14.ext (by (repeat (first | with_reducible exact Ext.refl _ | with_reducible assumption | ((with_reducible refine Ext.setCell ?_ ?_ _); rotate_left; focus (first | omega | (simp <;> omega))) | with_reducible refine Ext.alloc ?_ _ | with_reducible refine Ext.drewN ?_ _ | with_reducible refine Ext.drew ?_ | with_reducible refine Ext.trans ?_ (by with_reducible assumption))))).touch t15 (by omega)
  have hm14_15 := (hm14.ext (by (repeat (first | with_reducible exact Ext.refl _ | with_reducible assumption | ((with_reducible refine Ext.setCell ?_ ?_ _); rotate_left; focus (first | omega | (simp <;> omega))) | with_reducible refine Ext.alloc ?_ _ | with_reducible refine Ext.drewN ?_ _ | with_reducible refine Ext.drew ?_ | with_reducible refine Ext.trans ?_ (by with_reducible assumption))))).touch t15 (by omega)
  have ho8_0_14_15 := (ho8_0_14.ext (by (repeat (first | with_reducible exact Ext.refl _ | with_reducible assumption | ((with_reducible refine Ext.setCell ?_ ?_ _); rotate_left; focus (first | omega | (simp <;> omega))) | with_reducible refine Ext.alloc ?_ _ | with_reducible refine Ext.drewN ?_ _ | with_reducible refine Ext.drew ?_ | with_reducible refine Ext.trans ?_ (by with_reducible assumption))))).touch t15 (by omega)
  go_wp2_with fail
  refine (eqIntS_same _ _ _ _ _ _ F _ ((ho8_0_14_15.ints).ext (by (repeat (first | with_reducible exact Ext.refl _ | with_reducible assumption | ((with_reducible refine Ext.setCell ?_ ?_ _); rotate_left; focus (first | omega | (simp <;> omega))) | with_reducible refine Ext.alloc ?_ _ | with_reducible refine Ext.drewN ?_ _ | with_reducible refine Ext.drew ?_ | with_reducible refine Ext.trans ?_ (by with_reducible assumption))))) ((ho5_0_14_15.ints).ext (by (repeat (first | with_reducible exact Ext.refl _ | with_reducible assumption | ((with_reducible refine Ext.setCell ?_ ?_ _); rotate_left; focus (first | omega | (simp <;> omega))) | with_reducible refine Ext.alloc ?_ _ | with_reducible refine Ext.drewN ?_ _ | with_reducible refine Ext.drew ?_ | with_reducible refine Ext.trans ?_ (by with_reducible assumption)))))).mono ?_
  rintro e w16 ⟨rfl, he16⟩
  have s_w16 : w15.heap.size ≤ w16.heap.size := by have := he16.size; (try simp at this); omega
  have z_w16_0 : w.heap.size < w16.heap.size := by have := he16.size; (try simp at this); omega
  have c_w16_0_0 := he16.cell (p := ⟨w.heap.size, 0, none⟩) (u := .slice Aq nq dq) (by first | assumption | simp [go_sem] | simp [go_sem, *])
  have z_w16_1 : w6.heap.size < w16.heap.size := by have := he16.size; (try simp at this); omega
  have c_w16_1_0 := he16.cell (p := ⟨w6.heap.size, 0, none⟩) (u := .slice X6 nq Y6) (by first | assumption | simp [go_sem] | simp [go_sem, *])
  go_wp2_with fail
  refine (markIntS_o _ _ _ _ _ _ F _ (ho8_0_14_15.ext (by (repeat (first | with_reducible exact Ext.refl _ | with_reducible assumption | ((with_reducible refine Ext.setCell ?_ ?_ _); rotate_left; focus (first | omega | (simp <;> omega))) | with_reducible refine Ext.alloc ?_ _ | with_reducible refine Ext.drewN ?_ _ | with_reducible refine Ext.drew ?_ | with_reducible refine Ext.trans ?_ (by with_reducible assumption))))) (by omega)).mono ?_
  rintro e w17 ⟨rfl, hm17, t17⟩
  have s_w17 : w16.heap.size ≤ w17.heap.size := by have := t17.size; (try simp at this); omega
  have z_w17_0 : w.heap.size < w17.heap.size := by have := t17.size; (try simp at this); omega
  have c_w17_0_0 := t17.cell (p := ⟨w.heap.size, 0, none⟩) (u := .slice Aq nq dq) (by first | assumption | simp [go_sem] | simp [go_sem, *]) (by simp only []; omega)
  have z_w17_1 : w6.heap.size < w17.heap.size := by have := t17.size; (try simp at this); omega
  have c_w17_1_0 := t17.cell (p := ⟨w6.heap.size, 0, none⟩) (u := .slice X6 nq Y6) (by first | assumption | simp [go_sem] | simp [go_sem, *]) (by simp only []; omega)
  have ew17 : Ext w w17 := Ext.touched (by (repeat (first | with_reducible exact Ext.refl _ | with_reducible assumption | ((with_reducible refine Ext.setCell ?_ ?_ _); rotate_left; focus (first | omega | (simp <;> omega))) | with_reducible refine Ext.alloc ?_ _ | with_reducible refine Ext.drewN ?_ _ | with_reducible refine Ext.drew ?_ | with_reducible refine Ext.trans ?_ (by with_reducible assumption)))) t17 (by omega)
  have ho5_0_14_15_17 := (ho5_0_14_15.ext (by (repeat (first | with_reducible exact Ext.refl _ | with_reducible assumption | ((with_reducible refine Ext.setCell ?_ ?_ _); rotate_left; focus (first | omega | (simp <;> omega))) | with_reducible refine Ext.alloc ?_ _ | with_reducible refine Ext.drewN ?_ _ | with_reducible refine Ext.drew ?_ | with_reducible refine Ext.trans ?_ (by with_reducible assumption))))).touch t17 (by omega)
  have hm14_15_17 := (hm14_15.ext (by (repeat (first | with_reducible exact Ext.refl _ | with_reducible assumption | ((with_reducible refine Ext.setCell ?_ ?_ _); rotate_left; focus (first | omega | (simp <;> omega))) | with_reducible refine Ext.alloc ?_ _ | with_reducible refine Ext.drewN ?_ _ | with_reducible refine Ext.drew ?_ | with_reducible refine Ext.trans ?_ (by with_reducible assumption))))).touch t17 (by omega)
  have hm15_17 := (hm15.ext (by (repeat (first | with_reducible exact Ext.refl _ | with_reducible assumption | ((with_reducible refine Ext.setCell ?_ ?_ _); rotate_left; focus (first | omega | (simp <;> omega))) | with_reducible refine Ext.alloc ?_ _ | with_reducible refine Ext.drewN ?_ _ | with_reducible refine Ext.drew ?_ | with_reducible refine Ext.trans ?_ (by with_reducible assumption))))).touch t17 (by omega)
  go_wp2_with fail
  refine (heldIntS_o _ _ _ _ _ _ _ (hm17.ext (by (repeat (first | with_reducible exact Ext.refl _ | with_reducible assumption | ((with_reducible refine Ext.setCell ?_ ?_ _); rotate_left; focus (first | omega | (simp <;> omega))) | with_reducible refine Ext.alloc ?_ _ | with_reducible refine Ext.drewN ?_ _ | with_reducible refine Ext.drew ?_ | with_reducible refine Ext.trans ?_ (by with_reducible assumption))))) (by omega)).mono ?_
  rintro e w18 ⟨rfl, he18⟩
  have s_w18 : w17.heap.size ≤ w18.heap.size := by have := he18.size; (try simp at this); omega
  have z_w18_0 : w.heap.size < w18.heap.size := by have := he18.size; (try simp at this); omega
  have c_w18_0_0 := he18.cell (p := ⟨w.heap.size, 0, none⟩) (u := .slice Aq nq dq) (by first | assumption | simp [go_sem] | simp [go_sem, *])
  have z_w18_1 : w6.heap.size < w18.heap.size := by have := he18.size; (try simp at this); omega
  have c_w18_1_0 := he18.cell (p := ⟨w6.heap.size, 0, none⟩) (u := .slice X6 nq Y6) (by first | assumption | simp [go_sem] | simp [go_sem, *])
  go_wp2_with fail
  refine (toDag_o _ _ _ xsq _ (hq.ext (by (repeat (first | with_reducible exact Ext.refl _ | with_reducible assumption | ((with_reducible refine Ext.setCell ?_ ?_ _); rotate_left; focus (first | omega | (simp <;> omega))) | with_reducible refine Ext.alloc ?_ _ | with_reducible refine Ext.drewN ?_ _ | with_reducible refine Ext.drew ?_ | with_reducible refine Ext.trans ?_ (by with_reducible assumption))))) (by omega)).mono ?_
  rintro e w19 ⟨X19, Y19, rfl, ho19, he19⟩
  have s_w19 : w18.heap.size ≤ w19.heap.size := by have := he19.size; (try simp at this); omega
  have z_w19_0 : w.heap.size < w19.heap.size := by have := he19.size; (try simp at this); omega
  have c_w19_0_0 := he19.cell (p := ⟨w.heap.size, 0, none⟩) (u := .slice Aq nq dq) (by first | assumption | simp [go_sem] | simp [go_sem, *])
  have z_w19_1 : w6.heap.size < w19.heap.size := by have := he19.size; (try simp at this); omega
  have c_w19_1_0 := he19.cell (p := ⟨w6.heap.size, 0, none⟩) (u := .slice X6 nq Y6) (by first | assumption | simp [go_sem] | simp [go_sem, *])
  have ho19 : ObR 28 3 w19 (w18.heap.size) w19.heap.size X19 nq Y19 xsq := by simpa using ho19
  have q_ho19 := rowsTotal_small ho19.small
  go_wp2_with fail
  refine (toPebbleMoveS_o _ _ _ (flm xsr) _ (hr.ext (by (repeat (first | with_reducible exact Ext.refl _ | with_reducible assumption | ((with_reducible refine Ext.setCell ?_ ?_ _); rotate_left; focus (first | omega | (simp <;> omega))) | with_reducible refine Ext.alloc ?_ _ | with_reducible refine Ext.drewN ?_ _ | with_reducible refine Ext.drew ?_ | with_reducible refine Ext.trans ?_ (by with_reducible assumption))))) (by omega)).mono ?_
  rintro e w20 ⟨X20, Y20, rfl, ho20, he20⟩
  have s_w20 : w19.heap.size ≤ w20.heap.size := by have := he20.size; (try simp at this); omega
  have z_w20_0 : w.heap.size < w20.heap.size := by have := he20.size; (try simp at this); omega
  have c_w20_0_0 := he20.cell (p := ⟨w.heap.size, 0, none⟩) (u := .slice Aq nq dq) (by first | assumption | simp [go_sem] | simp [go_sem, *])
  have z_w20_1 : w6.heap.size < w20.heap.size := by have := he20.size; (try simp at this); omega
  have c_w20_1_0 := he20.cell (p := ⟨w6.heap.size, 0, none⟩) (u := .slice X6 nq Y6) (by first | assumption | simp [go_sem] | simp [go_sem, *])
  have ho20 : ObF 49 2 w20 (w19.heap.size) w20.heap.size X20 nr Y20 (flm xsr) := by simpa using ho20
  have q_ho20 := ho20.small
  go_wp2_with fail
  refine (HI.out _ _ _ _ ((ho19.intss).ext (by (repeat (first | with_reducible exact Ext.refl _ | with_reducible assumption | ((with_reducible refine Ext.setCell ?_ ?_ _); rotate_left; focus (first | omega | (simp <;> omega))) | with_reducible refine Ext.alloc ?_ _ | with_reducible refine Ext.drewN ?_ _ | with_reducible refine Ext.drew ?_ | with_reducible refine Ext.trans ?_ (by with_reducible assumption))))) _ _ _ ((ho20.moves).ext (by (repeat (first | with_reducible exact Ext.refl _ | with_reducible assumption | ((with_reducible refine Ext.setCell ?_ ?_ _); rotate_left; focus (first | omega | (simp <;> omega))) | with_reducible refine Ext.alloc ?_ _ | with_reducible refine Ext.drewN ?_ _ | with_reducible refine Ext.drew ?_ | with_reducible refine Ext.trans ?_ (by with_reducible assumption))))) (by omega)).mono ?_
  rintro e w21 ⟨A21_0, n21_0, c21_0, rfl, ho21_0, he21⟩
  have s_w21 : w20.heap.size ≤ w21.heap.size := by have := he21.size; (try simp at this); omega
  have z_w21_0 : w.heap.size < w21.heap.size := by have := he21.size; (try simp at this); omega
  have c_w21_0_0 := he21.cell (p := ⟨w.heap.size, 0, none⟩) (u := .slice Aq nq dq) (by first | assumption | simp [go_sem] | simp [go_sem, *])
  have z_w21_1 : w6.heap.size < w21.heap.size := by have := he21.size; (try simp at this); omega
  have c_w21_1_0 := he21.cell (p := ⟨w6.heap.size, 0, none⟩) (u := .slice X6 nq Y6) (by first | assumption | simp [go_sem] | simp [go_sem, *])
  have ho21_0 : ObI 3 w21 (w20.heap.size) w21.heap.size A21_0 n21_0 c21_0 F := by simpa using ho21_0
  have q_ho21_0 := ho21_0.small
  go_wp2_with fail
  refine (eqIntS_same _ _ _ _ _ _ F _ ((ho21_0.ints).ext (by (repeat (first | with_reducible exact Ext.refl _ | with_reducible assumption | ((with_reducible refine Ext.setCell ?_ ?_ _); rotate_left; focus (first | omega | (simp <;> omega))) | with_reducible refine Ext.alloc ?_ _ | with_reducible refine Ext.drewN ?_ _ | with_reducible refine Ext.drew ?_ | with_reducible refine Ext.trans ?_ (by with_reducible assumption))))) ((ho5_0_14_15_17.ints).ext (by (repeat (first | with_reducible exact Ext.refl _ | with_reducible assumption | ((with_reducible refine Ext.setCell ?_ ?_ _); rotate_left; focus (first | omega | (simp <;> omega))) | with_reducible refine Ext.alloc ?_ _ | with_reducible refine Ext.drewN ?_ _ | with_reducible refine Ext.drew ?_ | with_reducible refine Ext.trans ?_ (by with_reducible assumption)))))).mono ?_
  rintro e w22 ⟨rfl, he22⟩
  have s_w22 : w21.heap.size ≤ w22.heap.size := by have := he22.size; (try simp at this); omega
  have z_w22_0 : w.heap.size < w22.heap.size := by have := he22.size; (try simp at this); omega
  have c_w22_0_0 := he22.cell (p := ⟨w.heap.size, 0, none⟩) (u := .slice Aq nq dq) (by first | assumption | simp [go_sem] | simp [go_sem, *])
  have z_w22_1 : w6.heap.size < w22.heap.size := by have := he22.size; (try simp at this); omega
  have c_w22_1_0 := he22.cell (p := ⟨w6.heap.size, 0, none⟩) (u := .slice X6 nq Y6) (by first | assumption | simp [go_sem] | simp [go_sem, *])
  go_wp2_with fail
  refine (heldIntS_o _ _ _ _ _ _ _ (hm17.ext (by (repeat (first | with_reducible exact Ext.refl _ | with_reducible assumption | ((with_reducible refine Ext.setCell ?_ ?_ _); rotate_left; focus (first | omega | (simp <;> omega))) | with_reducible refine Ext.alloc ?_ _ | with_reducible refine Ext.drewN ?_ _ | with_reducible refine Ext.drew ?_ | with_reducible refine Ext.trans ?_ (by with_reducible assumption))))) (by omega)).mono ?_
  rintro e w23 ⟨rfl, he23⟩
  have s_w23 : w22.heap.size ≤ w23.heap.size := by have := he23.size; (try simp at this); omega
  have z_w23_0 : w.heap.size < w23.heap.size := by have := he23.size; (try simp at this); omega
  have c_w23_0_0 := he23.cell (p := ⟨w.heap.size, 0, none⟩) (u := .slice Aq nq dq) (by first | assumption | simp [go_sem] | simp [go_sem, *])
  have z_w23_1 : w6.heap.size < w23.heap.size := by have := he23.size; (try simp at this); omega
  have c_w23_1_0 := he23.cell (p := ⟨w6.heap.size, 0, none⟩) (u := .slice X6 nq Y6) (by first | assumption | simp [go_sem] | simp [go_sem, *])
  go_wp2_with fail
  go_ret
  exact ⟨rfl, by (repeat (first | with_reducible exact Ext.refl _ | with_reducible assumption | ((with_reducible refine Ext.setCell ?_ ?_ _); rotate_left; focus (first | omega | (simp <;> omega))) | with_reducible refine Ext.alloc ?_ _ | with_reducible refine Ext.drewN ?_ _ | with_reducible refine Ext.drew ?_ | with_reducible refine Ext.trans ?_ (by with_reducible assumption)))⟩
end Go.Proofs.Ytialpmmdomhobaa
