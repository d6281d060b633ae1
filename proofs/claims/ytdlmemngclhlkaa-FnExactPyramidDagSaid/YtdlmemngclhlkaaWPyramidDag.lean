/-
  PROVED: the walk of the law FnExactPyramidDag: it returns true for every input.
-/
import Derived.Test.YtdlmemngclhlkaaC13
namespace Go.Proofs.Ytdlmemngclhlkaa
open Go.RowKit
set_option maxHeartbeats 2000000 in
theorem PyramidDag_law (k : Int) (w : World) :
    Calls Try.prog 12 #[.int .i64 k] w fun e w' => e = .returned (.bool true) ∧ Ext w w' := by
  have hs := fun w => spec_PyramidDag_o k w
  have hi := fun w => impl_PyramidDag_o k w
  generalize (if within k 1 4 then pyramid k.toNat else []) = F at hs hi
  generalize within k 1 4 = ok at hs hi
  have HS := hide hs
  have HI := hide hi
  clear hs hi
  go_enter Try.func12, Try.ntmps12
  go_wp2_with fail
  refine (HS.out _ ).mono ?_
  rintro e w1 ⟨A1_0, n1_0, c1_0, rfl, ho1_0, he1⟩
  have s_w1 : w.heap.size ≤ w1.heap.size := by have := he1.size; (try simp at this); omega
  have ho1_0 : ObR 27 3 w1 (w.heap.size) w1.heap.size A1_0 n1_0 c1_0 F := by simpa using ho1_0
  have q_ho1_0 := rowsTotal_small ho1_0.small
  go_wp2_with fail
  refine (HI.out _ ).mono ?_
  rintro e w2 ⟨A2_0, n2_0, c2_0, rfl, ho2_0, he2⟩
  have s_w2 : w1.heap.size ≤ w2.heap.size := by have := he2.size; (try simp at this); omega
  have z_w2_0 : w1.heap.size < w2.heap.size := by have := he2.size; (try simp at this); omega
  have c_w2_0_0 := he2.cell (p := ⟨w1.heap.size, 0, none⟩) (u := .slice A1_0 n1_0 c1_0) (by first | assumption | simp [go_sem] | simp [go_sem, *])
  have ho2_0 : ObR 27 3 w2 (w1.heap.size + 1) w2.heap.size A2_0 n2_0 c2_0 F := by simpa using ho2_0
  have q_ho2_0 := rowsTotal_small ho2_0.small
  go_wp2_with fail
  refine (eqDag_same _ _ _ _ _ _ F _ ((ho2_0.intss).ext (by (repeat (first | exact Ext.refl _ | with_reducible assumption | refine Ext.setCell ?_ (by first | omega | (simp <;> omega)) _ | refine Ext.drewN ?_ _ | refine Ext.drew ?_ | refine Ext.alloc ?_ _ | refine Ext.trans ?_ (by with_reducible assumption))))) ((ho1_0.intss).ext (by (repeat (first | exact Ext.refl _ | with_reducible assumption | refine Ext.setCell ?_ (by first | omega | (simp <;> omega)) _ | refine Ext.drewN ?_ _ | refine Ext.drew ?_ | refine Ext.alloc ?_ _ | refine Ext.trans ?_ (by with_reducible assumption)))))).mono ?_
  rintro e w3 ⟨rfl, he3⟩
  have s_w3 : w2.heap.size ≤ w3.heap.size := by have := he3.size; (try simp at this); omega
  have z_w3_0 : w1.heap.size < w3.heap.size := by have := he3.size; (try simp at this); omega
  have c_w3_0_0 := he3.cell (p := ⟨w1.heap.size, 0, none⟩) (u := .slice A1_0 n1_0 c1_0) (by first | assumption | simp [go_sem] | simp [go_sem, *])
  have z_w3_1 : w2.heap.size < w3.heap.size := by have := he3.size; (try simp at this); omega
  have c_w3_1_0 := he3.cell (p := ⟨w2.heap.size, 0, none⟩) (u := .slice A2_0 n2_0 c2_0) (by first | assumption | simp [go_sem] | simp [go_sem, *])
  go_wp2_with fail
  refine (markDag_o _ _ _ _ _ _ F _ (ho2_0.ext (by (repeat (first | exact Ext.refl _ | with_reducible assumption | refine Ext.setCell ?_ (by first | omega | (simp <;> omega)) _ | refine Ext.drewN ?_ _ | refine Ext.drew ?_ | refine Ext.alloc ?_ _ | refine Ext.trans ?_ (by with_reducible assumption))))) (by omega)).mono ?_
  rintro e w4 ⟨rfl, hm4, t4⟩
  have s_w4 : w3.heap.size ≤ w4.heap.size := by have := t4.size; (try simp at this); omega
  have z_w4_0 : w1.heap.size < w4.heap.size := by have := t4.size; (try simp at this); omega
  have c_w4_0_0 := t4.cell (p := ⟨w1.heap.size, 0, none⟩) (u := .slice A1_0 n1_0 c1_0) (by first | assumption | simp [go_sem] | simp [go_sem, *]) (by simp only []; omega)
  have z_w4_1 : w2.heap.size < w4.heap.size := by have := t4.size; (try simp at this); omega
  have c_w4_1_0 := t4.cell (p := ⟨w2.heap.size, 0, none⟩) (u := .slice A2_0 n2_0 c2_0) (by first | assumption | simp [go_sem] | simp [go_sem, *]) (by simp only []; omega)
  have ew4 : Ext w w4 := Ext.touched (by (repeat (first | exact Ext.refl _ | with_reducible assumption | refine Ext.setCell ?_ (by first | omega | (simp <;> omega)) _ | refine Ext.drewN ?_ _ | refine Ext.drew ?_ | refine Ext.alloc ?_ _ | refine Ext.trans ?_ (by with_reducible assumption)))) t4 (by omega)
  have ho1_0_4 := (ho1_0.ext (by (repeat (first | exact Ext.refl _ | with_reducible assumption | refine Ext.setCell ?_ (by first | omega | (simp <;> omega)) _ | refine Ext.drewN ?_ _ | refine Ext.drew ?_ | refine Ext.alloc ?_ _ | refine Ext.trans ?_ (by with_reducible assumption))))).touch t4 (by omega)
  go_wp2_with fail
  refine (heldDag_o _ _ _ _ _ _ F _ (hm4.ext (by (repeat (first | exact Ext.refl _ | with_reducible assumption | refine Ext.setCell ?_ (by first | omega | (simp <;> omega)) _ | refine Ext.drewN ?_ _ | refine Ext.drew ?_ | refine Ext.alloc ?_ _ | refine Ext.trans ?_ (by with_reducible assumption))))) (by omega)).mono ?_
  rintro e w5 ⟨rfl, he5⟩
  have s_w5 : w4.heap.size ≤ w5.heap.size := by have := he5.size; (try simp at this); omega
  have z_w5_0 : w1.heap.size < w5.heap.size := by have := he5.size; (try simp at this); omega
  have c_w5_0_0 := he5.cell (p := ⟨w1.heap.size, 0, none⟩) (u := .slice A1_0 n1_0 c1_0) (by first | assumption | simp [go_sem] | simp [go_sem, *])
  have z_w5_1 : w2.heap.size < w5.heap.size := by have := he5.size; (try simp at this); omega
  have c_w5_1_0 := he5.cell (p := ⟨w2.heap.size, 0, none⟩) (u := .slice A2_0 n2_0 c2_0) (by first | assumption | simp [go_sem] | simp [go_sem, *])
  go_wp2_with fail
  refine (HI.out _ ).mono ?_
  rintro e w6 ⟨A6_0, n6_0, c6_0, rfl, ho6_0, he6⟩
  have s_w6 : w5.heap.size ≤ w6.heap.size := by have := he6.size; (try simp at this); omega
  have z_w6_0 : w1.heap.size < w6.heap.size := by have := he6.size; (try simp at this); omega
  have c_w6_0_0 := he6.cell (p := ⟨w1.heap.size, 0, none⟩) (u := .slice A1_0 n1_0 c1_0) (by first | assumption | simp [go_sem] | simp [go_sem, *])
  have z_w6_1 : w2.heap.size < w6.heap.size := by have := he6.size; (try simp at this); omega
  have c_w6_1_0 := he6.cell (p := ⟨w2.heap.size, 0, none⟩) (u := .slice A2_0 n2_0 c2_0) (by first | assumption | simp [go_sem] | simp [go_sem, *])
  have ho6_0 : ObR 27 3 w6 (w5.heap.size) w6.heap.size A6_0 n6_0 c6_0 F := by simpa using ho6_0
  have q_ho6_0 := rowsTotal_small ho6_0.small
  go_wp2_with fail
  refine (eqDag_same _ _ _ _ _ _ F _ ((ho6_0.intss).ext (by (repeat (first | exact Ext.refl _ | with_reducible assumption | refine Ext.setCell ?_ (by first | omega | (simp <;> omega)) _ | refine Ext.drewN ?_ _ | refine Ext.drew ?_ | refine Ext.alloc ?_ _ | refine Ext.trans ?_ (by with_reducible assumption))))) ((ho1_0_4.intss).ext (by (repeat (first | exact Ext.refl _ | with_reducible assumption | refine Ext.setCell ?_ (by first | omega | (simp <;> omega)) _ | refine Ext.drewN ?_ _ | refine Ext.drew ?_ | refine Ext.alloc ?_ _ | refine Ext.trans ?_ (by with_reducible assumption)))))).mono ?_
  rintro e w7 ⟨rfl, he7⟩
  have s_w7 : w6.heap.size ≤ w7.heap.size := by have := he7.size; (try simp at this); omega
  have z_w7_0 : w1.heap.size < w7.heap.size := by have := he7.size; (try simp at this); omega
  have c_w7_0_0 := he7.cell (p := ⟨w1.heap.size, 0, none⟩) (u := .slice A1_0 n1_0 c1_0) (by first | assumption | simp [go_sem] | simp [go_sem, *])
  have z_w7_1 : w2.heap.size < w7.heap.size := by have := he7.size; (try simp at this); omega
  have c_w7_1_0 := he7.cell (p := ⟨w2.heap.size, 0, none⟩) (u := .slice A2_0 n2_0 c2_0) (by first | assumption | simp [go_sem] | simp [go_sem, *])
  have z_w7_2 : w6.heap.size < w7.heap.size := by have := he7.size; (try simp at this); omega
  have c_w7_2_0 := he7.cell (p := ⟨w6.heap.size, 0, none⟩) (u := .slice A6_0 n6_0 c6_0) (by first | assumption | simp [go_sem] | simp [go_sem, *])
  go_wp2_with fail
  refine (heldDag_o _ _ _ _ _ _ F _ (hm4.ext (by (repeat (first | exact Ext.refl _ | with_reducible assumption | refine Ext.setCell ?_ (by first | omega | (simp <;> omega)) _ | refine Ext.drewN ?_ _ | refine Ext.drew ?_ | refine Ext.alloc ?_ _ | refine Ext.trans ?_ (by with_reducible assumption))))) (by omega)).mono ?_
  rintro e w8 ⟨rfl, he8⟩
  have s_w8 : w7.heap.size ≤ w8.heap.size := by have := he8.size; (try simp at this); omega
  have z_w8_0 : w1.heap.size < w8.heap.size := by have := he8.size; (try simp at this); omega
  have c_w8_0_0 := he8.cell (p := ⟨w1.heap.size, 0, none⟩) (u := .slice A1_0 n1_0 c1_0) (by first | assumption | simp [go_sem] | simp [go_sem, *])
  have z_w8_1 : w2.heap.size < w8.heap.size := by have := he8.size; (try simp at this); omega
  have c_w8_1_0 := he8.cell (p := ⟨w2.heap.size, 0, none⟩) (u := .slice A2_0 n2_0 c2_0) (by first | assumption | simp [go_sem] | simp [go_sem, *])
  have z_w8_2 : w6.heap.size < w8.heap.size := by have := he8.size; (try simp at this); omega
  have c_w8_2_0 := he8.cell (p := ⟨w6.heap.size, 0, none⟩) (u := .slice A6_0 n6_0 c6_0) (by first | assumption | simp [go_sem] | simp [go_sem, *])
  go_wp2_with fail
  go_ret
  exact ⟨rfl, by (repeat (first | exact Ext.refl _ | with_reducible assumption | refine Ext.setCell ?_ (by first | omega | (simp <;> omega)) _ | refine Ext.drewN ?_ _ | refine Ext.drew ?_ | refine Ext.alloc ?_ _ | refine Ext.trans ?_ (by with_reducible assumption)))⟩
end Go.Proofs.Ytdlmemngclhlkaa
