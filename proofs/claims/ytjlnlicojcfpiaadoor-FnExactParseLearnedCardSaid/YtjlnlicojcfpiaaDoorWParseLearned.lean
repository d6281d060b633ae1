/-
  PROVED: the walk of the law FnExactParseLearned: it returns true for every input.
-/
import Derived.Test.YtjlnlicojcfpiaaDoorT16
import Derived.Test.YtjlnlicojcfpiaaDoorC32
namespace Go.Proofs.YtjlnlicojcfpiaaDoor
set_option linter.unusedSimpArgs false
set_option linter.unusedVariables false
open Go.RowKit
set_option maxRecDepth 100000 in
set_option maxHeartbeats 8000000 in
theorem ParseLearned_law (Af : Option Addr) (nf df : Nat) (bf : Int) (xsf : List (List Int)) (s : List UInt8) (w : World) (hf : Intss w Af nf xsf) (ht : Env w) :
    Calls Tryd.prog 3 #[.agg #[.int .i64 bf, .slice Af nf df], .string ⟨s.toArray⟩] w fun e w' => e = .returned (.bool true) ∧ Ext w w' := by
  have hbf := hf.bound
  by_cases hsl : s.length ≤ 1048576
  rotate_left
  · have hsg : (1048576 : Int) < (s.length : Int) := by omega
    go_enter Tryd.func3, Tryd.ntmps3
    go_wp2_with fail
    go_ret
    exact ⟨rfl, by (repeat (first | with_reducible exact Ext.refl _ | with_reducible assumption | ((with_reducible refine Ext.setCell ?_ ?_ _); rotate_left; focus (first | omega | (simp <;> omega))) | with_reducible refine Ext.alloc ?_ _ | with_reducible refine Ext.drewN ?_ _ | with_reducible refine Ext.drew ?_ | with_reducible refine Ext.trans ?_ (by with_reducible assumption)))⟩
  have hsg : ¬ (1048576 : Int) < (s.length : Int) := by omega
  have HTb := hide (fun W (E : Ext w W) => ht.ext E)
  clear ht
  have hs := fun w A n c (h : Intss w A n xsf) => spec_ParseLearned_o bf A n c xsf s w h hsl
  have hi := fun w A n c (h : Intss w A n xsf) (t : Env w) => impl_ParseLearned_o bf A n c xsf s w h hsl t
  generalize ((plOf bf xsf s).getD []) = F at hs hi
  generalize (plOf bf xsf s).isSome = ok at hs hi
  clear hsl
  have HS := hide hs
  have HI := hide hi
  clear hs hi
  by_cases hsf : rowsSize xsf ≤ 1048576
  rotate_left
  · skip
    go_enter Tryd.func3, Tryd.ntmps3
    go_wp2_with fail
    refine (szCnf_no _ _ _ _ bf xsf _ (hf.ext (by (repeat (first | with_reducible exact Ext.refl _ | with_reducible assumption | ((with_reducible refine Ext.setCell ?_ ?_ _); rotate_left; focus (first | omega | (simp <;> omega))) | with_reducible refine Ext.alloc ?_ _ | with_reducible refine Ext.drewN ?_ _ | with_reducible refine Ext.drew ?_ | with_reducible refine Ext.trans ?_ (by with_reducible assumption))))) (by omega) (by omega)).mono ?_
    rintro e w1 ⟨rfl, he1⟩
    have s_w1 : w.heap.size ≤ w1.heap.size := by have := he1.size; (try simp at this); omega
    have z_w1_0 : w.heap.size < w1.heap.size := by have := he1.size; (try simp at this); omega
    have c_w1_0_0 := he1.cell (p := ⟨w.heap.size, 0, none⟩) (u := .int .i64 bf) (by first | assumption | simp [go_sem] | simp [go_sem, *])
    have c_w1_0_1 := he1.cell (p := ⟨w.heap.size, 1, none⟩) (u := .slice Af nf df) (by first | assumption | simp [go_sem] | simp [go_sem, *])
    go_wp2_with fail
    go_ret
    exact ⟨rfl, by (repeat (first | with_reducible exact Ext.refl _ | with_reducible assumption | ((with_reducible refine Ext.setCell ?_ ?_ _); rotate_left; focus (first | omega | (simp <;> omega))) | with_reducible refine Ext.alloc ?_ _ | with_reducible refine Ext.drewN ?_ _ | with_reducible refine Ext.drew ?_ | with_reducible refine Ext.trans ?_ (by with_reducible assumption)))⟩
  go_enter Tryd.func3, Tryd.ntmps3
  go_wp2_with fail
  refine (szCnf_fit _ _ _ _ bf xsf _ (hf.ext (by (repeat (first | with_reducible exact Ext.refl _ | with_reducible assumption | ((with_reducible refine Ext.setCell ?_ ?_ _); rotate_left; focus (first | omega | (simp <;> omega))) | with_reducible refine Ext.alloc ?_ _ | with_reducible refine Ext.drewN ?_ _ | with_reducible refine Ext.drew ?_ | with_reducible refine Ext.trans ?_ (by with_reducible assumption))))) (by omega) (by omega)).mono ?_
  rintro e w1 ⟨rfl, he1⟩
  have s_w1 : w.heap.size ≤ w1.heap.size := by have := he1.size; (try simp at this); omega
  have z_w1_0 : w.heap.size < w1.heap.size := by have := he1.size; (try simp at this); omega
  have c_w1_0_0 := he1.cell (p := ⟨w.heap.size, 0, none⟩) (u := .int .i64 bf) (by first | assumption | simp [go_sem] | simp [go_sem, *])
  have c_w1_0_1 := he1.cell (p := ⟨w.heap.size, 1, none⟩) (u := .slice Af nf df) (by first | assumption | simp [go_sem] | simp [go_sem, *])
  go_wp2_with fail
  have hnf := rowsSize_len hf.len (t := 1048576) (by omega)
  refine (toCnf_o _ _ _ bf xsf _ (hf.ext (by (repeat (first | with_reducible exact Ext.refl _ | with_reducible assumption | ((with_reducible refine Ext.setCell ?_ ?_ _); rotate_left; focus (first | omega | (simp <;> omega))) | with_reducible refine Ext.alloc ?_ _ | with_reducible refine Ext.drewN ?_ _ | with_reducible refine Ext.drew ?_ | with_reducible refine Ext.trans ?_ (by with_reducible assumption))))) (by omega)).mono ?_
  rintro e w2 ⟨X2, Y2, rfl, ho2, he2⟩
  have s_w2 : w1.heap.size ≤ w2.heap.size := by have := he2.size; (try simp at this); omega
  have z_w2_0 : w.heap.size < w2.heap.size := by have := he2.size; (try simp at this); omega
  have c_w2_0_0 := he2.cell (p := ⟨w.heap.size, 0, none⟩) (u := .int .i64 bf) (by first | assumption | simp [go_sem] | simp [go_sem, *])
  have c_w2_0_1 := he2.cell (p := ⟨w.heap.size, 1, none⟩) (u := .slice Af nf df) (by first | assumption | simp [go_sem] | simp [go_sem, *])
  have ho2 : ObR 38 3 w2 (w1.heap.size) w2.heap.size X2 nf Y2 xsf := by simpa using ho2
  have q_ho2 := rowsTotal_small ho2.small
  go_wp2_with fail
  refine (HS.out _ _ _ _ ((ho2.intss).ext (by (repeat (first | with_reducible exact Ext.refl _ | with_reducible assumption | ((with_reducible refine Ext.setCell ?_ ?_ _); rotate_left; focus (first | omega | (simp <;> omega))) | with_reducible refine Ext.alloc ?_ _ | with_reducible refine Ext.drewN ?_ _ | with_reducible refine Ext.drew ?_ | with_reducible refine Ext.trans ?_ (by with_reducible assumption)))))).mono ?_
  rintro e w3 ⟨A3_0, n3_0, c3_0, rfl, ho3_0, he3⟩
  have s_w3 : w2.heap.size ≤ w3.heap.size := by have := he3.size; (try simp at this); omega
  have z_w3_0 : w.heap.size < w3.heap.size := by have := he3.size; (try simp at this); omega
  have c_w3_0_0 := he3.cell (p := ⟨w.heap.size, 0, none⟩) (u := .int .i64 bf) (by first | assumption | simp [go_sem] | simp [go_sem, *])
  have c_w3_0_1 := he3.cell (p := ⟨w.heap.size, 1, none⟩) (u := .slice Af nf df) (by first | assumption | simp [go_sem] | simp [go_sem, *])
  have ho3_0 : ObR 38 3 w3 (w2.heap.size) w3.heap.size A3_0 n3_0 c3_0 F := by simpa using ho3_0
  have q_ho3_0 := rowsTotal_small ho3_0.small
  go_wp2_with fail
  refine (toCnf_o _ _ _ bf xsf _ (hf.ext (by (repeat (first | with_reducible exact Ext.refl _ | with_reducible assumption | ((with_reducible refine Ext.setCell ?_ ?_ _); rotate_left; focus (first | omega | (simp <;> omega))) | with_reducible refine Ext.alloc ?_ _ | with_reducible refine Ext.drewN ?_ _ | with_reducible refine Ext.drew ?_ | with_reducible refine Ext.trans ?_ (by with_reducible assumption))))) (by omega)).mono ?_
  rintro e w4 ⟨X4, Y4, rfl, ho4, he4⟩
  have s_w4 : w3.heap.size ≤ w4.heap.size := by have := he4.size; (try simp at this); omega
  have z_w4_0 : w.heap.size < w4.heap.size := by have := he4.size; (try simp at this); omega
  have c_w4_0_0 := he4.cell (p := ⟨w.heap.size, 0, none⟩) (u := .int .i64 bf) (by first | assumption | simp [go_sem] | simp [go_sem, *])
  have c_w4_0_1 := he4.cell (p := ⟨w.heap.size, 1, none⟩) (u := .slice Af nf df) (by first | assumption | simp [go_sem] | simp [go_sem, *])
  have ho4 : ObR 38 3 w4 (w3.heap.size) w4.heap.size X4 nf Y4 xsf := by simpa using ho4
  have q_ho4 := rowsTotal_small ho4.small
  go_wp2_with fail
  refine (HI.out _ _ _ _ ((ho4.intss).ext (by (repeat (first | with_reducible exact Ext.refl _ | with_reducible assumption | ((with_reducible refine Ext.setCell ?_ ?_ _); rotate_left; focus (first | omega | (simp <;> omega))) | with_reducible refine Ext.alloc ?_ _ | with_reducible refine Ext.drewN ?_ _ | with_reducible refine Ext.drew ?_ | with_reducible refine Ext.trans ?_ (by with_reducible assumption))))) (HTb.out _ (by (repeat (first | with_reducible exact Ext.refl _ | with_reducible assumption | ((with_reducible refine Ext.setCell ?_ ?_ _); rotate_left; focus (first | omega | (simp <;> omega))) | with_reducible refine Ext.alloc ?_ _ | with_reducible refine Ext.drewN ?_ _ | with_reducible refine Ext.drew ?_ | with_reducible refine Ext.trans ?_ (by with_reducible assumption)))))).mono ?_
  rintro e w5 ⟨A5_0, n5_0, c5_0, rfl, ho5_0, he5⟩
  have s_w5 : w4.heap.size ≤ w5.heap.size := by have := he5.size; (try simp at this); omega
  have z_w5_0 : w.heap.size < w5.heap.size := by have := he5.size; (try simp at this); omega
  have c_w5_0_0 := he5.cell (p := ⟨w.heap.size, 0, none⟩) (u := .int .i64 bf) (by first | assumption | simp [go_sem] | simp [go_sem, *])
  have c_w5_0_1 := he5.cell (p := ⟨w.heap.size, 1, none⟩) (u := .slice Af nf df) (by first | assumption | simp [go_sem] | simp [go_sem, *])
  have z_w5_1 : w4.heap.size < w5.heap.size := by have := he5.size; (try simp at this); omega
  have c_w5_1_0 := he5.cell (p := ⟨w4.heap.size, 0, none⟩) (u := .int .i64 bf) (by first | assumption | simp [go_sem] | simp [go_sem, *])
  have c_w5_1_1 := he5.cell (p := ⟨w4.heap.size, 1, none⟩) (u := .slice X4 nf Y4) (by first | assumption | simp [go_sem] | simp [go_sem, *])
  have ho5_0 : ObR 38 3 w5 (w4.heap.size + 1) w5.heap.size A5_0 n5_0 c5_0 F := by simpa using ho5_0
  have q_ho5_0 := rowsTotal_small ho5_0.small
  go_wp2_with fail
  refine (eqIntSS_same _ _ _ _ _ _ F _ ((ho5_0.intss).ext (by (repeat (first | with_reducible exact Ext.refl _ | with_reducible assumption | ((with_reducible refine Ext.setCell ?_ ?_ _); rotate_left; focus (first | omega | (simp <;> omega))) | with_reducible refine Ext.alloc ?_ _ | with_reducible refine Ext.drewN ?_ _ | with_reducible refine Ext.drew ?_ | with_reducible refine Ext.trans ?_ (by with_reducible assumption))))) ((ho3_0.intss).ext (by (repeat (first | with_reducible exact Ext.refl _ | with_reducible assumption | ((with_reducible refine Ext.setCell ?_ ?_ _); rotate_left; focus (first | omega | (simp <;> omega))) | with_reducible refine Ext.alloc ?_ _ | with_reducible refine Ext.drewN ?_ _ | with_reducible refine Ext.drew ?_ | with_reducible refine Ext.trans ?_ (by with_reducible assumption)))))).mono ?_
  rintro e w6 ⟨rfl, he6⟩
  have s_w6 : w5.heap.size ≤ w6.heap.size := by have := he6.size; (try simp at this); omega
  have z_w6_0 : w.heap.size < w6.heap.size := by have := he6.size; (try simp at this); omega
  have c_w6_0_0 := he6.cell (p := ⟨w.heap.size, 0, none⟩) (u := .int .i64 bf) (by first | assumption | simp [go_sem] | simp [go_sem, *])
  have c_w6_0_1 := he6.cell (p := ⟨w.heap.size, 1, none⟩) (u := .slice Af nf df) (by first | assumption | simp [go_sem] | simp [go_sem, *])
  have z_w6_1 : w4.heap.size < w6.heap.size := by have := he6.size; (try simp at this); omega
  have c_w6_1_0 := he6.cell (p := ⟨w4.heap.size, 0, none⟩) (u := .int .i64 bf) (by first | assumption | simp [go_sem] | simp [go_sem, *])
  have c_w6_1_1 := he6.cell (p := ⟨w4.heap.size, 1, none⟩) (u := .slice X4 nf Y4) (by first | assumption | simp [go_sem] | simp [go_sem, *])
  go_wp2_with fail
  have eg6 : Ext w6 w6.drew := (Ext.refl _).drew
  go_region_held3 (fun w' => w'.cell? ⟨w.heap.size, 0, none⟩ = some (.int .i64 bf) ∧ w'.cell? ⟨w.heap.size, 1, none⟩ = some (.slice Af nf df) ∧ w'.cell? ⟨w4.heap.size, 0, none⟩ = some (.int .i64 bf) ∧ w'.cell? ⟨w4.heap.size, 1, none⟩ = some (.slice X4 nf Y4) ∧ Ext w6 w') (simp [go_sem, *]) (first | (go_at_call 6; (with_reducible refine (toCnf_o _ _ _ bf xsf _ (hf.ext (by (repeat (first | with_reducible exact Ext.refl _ | with_reducible assumption | ((with_reducible refine Ext.setCell ?_ ?_ _); rotate_left; focus (first | omega | (simp <;> omega))) | with_reducible refine Ext.alloc ?_ _ | with_reducible refine Ext.drewN ?_ _ | with_reducible refine Ext.drew ?_ | with_reducible refine Ext.trans ?_ (by with_reducible assumption))))) (by omega)).mono ?_); rintro e w7 ⟨X7, Y7, rfl, ho7, he7⟩; have c_w7_0_0 := he7.cell (p := ⟨w.heap.size, 0, none⟩) (u := .int .i64 bf) (by simp [go_sem, *]); have c_w7_0_1 := he7.cell (p := ⟨w.heap.size, 1, none⟩) (u := .slice Af nf df) (by simp [go_sem, *]); have c_w7_1_0 := he7.cell (p := ⟨w4.heap.size, 0, none⟩) (u := .int .i64 bf) (by simp [go_sem, *]); have c_w7_1_1 := he7.cell (p := ⟨w4.heap.size, 1, none⟩) (u := .slice X4 nf Y4) (by simp [go_sem, *]); have ew7 : Ext w6 w7 := Ext.trans (by (repeat (first | with_reducible exact Ext.refl _ | with_reducible assumption | ((with_reducible refine Ext.setCell ?_ ?_ _); rotate_left; focus (first | omega | (simp <;> omega))) | with_reducible refine Ext.alloc ?_ _ | with_reducible refine Ext.drewN ?_ _ | with_reducible refine Ext.drew ?_ | with_reducible refine Ext.trans ?_ (by with_reducible assumption)))) he7; have s_w7 : w6.heap.size ≤ w7.heap.size := (by have := ew7.size; (try simp at this); omega)) | (go_at_call 9; (with_reducible refine (eqCnf_same _ _ _ _ _ _ _ xsf _ ((ho4.intss).ext (by (repeat (first | with_reducible exact Ext.refl _ | with_reducible assumption | ((with_reducible refine Ext.setCell ?_ ?_ _); rotate_left; focus (first | omega | (simp <;> omega))) | with_reducible refine Ext.alloc ?_ _ | with_reducible refine Ext.drewN ?_ _ | with_reducible refine Ext.drew ?_ | with_reducible refine Ext.trans ?_ (by with_reducible assumption))))) ((ho7.intss).ext (by (repeat (first | with_reducible exact Ext.refl _ | with_reducible assumption | ((with_reducible refine Ext.setCell ?_ ?_ _); rotate_left; focus (first | omega | (simp <;> omega))) | with_reducible refine Ext.alloc ?_ _ | with_reducible refine Ext.drewN ?_ _ | with_reducible refine Ext.drew ?_ | with_reducible refine Ext.trans ?_ (by with_reducible assumption)))))).mono ?_); rintro e w8 ⟨rfl, he8⟩; have c_w8_0_0 := he8.cell (p := ⟨w.heap.size, 0, none⟩) (u := .int .i64 bf) (by simp [go_sem, *]); have c_w8_0_1 := he8.cell (p := ⟨w.heap.size, 1, none⟩) (u := .slice Af nf df) (by simp [go_sem, *]); have c_w8_1_0 := he8.cell (p := ⟨w4.heap.size, 0, none⟩) (u := .int .i64 bf) (by simp [go_sem, *]); have c_w8_1_1 := he8.cell (p := ⟨w4.heap.size, 1, none⟩) (u := .slice X4 nf Y4) (by simp [go_sem, *]); have ew8 : Ext w6 w8 := Ext.trans (by (repeat (first | with_reducible exact Ext.refl _ | with_reducible assumption | ((with_reducible refine Ext.setCell ?_ ?_ _); rotate_left; focus (first | omega | (simp <;> omega))) | with_reducible refine Ext.alloc ?_ _ | with_reducible refine Ext.drewN ?_ _ | with_reducible refine Ext.drew ?_ | with_reducible refine Ext.trans ?_ (by with_reducible assumption)))) he8; have s_w8 : w6.heap.size ≤ w8.heap.size := (by have := ew8.size; (try simp at this); omega)))
  have z_w8_0 : w.heap.size < w8.heap.size := by have := ew8.size; omega
  have z_w8_1 : w4.heap.size < w8.heap.size := by have := ew8.size; omega
  go_wp2_with fail
  refine (markCnf_o _ _ _ _ _ _ _ xsf _ (ho4.ext (by (repeat (first | with_reducible exact Ext.refl _ | with_reducible assumption | ((with_reducible refine Ext.setCell ?_ ?_ _); rotate_left; focus (first | omega | (simp <;> omega))) | with_reducible refine Ext.alloc ?_ _ | with_reducible refine Ext.drewN ?_ _ | with_reducible refine Ext.drew ?_ | with_reducible refine Ext.trans ?_ (by with_reducible assumption))))) (by omega)).mono ?_
  rintro e w9 ⟨rfl, hm9, t9⟩
  have s_w9 : w8.heap.size ≤ w9.heap.size := by have := t9.size; (try simp at this); omega
  have z_w9_0 : w.heap.size < w9.heap.size := by have := t9.size; (try simp at this); omega
  have c_w9_0_0 := t9.cell (p := ⟨w.heap.size, 0, none⟩) (u := .int .i64 bf) (by first | assumption | simp [go_sem] | simp [go_sem, *]) (by simp only []; omega)
  have c_w9_0_1 := t9.cell (p := ⟨w.heap.size, 1, none⟩) (u := .slice Af nf df) (by first | assumption | simp [go_sem] | simp [go_sem, *]) (by simp only []; omega)
  have z_w9_1 : w4.heap.size < w9.heap.size := by have := t9.size; (try simp at this); omega
  have c_w9_1_0 := t9.cell (p := ⟨w4.heap.size, 0, none⟩) (u := .int .i64 bf) (by first | assumption | simp [go_sem] | simp [go_sem, *]) (by simp only []; omega)
  have c_w9_1_1 := t9.cell (p := ⟨w4.heap.size, 1, none⟩) (u := .slice X4 nf Y4) (by first | assumption | simp [go_sem] | simp [go_sem, *]) (by simp only []; omega)
  have ew9 : Ext w w9 := Ext.touched (by (repeat (first | with_reducible exact Ext.refl _ | with_reducible assumption | ((with_reducible refine Ext.setCell ?_ ?_ _); rotate_left; focus (first | omega | (simp <;> omega))) | with_reducible refine Ext.alloc ?_ _ | with_reducible refine Ext.drewN ?_ _ | with_reducible refine Ext.drew ?_ | with_reducible refine Ext.trans ?_ (by with_reducible assumption)))) t9 (by omega)
  have ho3_0_9 := (ho3_0.ext (by (repeat (first | with_reducible exact Ext.refl _ | with_reducible assumption | ((with_reducible refine Ext.setCell ?_ ?_ _); rotate_left; focus (first | omega | (simp <;> omega))) | with_reducible refine Ext.alloc ?_ _ | with_reducible refine Ext.drewN ?_ _ | with_reducible refine Ext.drew ?_ | with_reducible refine Ext.trans ?_ (by with_reducible assumption))))).touch t9 (by omega)
  have ho5_0_9 := (ho5_0.ext (by (repeat (first | with_reducible exact Ext.refl _ | with_reducible assumption | ((with_reducible refine Ext.setCell ?_ ?_ _); rotate_left; focus (first | omega | (simp <;> omega))) | with_reducible refine Ext.alloc ?_ _ | with_reducible refine Ext.drewN ?_ _ | with_reducible refine Ext.drew ?_ | with_reducible refine Ext.trans ?_ (by with_reducible assumption))))).touch t9 (by omega)
  go_wp2_with fail
  refine (eqIntSS_same _ _ _ _ _ _ F _ ((ho5_0_9.intss).ext (by (repeat (first | with_reducible exact Ext.refl _ | with_reducible assumption | ((with_reducible refine Ext.setCell ?_ ?_ _); rotate_left; focus (first | omega | (simp <;> omega))) | with_reducible refine Ext.alloc ?_ _ | with_reducible refine Ext.drewN ?_ _ | with_reducible refine Ext.drew ?_ | with_reducible refine Ext.trans ?_ (by with_reducible assumption))))) ((ho3_0_9.intss).ext (by (repeat (first | with_reducible exact Ext.refl _ | with_reducible assumption | ((with_reducible refine Ext.setCell ?_ ?_ _); rotate_left; focus (first | omega | (simp <;> omega))) | with_reducible refine Ext.alloc ?_ _ | with_reducible refine Ext.drewN ?_ _ | with_reducible refine Ext.drew ?_ | with_reducible refine Ext.trans ?_ (by with_reducible assumption)))))).mono ?_
  rintro e w10 ⟨rfl, he10⟩
  have s_w10 : w9.heap.size ≤ w10.heap.size := by have := he10.size; (try simp at this); omega
  have z_w10_0 : w.heap.size < w10.heap.size := by have := he10.size; (try simp at this); omega
  have c_w10_0_0 := he10.cell (p := ⟨w.heap.size, 0, none⟩) (u := .int .i64 bf) (by first | assumption | simp [go_sem] | simp [go_sem, *])
  have c_w10_0_1 := he10.cell (p := ⟨w.heap.size, 1, none⟩) (u := .slice Af nf df) (by first | assumption | simp [go_sem] | simp [go_sem, *])
  have z_w10_1 : w4.heap.size < w10.heap.size := by have := he10.size; (try simp at this); omega
  have c_w10_1_0 := he10.cell (p := ⟨w4.heap.size, 0, none⟩) (u := .int .i64 bf) (by first | assumption | simp [go_sem] | simp [go_sem, *])
  have c_w10_1_1 := he10.cell (p := ⟨w4.heap.size, 1, none⟩) (u := .slice X4 nf Y4) (by first | assumption | simp [go_sem] | simp [go_sem, *])
  go_wp2_with fail
  refine (markIntSS_o _ _ _ _ _ _ F _ (ho5_0_9.ext (by (repeat (first | with_reducible exact Ext.refl _ | with_reducible assumption | ((with_reducible refine Ext.setCell ?_ ?_ _); rotate_left; focus (first | omega | (simp <;> omega))) | with_reducible refine Ext.alloc ?_ _ | with_reducible refine Ext.drewN ?_ _ | with_reducible refine Ext.drew ?_ | with_reducible refine Ext.trans ?_ (by with_reducible assumption))))) (by omega)).mono ?_
  rintro e w11 ⟨rfl, hm11, t11⟩
  have s_w11 : w10.heap.size ≤ w11.heap.size := by have := t11.size; (try simp at this); omega
  have z_w11_0 : w.heap.size < w11.heap.size := by have := t11.size; (try simp at this); omega
  have c_w11_0_0 := t11.cell (p := ⟨w.heap.size, 0, none⟩) (u := .int .i64 bf) (by first | assumption | simp [go_sem] | simp [go_sem, *]) (by simp only []; omega)
  have c_w11_0_1 := t11.cell (p := ⟨w.heap.size, 1, none⟩) (u := .slice Af nf df) (by first | assumption | simp [go_sem] | simp [go_sem, *]) (by simp only []; omega)
  have z_w11_1 : w4.heap.size < w11.heap.size := by have := t11.size; (try simp at this); omega
  have c_w11_1_0 := t11.cell (p := ⟨w4.heap.size, 0, none⟩) (u := .int .i64 bf) (by first | assumption | simp [go_sem] | simp [go_sem, *]) (by simp only []; omega)
  have c_w11_1_1 := t11.cell (p := ⟨w4.heap.size, 1, none⟩) (u := .slice X4 nf Y4) (by first | assumption | simp [go_sem] | simp [go_sem, *]) (by simp only []; omega)
  have ew11 : Ext w w11 := Ext.touched (by (repeat (first | with_reducible exact Ext.refl _ | with_reducible assumption | ((with_reducible refine Ext.setCell ?_ ?_ _); rotate_left; focus (first | omega | (simp <;> omega))) | with_reducible refine Ext.alloc ?_ _ | with_reducible refine Ext.drewN ?_ _ | with_reducible refine Ext.drew ?_ | with_reducible refine Ext.trans ?_ (by with_reducible assumption)))) t11 (by omega)
  have ho3_0_9_11 := (ho3_0_9.ext (by (repeat (first | with_reducible exact Ext.refl _ | with_reducible assumption | ((with_reducible refine Ext.setCell ?_ ?_ _); rotate_left; focus (first | omega | (simp <;> omega))) | with_reducible refine Ext.alloc ?_ _ | with_reducible refine Ext.drewN ?_ _ | with_reducible refine Ext.drew ?_ | with_reducible refine Ext.trans ?_ (by with_reducible assumption))))).touch t11 (by omega)
  have hm9_11 := (hm9.ext (by (repeat (first | with_reducible exact Ext.refl _ | with_reducible assumption | ((with_reducible refine Ext.setCell ?_ ?_ _); rotate_left; focus (first | omega | (simp <;> omega))) | with_reducible refine Ext.alloc ?_ _ | with_reducible refine Ext.drewN ?_ _ | with_reducible refine Ext.drew ?_ | with_reducible refine Ext.trans ?_ (by with_reducible assumption))))).touch t11 (by omega)
  go_wp2_with fail
  refine (heldIntSS_o _ _ _ _ _ _ F _ (hm11.ext (by (repeat (first | with_reducible exact Ext.refl _ | with_reducible assumption | ((with_reducible refine Ext.setCell ?_ ?_ _); rotate_left; focus (first | omega | (simp <;> omega))) | with_reducible refine Ext.alloc ?_ _ | with_reducible refine Ext.drewN ?_ _ | with_reducible refine Ext.drew ?_ | with_reducible refine Ext.trans ?_ (by with_reducible assumption))))) (by omega)).mono ?_
  rintro e w12 ⟨rfl, he12⟩
  have s_w12 : w11.heap.size ≤ w12.heap.size := by have := he12.size; (try simp at this); omega
  have z_w12_0 : w.heap.size < w12.heap.size := by have := he12.size; (try simp at this); omega
  have c_w12_0_0 := he12.cell (p := ⟨w.heap.size, 0, none⟩) (u := .int .i64 bf) (by first | assumption | simp [go_sem] | simp [go_sem, *])
  have c_w12_0_1 := he12.cell (p := ⟨w.heap.size, 1, none⟩) (u := .slice Af nf df) (by first | assumption | simp [go_sem] | simp [go_sem, *])
  have z_w12_1 : w4.heap.size < w12.heap.size := by have := he12.size; (try simp at this); omega
  have c_w12_1_0 := he12.cell (p := ⟨w4.heap.size, 0, none⟩) (u := .int .i64 bf) (by first | assumption | simp [go_sem] | simp [go_sem, *])
  have c_w12_1_1 := he12.cell (p := ⟨w4.heap.size, 1, none⟩) (u := .slice X4 nf Y4) (by first | assumption | simp [go_sem] | simp [go_sem, *])
  go_wp2_with fail
  refine (toCnf_o _ _ _ bf xsf _ (hf.ext (by (repeat (first | with_reducible exact Ext.refl _ | with_reducible assumption | ((with_reducible refine Ext.setCell ?_ ?_ _); rotate_left; focus (first | omega | (simp <;> omega))) | with_reducible refine Ext.alloc ?_ _ | with_reducible refine Ext.drewN ?_ _ | with_reducible refine Ext.drew ?_ | with_reducible refine Ext.trans ?_ (by with_reducible assumption))))) (by omega)).mono ?_
  rintro e w13 ⟨X13, Y13, rfl, ho13, he13⟩
  have s_w13 : w12.heap.size ≤ w13.heap.size := by have := he13.size; (try simp at this); omega
  have z_w13_0 : w.heap.size < w13.heap.size := by have := he13.size; (try simp at this); omega
  have c_w13_0_0 := he13.cell (p := ⟨w.heap.size, 0, none⟩) (u := .int .i64 bf) (by first | assumption | simp [go_sem] | simp [go_sem, *])
  have c_w13_0_1 := he13.cell (p := ⟨w.heap.size, 1, none⟩) (u := .slice Af nf df) (by first | assumption | simp [go_sem] | simp [go_sem, *])
  have z_w13_1 : w4.heap.size < w13.heap.size := by have := he13.size; (try simp at this); omega
  have c_w13_1_0 := he13.cell (p := ⟨w4.heap.size, 0, none⟩) (u := .int .i64 bf) (by first | assumption | simp [go_sem] | simp [go_sem, *])
  have c_w13_1_1 := he13.cell (p := ⟨w4.heap.size, 1, none⟩) (u := .slice X4 nf Y4) (by first | assumption | simp [go_sem] | simp [go_sem, *])
  have ho13 : ObR 38 3 w13 (w12.heap.size) w13.heap.size X13 nf Y13 xsf := by simpa using ho13
  have q_ho13 := rowsTotal_small ho13.small
  go_wp2_with fail
  refine (HI.out _ _ _ _ ((ho13.intss).ext (by (repeat (first | with_reducible exact Ext.refl _ | with_reducible assumption | ((with_reducible refine Ext.setCell ?_ ?_ _); rotate_left; focus (first | omega | (simp <;> omega))) | with_reducible refine Ext.alloc ?_ _ | with_reducible refine Ext.drewN ?_ _ | with_reducible refine Ext.drew ?_ | with_reducible refine Ext.trans ?_ (by with_reducible assumption))))) (HTb.out _ (by (repeat (first | with_reducible exact Ext.refl _ | with_reducible assumption | ((with_reducible refine Ext.setCell ?_ ?_ _); rotate_left; focus (first | omega | (simp <;> omega))) | with_reducible refine Ext.alloc ?_ _ | with_reducible refine Ext.drewN ?_ _ | with_reducible refine Ext.drew ?_ | with_reducible refine Ext.trans ?_ (by with_reducible assumption)))))).mono ?_
  rintro e w14 ⟨A14_0, n14_0, c14_0, rfl, ho14_0, he14⟩
  have s_w14 : w13.heap.size ≤ w14.heap.size := by have := he14.size; (try simp at this); omega
  have z_w14_0 : w.heap.size < w14.heap.size := by have := he14.size; (try simp at this); omega
  have c_w14_0_0 := he14.cell (p := ⟨w.heap.size, 0, none⟩) (u := .int .i64 bf) (by first | assumption | simp [go_sem] | simp [go_sem, *])
  have c_w14_0_1 := he14.cell (p := ⟨w.heap.size, 1, none⟩) (u := .slice Af nf df) (by first | assumption | simp [go_sem] | simp [go_sem, *])
  have z_w14_1 : w4.heap.size < w14.heap.size := by have := he14.size; (try simp at this); omega
  have c_w14_1_0 := he14.cell (p := ⟨w4.heap.size, 0, none⟩) (u := .int .i64 bf) (by first | assumption | simp [go_sem] | simp [go_sem, *])
  have c_w14_1_1 := he14.cell (p := ⟨w4.heap.size, 1, none⟩) (u := .slice X4 nf Y4) (by first | assumption | simp [go_sem] | simp [go_sem, *])
  have ho14_0 : ObR 38 3 w14 (w13.heap.size) w14.heap.size A14_0 n14_0 c14_0 F := by simpa using ho14_0
  have q_ho14_0 := rowsTotal_small ho14_0.small
  go_wp2_with fail
  refine (eqIntSS_same _ _ _ _ _ _ F _ ((ho14_0.intss).ext (by (repeat (first | with_reducible exact Ext.refl _ | with_reducible assumption | ((with_reducible refine Ext.setCell ?_ ?_ _); rotate_left; focus (first | omega | (simp <;> omega))) | with_reducible refine Ext.alloc ?_ _ | with_reducible refine Ext.drewN ?_ _ | with_reducible refine Ext.drew ?_ | with_reducible refine Ext.trans ?_ (by with_reducible assumption))))) ((ho3_0_9_11.intss).ext (by (repeat (first | with_reducible exact Ext.refl _ | with_reducible assumption | ((with_reducible refine Ext.setCell ?_ ?_ _); rotate_left; focus (first | omega | (simp <;> omega))) | with_reducible refine Ext.alloc ?_ _ | with_reducible refine Ext.drewN ?_ _ | with_reducible refine Ext.drew ?_ | with_reducible refine Ext.trans ?_ (by with_reducible assumption)))))).mono ?_
  rintro e w15 ⟨rfl, he15⟩
  have s_w15 : w14.heap.size ≤ w15.heap.size := by have := he15.size; (try simp at this); omega
  have z_w15_0 : w.heap.size < w15.heap.size := by have := he15.size; (try simp at this); omega
  have c_w15_0_0 := he15.cell (p := ⟨w.heap.size, 0, none⟩) (u := .int .i64 bf) (by first | assumption | simp [go_sem] | simp [go_sem, *])
  have c_w15_0_1 := he15.cell (p := ⟨w.heap.size, 1, none⟩) (u := .slice Af nf df) (by first | assumption | simp [go_sem] | simp [go_sem, *])
  have z_w15_1 : w4.heap.size < w15.heap.size := by have := he15.size; (try simp at this); omega
  have c_w15_1_0 := he15.cell (p := ⟨w4.heap.size, 0, none⟩) (u := .int .i64 bf) (by first | assumption | simp [go_sem] | simp [go_sem, *])
  have c_w15_1_1 := he15.cell (p := ⟨w4.heap.size, 1, none⟩) (u := .slice X4 nf Y4) (by first | assumption | simp [go_sem] | simp [go_sem, *])
  go_wp2_with fail
  refine (heldIntSS_o _ _ _ _ _ _ F _ (hm11.ext (by (repeat (first | with_reducible exact Ext.refl _ | with_reducible assumption | ((with_reducible refine Ext.setCell ?_ ?_ _); rotate_left; focus (first | omega | (simp <;> omega))) | with_reducible refine Ext.alloc ?_ _ | with_reducible refine Ext.drewN ?_ _ | with_reducible refine Ext.drew ?_ | with_reducible refine Ext.trans ?_ (by with_reducible assumption))))) (by omega)).mono ?_
  rintro e w16 ⟨rfl, he16⟩
  have s_w16 : w15.heap.size ≤ w16.heap.size := by have := he16.size; (try simp at this); omega
  have z_w16_0 : w.heap.size < w16.heap.size := by have := he16.size; (try simp at this); omega
  have c_w16_0_0 := he16.cell (p := ⟨w.heap.size, 0, none⟩) (u := .int .i64 bf) (by first | assumption | simp [go_sem] | simp [go_sem, *])
  have c_w16_0_1 := he16.cell (p := ⟨w.heap.size, 1, none⟩) (u := .slice Af nf df) (by first | assumption | simp [go_sem] | simp [go_sem, *])
  have z_w16_1 : w4.heap.size < w16.heap.size := by have := he16.size; (try simp at this); omega
  have c_w16_1_0 := he16.cell (p := ⟨w4.heap.size, 0, none⟩) (u := .int .i64 bf) (by first | assumption | simp [go_sem] | simp [go_sem, *])
  have c_w16_1_1 := he16.cell (p := ⟨w4.heap.size, 1, none⟩) (u := .slice X4 nf Y4) (by first | assumption | simp [go_sem] | simp [go_sem, *])
  go_wp2_with fail
  go_ret
  exact ⟨rfl, by (repeat (first | with_reducible exact Ext.refl _ | with_reducible assumption | ((with_reducible refine Ext.setCell ?_ ?_ _); rotate_left; focus (first | omega | (simp <;> omega))) | with_reducible refine Ext.alloc ?_ _ | with_reducible refine Ext.drewN ?_ _ | with_reducible refine Ext.drew ?_ | with_reducible refine Ext.trans ?_ (by with_reducible assumption)))⟩
end Go.Proofs.YtjlnlicojcfpiaaDoor
