/-
  PROVED: the walk of the law FnExactForgetVar: it returns true for every input.
-/
import Derived.Test.YtebklankehkmhaaF15
import Derived.Test.YtebklankehkmhaaC32
namespace Go.Proofs.Ytebklankehkmhaa
set_option linter.unusedSimpArgs false
set_option linter.unusedVariables false
open Go.RowKit
set_option maxRecDepth 100000 in
set_option maxHeartbeats 8000000 in
theorem ForgetVar_law (Af : Option Addr) (nf df : Nat) (bf : Int) (xsf : List (List Int)) (wd : Int) (Al : Option Addr) (nl dl : Nat) (xsl : List (List Int)) (Aq : Option Addr) (nq dq : Nat) (xsq : List Int) (t : Int) (w : World) (hf : Intss w Af nf xsf) (hl : Intss w Al nl xsl) (hq : Ints w Aq nq xsq) :
    Calls Try.prog 12 #[.agg #[.int .i64 bf, .slice Af nf df], .int .i64 wd, .slice Al nl dl, .slice Aq nq dq, .int .i64 t] w fun e w' => e = .returned (.bool true) ∧ Ext w w' := by
  have hbf := hf.bound
  have hbl := hl.bound
  have hbq := hq.bound
  have hs := fun w A n c (h : Intss w A n xsf) B m d (k : IntssC w B m xsl) X y z (j : Ints w X y xsq) => spec_ForgetVar_o bf wd A n c xsf B m d xsl X y z xsq t w h k j
  have hi := fun w A n c (h : Intss w A n xsf) B m d (k : IntssC w B m xsl) X y z (j : Ints w X y xsq) => impl_ForgetVar_o bf wd A n c xsf B m d xsl X y z xsq t w h k j
  generalize (if fgOk bf wd xsf xsl xsq t then woutV xsq t else []) = F at hs hi
  generalize fgOk bf wd xsf xsl xsq t = ok at hs hi
  have HS := hide hs
  have HI := hide hi
  clear hs hi
  by_cases hsq : nq ≤ 1048576
  rotate_left
  · go_enter Try.func12, Try.ntmps12
    go_wp2
    go_ret
    exact ⟨rfl, by (repeat (first | with_reducible exact Ext.refl _ | with_reducible assumption | ((with_reducible refine Ext.setCell ?_ ?_ _); rotate_left; focus (first | omega | (simp <;> omega))) | with_reducible refine Ext.alloc ?_ _ | with_reducible refine Ext.drewN ?_ _ | with_reducible refine Ext.drew ?_ | with_reducible refine Ext.trans ?_ (by with_reducible assumption)))⟩
  by_cases hsf : rowsSize xsf ≤ 1048576
  rotate_left
  · skip
    go_enter Try.func12, Try.ntmps12
    go_wp2_with fail
    refine (szCnf_no _ _ _ _ bf xsf _ (hf.ext (by (repeat (first | with_reducible exact Ext.refl _ | with_reducible assumption | ((with_reducible refine Ext.setCell ?_ ?_ _); rotate_left; focus (first | omega | (simp <;> omega))) | with_reducible refine Ext.alloc ?_ _ | with_reducible refine Ext.drewN ?_ _ | with_reducible refine Ext.drew ?_ | with_reducible refine Ext.trans ?_ (by with_reducible assumption))))) (by omega) (by omega)).mono ?_
    rintro e w1 ⟨rfl, he1⟩
    have s_w1 : w.heap.size ≤ w1.heap.size := by have := he1.size; (try simp at this); omega
    have z_w1_0 : w.heap.size < w1.heap.size := by have := he1.size; (try simp at this); omega
    have c_w1_0_0 := he1.cell (p := ⟨w.heap.size, 0, none⟩) (u := .int .i64 bf) (by first | assumption | simp [go_sem] | simp [go_sem, *])
    have c_w1_0_1 := he1.cell (p := ⟨w.heap.size, 1, none⟩) (u := .slice Af nf df) (by first | assumption | simp [go_sem] | simp [go_sem, *])
    go_wp2_with fail
    go_ret
    exact ⟨rfl, by (repeat (first | with_reducible exact Ext.refl _ | with_reducible assumption | ((with_reducible refine Ext.setCell ?_ ?_ _); rotate_left; focus (first | omega | (simp <;> omega))) | with_reducible refine Ext.alloc ?_ _ | with_reducible refine Ext.drewN ?_ _ | with_reducible refine Ext.drew ?_ | with_reducible refine Ext.trans ?_ (by with_reducible assumption)))⟩
  by_cases hsl : rowsSize xsf + rowsSize xsl ≤ 1048576
  rotate_left
  · skip
    go_enter Try.func12, Try.ntmps12
    go_wp2_with fail
    refine (szCnf_fit _ _ _ _ bf xsf _ (hf.ext (by (repeat (first | with_reducible exact Ext.refl _ | with_reducible assumption | ((with_reducible refine Ext.setCell ?_ ?_ _); rotate_left; focus (first | omega | (simp <;> omega))) | with_reducible refine Ext.alloc ?_ _ | with_reducible refine Ext.drewN ?_ _ | with_reducible refine Ext.drew ?_ | with_reducible refine Ext.trans ?_ (by with_reducible assumption))))) (by omega) (by omega)).mono ?_
    rintro e w1 ⟨rfl, he1⟩
    have s_w1 : w.heap.size ≤ w1.heap.size := by have := he1.size; (try simp at this); omega
    have z_w1_0 : w.heap.size < w1.heap.size := by have := he1.size; (try simp at this); omega
    have c_w1_0_0 := he1.cell (p := ⟨w.heap.size, 0, none⟩) (u := .int .i64 bf) (by first | assumption | simp [go_sem] | simp [go_sem, *])
    have c_w1_0_1 := he1.cell (p := ⟨w.heap.size, 1, none⟩) (u := .slice Af nf df) (by first | assumption | simp [go_sem] | simp [go_sem, *])
    go_wp2_with fail
    refine (szIntSS_no _ _ _ _ xsl _ (hl.ext (by (repeat (first | with_reducible exact Ext.refl _ | with_reducible assumption | ((with_reducible refine Ext.setCell ?_ ?_ _); rotate_left; focus (first | omega | (simp <;> omega))) | with_reducible refine Ext.alloc ?_ _ | with_reducible refine Ext.drewN ?_ _ | with_reducible refine Ext.drew ?_ | with_reducible refine Ext.trans ?_ (by with_reducible assumption))))) (by omega) (by omega)).mono ?_
    rintro e w2 ⟨rfl, he2⟩
    have s_w2 : w1.heap.size ≤ w2.heap.size := by have := he2.size; (try simp at this); omega
    have z_w2_0 : w.heap.size < w2.heap.size := by have := he2.size; (try simp at this); omega
    have c_w2_0_0 := he2.cell (p := ⟨w.heap.size, 0, none⟩) (u := .int .i64 bf) (by first | assumption | simp [go_sem] | simp [go_sem, *])
    have c_w2_0_1 := he2.cell (p := ⟨w.heap.size, 1, none⟩) (u := .slice Af nf df) (by first | assumption | simp [go_sem] | simp [go_sem, *])
    go_wp2_with fail
    go_ret
    exact ⟨rfl, by (repeat (first | with_reducible exact Ext.refl _ | with_reducible assumption | ((with_reducible refine Ext.setCell ?_ ?_ _); rotate_left; focus (first | omega | (simp <;> omega))) | with_reducible refine Ext.alloc ?_ _ | with_reducible refine Ext.drewN ?_ _ | with_reducible refine Ext.drew ?_ | with_reducible refine Ext.trans ?_ (by with_reducible assumption)))⟩
  go_enter Try.func12, Try.ntmps12
  go_wp2_with fail
  refine (szCnf_fit _ _ _ _ bf xsf _ (hf.ext (by (repeat (first | with_reducible exact Ext.refl _ | with_reducible assumption | ((with_reducible refine Ext.setCell ?_ ?_ _); rotate_left; focus (first | omega | (simp <;> omega))) | with_reducible refine Ext.alloc ?_ _ | with_reducible refine Ext.drewN ?_ _ | with_reducible refine Ext.drew ?_ | with_reducible refine Ext.trans ?_ (by with_reducible assumption))))) (by omega) (by omega)).mono ?_
  rintro e w1 ⟨rfl, he1⟩
  have s_w1 : w.heap.size ≤ w1.heap.size := by have := he1.size; (try simp at this); omega
  have z_w1_0 : w.heap.size < w1.heap.size := by have := he1.size; (try simp at this); omega
  have c_w1_0_0 := he1.cell (p := ⟨w.heap.size, 0, none⟩) (u := .int .i64 bf) (by first | assumption | simp [go_sem] | simp [go_sem, *])
  have c_w1_0_1 := he1.cell (p := ⟨w.heap.size, 1, none⟩) (u := .slice Af nf df) (by first | assumption | simp [go_sem] | simp [go_sem, *])
  go_wp2_with fail
  refine (szIntSS_fit _ _ _ _ xsl _ (hl.ext (by (repeat (first | with_reducible exact Ext.refl _ | with_reducible assumption | ((with_reducible refine Ext.setCell ?_ ?_ _); rotate_left; focus (first | omega | (simp <;> omega))) | with_reducible refine Ext.alloc ?_ _ | with_reducible refine Ext.drewN ?_ _ | with_reducible refine Ext.drew ?_ | with_reducible refine Ext.trans ?_ (by with_reducible assumption))))) (by omega) (by omega)).mono ?_
  rintro e w2 ⟨rfl, he2⟩
  have s_w2 : w1.heap.size ≤ w2.heap.size := by have := he2.size; (try simp at this); omega
  have z_w2_0 : w.heap.size < w2.heap.size := by have := he2.size; (try simp at this); omega
  have c_w2_0_0 := he2.cell (p := ⟨w.heap.size, 0, none⟩) (u := .int .i64 bf) (by first | assumption | simp [go_sem] | simp [go_sem, *])
  have c_w2_0_1 := he2.cell (p := ⟨w.heap.size, 1, none⟩) (u := .slice Af nf df) (by first | assumption | simp [go_sem] | simp [go_sem, *])
  go_wp2_with fail
  have hnf := rowsSize_len hf.len (t := 1048576) (by omega)
  have hnl := rowsSize_len hl.len (t := 1048576) (by omega)
  refine (toCnf_o _ _ _ bf xsf _ (hf.ext (by (repeat (first | with_reducible exact Ext.refl _ | with_reducible assumption | ((with_reducible refine Ext.setCell ?_ ?_ _); rotate_left; focus (first | omega | (simp <;> omega))) | with_reducible refine Ext.alloc ?_ _ | with_reducible refine Ext.drewN ?_ _ | with_reducible refine Ext.drew ?_ | with_reducible refine Ext.trans ?_ (by with_reducible assumption))))) (by omega)).mono ?_
  rintro e w3 ⟨X3, Y3, rfl, ho3, he3⟩
  have s_w3 : w2.heap.size ≤ w3.heap.size := by have := he3.size; (try simp at this); omega
  have z_w3_0 : w.heap.size < w3.heap.size := by have := he3.size; (try simp at this); omega
  have c_w3_0_0 := he3.cell (p := ⟨w.heap.size, 0, none⟩) (u := .int .i64 bf) (by first | assumption | simp [go_sem] | simp [go_sem, *])
  have c_w3_0_1 := he3.cell (p := ⟨w.heap.size, 1, none⟩) (u := .slice Af nf df) (by first | assumption | simp [go_sem] | simp [go_sem, *])
  have ho3 : ObR 22 3 w3 (w2.heap.size) w3.heap.size X3 nf Y3 xsf := by simpa using ho3
  have q_ho3 := rowsTotal_small ho3.small
  go_wp2_with fail
  refine (toIntSS_o _ _ _ xsl _ (hl.ext (by (repeat (first | with_reducible exact Ext.refl _ | with_reducible assumption | ((with_reducible refine Ext.setCell ?_ ?_ _); rotate_left; focus (first | omega | (simp <;> omega))) | with_reducible refine Ext.alloc ?_ _ | with_reducible refine Ext.drewN ?_ _ | with_reducible refine Ext.drew ?_ | with_reducible refine Ext.trans ?_ (by with_reducible assumption))))) (by omega)).mono ?_
  rintro e w4 ⟨X4, Y4, rfl, ho4, he4⟩
  have s_w4 : w3.heap.size ≤ w4.heap.size := by have := he4.size; (try simp at this); omega
  have z_w4_0 : w.heap.size < w4.heap.size := by have := he4.size; (try simp at this); omega
  have c_w4_0_0 := he4.cell (p := ⟨w.heap.size, 0, none⟩) (u := .int .i64 bf) (by first | assumption | simp [go_sem] | simp [go_sem, *])
  have c_w4_0_1 := he4.cell (p := ⟨w.heap.size, 1, none⟩) (u := .slice Af nf df) (by first | assumption | simp [go_sem] | simp [go_sem, *])
  have ho4 : ObR 22 3 w4 (w3.heap.size) w4.heap.size X4 nl Y4 xsl := by simpa using ho4
  have q_ho4 := rowsTotal_small ho4.small
  go_wp2_with fail
  refine (toIntS_o _ _ _ xsq _ (hq.ext (by (repeat (first | with_reducible exact Ext.refl _ | with_reducible assumption | ((with_reducible refine Ext.setCell ?_ ?_ _); rotate_left; focus (first | omega | (simp <;> omega))) | with_reducible refine Ext.alloc ?_ _ | with_reducible refine Ext.drewN ?_ _ | with_reducible refine Ext.drew ?_ | with_reducible refine Ext.trans ?_ (by with_reducible assumption))))) (by omega)).mono ?_
  rintro e w5 ⟨X5, Y5, rfl, ho5, he5⟩
  have s_w5 : w4.heap.size ≤ w5.heap.size := by have := he5.size; (try simp at this); omega
  have z_w5_0 : w.heap.size < w5.heap.size := by have := he5.size; (try simp at this); omega
  have c_w5_0_0 := he5.cell (p := ⟨w.heap.size, 0, none⟩) (u := .int .i64 bf) (by first | assumption | simp [go_sem] | simp [go_sem, *])
  have c_w5_0_1 := he5.cell (p := ⟨w.heap.size, 1, none⟩) (u := .slice Af nf df) (by first | assumption | simp [go_sem] | simp [go_sem, *])
  have ho5 : ObI 3 w5 (w4.heap.size) w5.heap.size X5 nq Y5 xsq := by simpa using ho5
  have q_ho5 := ho5.small
  go_wp2_with fail
  refine (HS.out _ _ _ _ ((ho3.intss).ext (by (repeat (first | with_reducible exact Ext.refl _ | with_reducible assumption | ((with_reducible refine Ext.setCell ?_ ?_ _); rotate_left; focus (first | omega | (simp <;> omega))) | with_reducible refine Ext.alloc ?_ _ | with_reducible refine Ext.drewN ?_ _ | with_reducible refine Ext.drew ?_ | with_reducible refine Ext.trans ?_ (by with_reducible assumption))))) _ _ _ ((ho4.intssC).ext (by (repeat (first | with_reducible exact Ext.refl _ | with_reducible assumption | ((with_reducible refine Ext.setCell ?_ ?_ _); rotate_left; focus (first | omega | (simp <;> omega))) | with_reducible refine Ext.alloc ?_ _ | with_reducible refine Ext.drewN ?_ _ | with_reducible refine Ext.drew ?_ | with_reducible refine Ext.trans ?_ (by with_reducible assumption))))) _ _ _ ((ho5.ints).ext (by (repeat (first | with_reducible exact Ext.refl _ | with_reducible assumption | ((with_reducible refine Ext.setCell ?_ ?_ _); rotate_left; focus (first | omega | (simp <;> omega))) | with_reducible refine Ext.alloc ?_ _ | with_reducible refine Ext.drewN ?_ _ | with_reducible refine Ext.drew ?_ | with_reducible refine Ext.trans ?_ (by with_reducible assumption)))))).mono ?_
  rintro e w6 ⟨A6_0, n6_0, c6_0, rfl, ho6_0, he6⟩
  have s_w6 : w5.heap.size ≤ w6.heap.size := by have := he6.size; (try simp at this); omega
  have z_w6_0 : w.heap.size < w6.heap.size := by have := he6.size; (try simp at this); omega
  have c_w6_0_0 := he6.cell (p := ⟨w.heap.size, 0, none⟩) (u := .int .i64 bf) (by first | assumption | simp [go_sem] | simp [go_sem, *])
  have c_w6_0_1 := he6.cell (p := ⟨w.heap.size, 1, none⟩) (u := .slice Af nf df) (by first | assumption | simp [go_sem] | simp [go_sem, *])
  have ho6_0 : ObI 3 w6 (w5.heap.size) w6.heap.size A6_0 n6_0 c6_0 F := by simpa using ho6_0
  have q_ho6_0 := ho6_0.small
  go_wp2_with fail
  refine (toCnf_o _ _ _ bf xsf _ (hf.ext (by (repeat (first | with_reducible exact Ext.refl _ | with_reducible assumption | ((with_reducible refine Ext.setCell ?_ ?_ _); rotate_left; focus (first | omega | (simp <;> omega))) | with_reducible refine Ext.alloc ?_ _ | with_reducible refine Ext.drewN ?_ _ | with_reducible refine Ext.drew ?_ | with_reducible refine Ext.trans ?_ (by with_reducible assumption))))) (by omega)).mono ?_
  rintro e w7 ⟨X7, Y7, rfl, ho7, he7⟩
  have s_w7 : w6.heap.size ≤ w7.heap.size := by have := he7.size; (try simp at this); omega
  have z_w7_0 : w.heap.size < w7.heap.size := by have := he7.size; (try simp at this); omega
  have c_w7_0_0 := he7.cell (p := ⟨w.heap.size, 0, none⟩) (u := .int .i64 bf) (by first | assumption | simp [go_sem] | simp [go_sem, *])
  have c_w7_0_1 := he7.cell (p := ⟨w.heap.size, 1, none⟩) (u := .slice Af nf df) (by first | assumption | simp [go_sem] | simp [go_sem, *])
  have ho7 : ObR 22 3 w7 (w6.heap.size) w7.heap.size X7 nf Y7 xsf := by simpa using ho7
  have q_ho7 := rowsTotal_small ho7.small
  go_wp2_with fail
  refine (toIntSS_o _ _ _ xsl _ (hl.ext (by (repeat (first | with_reducible exact Ext.refl _ | with_reducible assumption | ((with_reducible refine Ext.setCell ?_ ?_ _); rotate_left; focus (first | omega | (simp <;> omega))) | with_reducible refine Ext.alloc ?_ _ | with_reducible refine Ext.drewN ?_ _ | with_reducible refine Ext.drew ?_ | with_reducible refine Ext.trans ?_ (by with_reducible assumption))))) (by omega)).mono ?_
  rintro e w8 ⟨X8, Y8, rfl, ho8, he8⟩
  have s_w8 : w7.heap.size ≤ w8.heap.size := by have := he8.size; (try simp at this); omega
  have z_w8_0 : w.heap.size < w8.heap.size := by have := he8.size; (try simp at this); omega
  have c_w8_0_0 := he8.cell (p := ⟨w.heap.size, 0, none⟩) (u := .int .i64 bf) (by first | assumption | simp [go_sem] | simp [go_sem, *])
  have c_w8_0_1 := he8.cell (p := ⟨w.heap.size, 1, none⟩) (u := .slice Af nf df) (by first | assumption | simp [go_sem] | simp [go_sem, *])
  have z_w8_1 : w7.heap.size < w8.heap.size := by have := he8.size; (try simp at this); omega
  have c_w8_1_0 := he8.cell (p := ⟨w7.heap.size, 0, none⟩) (u := .int .i64 bf) (by first | assumption | simp [go_sem] | simp [go_sem, *])
  have c_w8_1_1 := he8.cell (p := ⟨w7.heap.size, 1, none⟩) (u := .slice X7 nf Y7) (by first | assumption | simp [go_sem] | simp [go_sem, *])
  have ho8 : ObR 22 3 w8 (w7.heap.size + 1) w8.heap.size X8 nl Y8 xsl := by simpa using ho8
  have q_ho8 := rowsTotal_small ho8.small
  go_wp2_with fail
  refine (toIntS_o _ _ _ xsq _ (hq.ext (by (repeat (first | with_reducible exact Ext.refl _ | with_reducible assumption | ((with_reducible refine Ext.setCell ?_ ?_ _); rotate_left; focus (first | omega | (simp <;> omega))) | with_reducible refine Ext.alloc ?_ _ | with_reducible refine Ext.drewN ?_ _ | with_reducible refine Ext.drew ?_ | with_reducible refine Ext.trans ?_ (by with_reducible assumption))))) (by omega)).mono ?_
  rintro e w9 ⟨X9, Y9, rfl, ho9, he9⟩
  have s_w9 : w8.heap.size ≤ w9.heap.size := by have := he9.size; (try simp at this); omega
  have z_w9_0 : w.heap.size < w9.heap.size := by have := he9.size; (try simp at this); omega
  have c_w9_0_0 := he9.cell (p := ⟨w.heap.size, 0, none⟩) (u := .int .i64 bf) (by first | assumption | simp [go_sem] | simp [go_sem, *])
  have c_w9_0_1 := he9.cell (p := ⟨w.heap.size, 1, none⟩) (u := .slice Af nf df) (by first | assumption | simp [go_sem] | simp [go_sem, *])
  have z_w9_1 : w7.heap.size < w9.heap.size := by have := he9.size; (try simp at this); omega
  have c_w9_1_0 := he9.cell (p := ⟨w7.heap.size, 0, none⟩) (u := .int .i64 bf) (by first | assumption | simp [go_sem] | simp [go_sem, *])
  have c_w9_1_1 := he9.cell (p := ⟨w7.heap.size, 1, none⟩) (u := .slice X7 nf Y7) (by first | assumption | simp [go_sem] | simp [go_sem, *])
  have ho9 : ObI 3 w9 (w8.heap.size) w9.heap.size X9 nq Y9 xsq := by simpa using ho9
  have q_ho9 := ho9.small
  go_wp2_with fail
  refine (HI.out _ _ _ _ ((ho7.intss).ext (by (repeat (first | with_reducible exact Ext.refl _ | with_reducible assumption | ((with_reducible refine Ext.setCell ?_ ?_ _); rotate_left; focus (first | omega | (simp <;> omega))) | with_reducible refine Ext.alloc ?_ _ | with_reducible refine Ext.drewN ?_ _ | with_reducible refine Ext.drew ?_ | with_reducible refine Ext.trans ?_ (by with_reducible assumption))))) _ _ _ ((ho8.intssC).ext (by (repeat (first | with_reducible exact Ext.refl _ | with_reducible assumption | ((with_reducible refine Ext.setCell ?_ ?_ _); rotate_left; focus (first | omega | (simp <;> omega))) | with_reducible refine Ext.alloc ?_ _ | with_reducible refine Ext.drewN ?_ _ | with_reducible refine Ext.drew ?_ | with_reducible refine Ext.trans ?_ (by with_reducible assumption))))) _ _ _ ((ho9.ints).ext (by (repeat (first | with_reducible exact Ext.refl _ | with_reducible assumption | ((with_reducible refine Ext.setCell ?_ ?_ _); rotate_left; focus (first | omega | (simp <;> omega))) | with_reducible refine Ext.alloc ?_ _ | with_reducible refine Ext.drewN ?_ _ | with_reducible refine Ext.drew ?_ | with_reducible refine Ext.trans ?_ (by with_reducible assumption)))))).mono ?_
  rintro e w10 ⟨A10_0, n10_0, c10_0, rfl, ho10_0, he10⟩
  have s_w10 : w9.heap.size ≤ w10.heap.size := by have := he10.size; (try simp at this); omega
  have z_w10_0 : w.heap.size < w10.heap.size := by have := he10.size; (try simp at this); omega
  have c_w10_0_0 := he10.cell (p := ⟨w.heap.size, 0, none⟩) (u := .int .i64 bf) (by first | assumption | simp [go_sem] | simp [go_sem, *])
  have c_w10_0_1 := he10.cell (p := ⟨w.heap.size, 1, none⟩) (u := .slice Af nf df) (by first | assumption | simp [go_sem] | simp [go_sem, *])
  have z_w10_1 : w7.heap.size < w10.heap.size := by have := he10.size; (try simp at this); omega
  have c_w10_1_0 := he10.cell (p := ⟨w7.heap.size, 0, none⟩) (u := .int .i64 bf) (by first | assumption | simp [go_sem] | simp [go_sem, *])
  have c_w10_1_1 := he10.cell (p := ⟨w7.heap.size, 1, none⟩) (u := .slice X7 nf Y7) (by first | assumption | simp [go_sem] | simp [go_sem, *])
  have ho10_0 : ObI 3 w10 (w9.heap.size) w10.heap.size A10_0 n10_0 c10_0 F := by simpa using ho10_0
  have q_ho10_0 := ho10_0.small
  go_wp2_with fail
  refine (eqIntS_same _ _ _ _ _ _ F _ ((ho10_0.ints).ext (by (repeat (first | with_reducible exact Ext.refl _ | with_reducible assumption | ((with_reducible refine Ext.setCell ?_ ?_ _); rotate_left; focus (first | omega | (simp <;> omega))) | with_reducible refine Ext.alloc ?_ _ | with_reducible refine Ext.drewN ?_ _ | with_reducible refine Ext.drew ?_ | with_reducible refine Ext.trans ?_ (by with_reducible assumption))))) ((ho6_0.ints).ext (by (repeat (first | with_reducible exact Ext.refl _ | with_reducible assumption | ((with_reducible refine Ext.setCell ?_ ?_ _); rotate_left; focus (first | omega | (simp <;> omega))) | with_reducible refine Ext.alloc ?_ _ | with_reducible refine Ext.drewN ?_ _ | with_reducible refine Ext.drew ?_ | with_reducible refine Ext.trans ?_ (by with_reducible assumption)))))).mono ?_
  rintro e w11 ⟨rfl, he11⟩
  have s_w11 : w10.heap.size ≤ w11.heap.size := by have := he11.size; (try simp at this); omega
  have z_w11_0 : w.heap.size < w11.heap.size := by have := he11.size; (try simp at this); omega
  have c_w11_0_0 := he11.cell (p := ⟨w.heap.size, 0, none⟩) (u := .int .i64 bf) (by first | assumption | simp [go_sem] | simp [go_sem, *])
  have c_w11_0_1 := he11.cell (p := ⟨w.heap.size, 1, none⟩) (u := .slice Af nf df) (by first | assumption | simp [go_sem] | simp [go_sem, *])
  have z_w11_1 : w7.heap.size < w11.heap.size := by have := he11.size; (try simp at this); omega
  have c_w11_1_0 := he11.cell (p := ⟨w7.heap.size, 0, none⟩) (u := .int .i64 bf) (by first | assumption | simp [go_sem] | simp [go_sem, *])
  have c_w11_1_1 := he11.cell (p := ⟨w7.heap.size, 1, none⟩) (u := .slice X7 nf Y7) (by first | assumption | simp [go_sem] | simp [go_sem, *])
  go_wp2_with fail
  have eg11 : Ext w11 w11.drew := (Ext.refl _).drew
  go_region_held3 (fun w' => w'.cell? ⟨w.heap.size, 0, none⟩ = some (.int .i64 bf) ∧ w'.cell? ⟨w.heap.size, 1, none⟩ = some (.slice Af nf df) ∧ w'.cell? ⟨w7.heap.size, 0, none⟩ = some (.int .i64 bf) ∧ w'.cell? ⟨w7.heap.size, 1, none⟩ = some (.slice X7 nf Y7) ∧ Ext w11 w') (simp [go_sem, *]) (first | (go_at_call 25; (with_reducible refine (toCnf_o _ _ _ bf xsf _ (hf.ext (by (repeat (first | with_reducible exact Ext.refl _ | with_reducible assumption | ((with_reducible refine Ext.setCell ?_ ?_ _); rotate_left; focus (first | omega | (simp <;> omega))) | with_reducible refine Ext.alloc ?_ _ | with_reducible refine Ext.drewN ?_ _ | with_reducible refine Ext.drew ?_ | with_reducible refine Ext.trans ?_ (by with_reducible assumption))))) (by omega)).mono ?_); rintro e w12 ⟨X12, Y12, rfl, ho12, he12⟩; have c_w12_0_0 := he12.cell (p := ⟨w.heap.size, 0, none⟩) (u := .int .i64 bf) (by simp [go_sem, *]); have c_w12_0_1 := he12.cell (p := ⟨w.heap.size, 1, none⟩) (u := .slice Af nf df) (by simp [go_sem, *]); have c_w12_1_0 := he12.cell (p := ⟨w7.heap.size, 0, none⟩) (u := .int .i64 bf) (by simp [go_sem, *]); have c_w12_1_1 := he12.cell (p := ⟨w7.heap.size, 1, none⟩) (u := .slice X7 nf Y7) (by simp [go_sem, *]); have ew12 : Ext w11 w12 := Ext.trans (by (repeat (first | with_reducible exact Ext.refl _ | with_reducible assumption | ((with_reducible refine Ext.setCell ?_ ?_ _); rotate_left; focus (first | omega | (simp <;> omega))) | with_reducible refine Ext.alloc ?_ _ | with_reducible refine Ext.drewN ?_ _ | with_reducible refine Ext.drew ?_ | with_reducible refine Ext.trans ?_ (by with_reducible assumption)))) he12; have s_w12 : w11.heap.size ≤ w12.heap.size := (by have := ew12.size; (try simp at this); omega)) | (go_at_call 28; (with_reducible refine (eqCnf_same _ _ _ _ _ _ _ xsf _ ((ho7.intss).ext (by (repeat (first | with_reducible exact Ext.refl _ | with_reducible assumption | ((with_reducible refine Ext.setCell ?_ ?_ _); rotate_left; focus (first | omega | (simp <;> omega))) | with_reducible refine Ext.alloc ?_ _ | with_reducible refine Ext.drewN ?_ _ | with_reducible refine Ext.drew ?_ | with_reducible refine Ext.trans ?_ (by with_reducible assumption))))) ((ho12.intss).ext (by (repeat (first | with_reducible exact Ext.refl _ | with_reducible assumption | ((with_reducible refine Ext.setCell ?_ ?_ _); rotate_left; focus (first | omega | (simp <;> omega))) | with_reducible refine Ext.alloc ?_ _ | with_reducible refine Ext.drewN ?_ _ | with_reducible refine Ext.drew ?_ | with_reducible refine Ext.trans ?_ (by with_reducible assumption)))))).mono ?_); rintro e w13 ⟨rfl, he13⟩; have c_w13_0_0 := he13.cell (p := ⟨w.heap.size, 0, none⟩) (u := .int .i64 bf) (by simp [go_sem, *]); have c_w13_0_1 := he13.cell (p := ⟨w.heap.size, 1, none⟩) (u := .slice Af nf df) (by simp [go_sem, *]); have c_w13_1_0 := he13.cell (p := ⟨w7.heap.size, 0, none⟩) (u := .int .i64 bf) (by simp [go_sem, *]); have c_w13_1_1 := he13.cell (p := ⟨w7.heap.size, 1, none⟩) (u := .slice X7 nf Y7) (by simp [go_sem, *]); have ew13 : Ext w11 w13 := Ext.trans (by (repeat (first | with_reducible exact Ext.refl _ | with_reducible assumption | ((with_reducible refine Ext.setCell ?_ ?_ _); rotate_left; focus (first | omega | (simp <;> omega))) | with_reducible refine Ext.alloc ?_ _ | with_reducible refine Ext.drewN ?_ _ | with_reducible refine Ext.drew ?_ | with_reducible refine Ext.trans ?_ (by with_reducible assumption)))) he13; have s_w13 : w11.heap.size ≤ w13.heap.size := (by have := ew13.size; (try simp at this); omega)))
  have z_w13_0 : w.heap.size < w13.heap.size := by have := ew13.size; omega
  have z_w13_1 : w7.heap.size < w13.heap.size := by have := ew13.size; omega
  go_wp2_with fail
  refine (toIntSS_o _ _ _ xsl _ (hl.ext (by (repeat (first | with_reducible exact Ext.refl _ | with_reducible assumption | ((with_reducible refine Ext.setCell ?_ ?_ _); rotate_left; focus (first | omega | (simp <;> omega))) | with_reducible refine Ext.alloc ?_ _ | with_reducible refine Ext.drewN ?_ _ | with_reducible refine Ext.drew ?_ | with_reducible refine Ext.trans ?_ (by with_reducible assumption))))) (by omega)).mono ?_
  rintro e w14 ⟨X14, Y14, rfl, ho14, he14⟩
  have s_w14 : w13.heap.size ≤ w14.heap.size := by have := he14.size; (try simp at this); omega
  have z_w14_0 : w.heap.size < w14.heap.size := by have := he14.size; (try simp at this); omega
  have c_w14_0_0 := he14.cell (p := ⟨w.heap.size, 0, none⟩) (u := .int .i64 bf) (by first | assumption | simp [go_sem] | simp [go_sem, *])
  have c_w14_0_1 := he14.cell (p := ⟨w.heap.size, 1, none⟩) (u := .slice Af nf df) (by first | assumption | simp [go_sem] | simp [go_sem, *])
  have z_w14_1 : w7.heap.size < w14.heap.size := by have := he14.size; (try simp at this); omega
  have c_w14_1_0 := he14.cell (p := ⟨w7.heap.size, 0, none⟩) (u := .int .i64 bf) (by first | assumption | simp [go_sem] | simp [go_sem, *])
  have c_w14_1_1 := he14.cell (p := ⟨w7.heap.size, 1, none⟩) (u := .slice X7 nf Y7) (by first | assumption | simp [go_sem] | simp [go_sem, *])
  have ho14 : ObR 22 3 w14 (w13.heap.size) w14.heap.size X14 nl Y14 xsl := by simpa using ho14
  have q_ho14 := rowsTotal_small ho14.small
  go_wp2_with fail
  refine (eqIntSS_same _ _ _ _ _ _ xsl _ ((ho8.intss).ext (by (repeat (first | with_reducible exact Ext.refl _ | with_reducible assumption | ((with_reducible refine Ext.setCell ?_ ?_ _); rotate_left; focus (first | omega | (simp <;> omega))) | with_reducible refine Ext.alloc ?_ _ | with_reducible refine Ext.drewN ?_ _ | with_reducible refine Ext.drew ?_ | with_reducible refine Ext.trans ?_ (by with_reducible assumption))))) ((ho14.intss).ext (by (repeat (first | with_reducible exact Ext.refl _ | with_reducible assumption | ((with_reducible refine Ext.setCell ?_ ?_ _); rotate_left; focus (first | omega | (simp <;> omega))) | with_reducible refine Ext.alloc ?_ _ | with_reducible refine Ext.drewN ?_ _ | with_reducible refine Ext.drew ?_ | with_reducible refine Ext.trans ?_ (by with_reducible assumption)))))).mono ?_
  rintro e w15 ⟨rfl, he15⟩
  have s_w15 : w14.heap.size ≤ w15.heap.size := by have := he15.size; (try simp at this); omega
  have z_w15_0 : w.heap.size < w15.heap.size := by have := he15.size; (try simp at this); omega
  have c_w15_0_0 := he15.cell (p := ⟨w.heap.size, 0, none⟩) (u := .int .i64 bf) (by first | assumption | simp [go_sem] | simp [go_sem, *])
  have c_w15_0_1 := he15.cell (p := ⟨w.heap.size, 1, none⟩) (u := .slice Af nf df) (by first | assumption | simp [go_sem] | simp [go_sem, *])
  have z_w15_1 : w7.heap.size < w15.heap.size := by have := he15.size; (try simp at this); omega
  have c_w15_1_0 := he15.cell (p := ⟨w7.heap.size, 0, none⟩) (u := .int .i64 bf) (by first | assumption | simp [go_sem] | simp [go_sem, *])
  have c_w15_1_1 := he15.cell (p := ⟨w7.heap.size, 1, none⟩) (u := .slice X7 nf Y7) (by first | assumption | simp [go_sem] | simp [go_sem, *])
  go_wp2_with fail
  refine (toIntS_o _ _ _ xsq _ (hq.ext (by (repeat (first | with_reducible exact Ext.refl _ | with_reducible assumption | ((with_reducible refine Ext.setCell ?_ ?_ _); rotate_left; focus (first | omega | (simp <;> omega))) | with_reducible refine Ext.alloc ?_ _ | with_reducible refine Ext.drewN ?_ _ | with_reducible refine Ext.drew ?_ | with_reducible refine Ext.trans ?_ (by with_reducible assumption))))) (by omega)).mono ?_
  rintro e w16 ⟨X16, Y16, rfl, ho16, he16⟩
  have s_w16 : w15.heap.size ≤ w16.heap.size := by have := he16.size; (try simp at this); omega
  have z_w16_0 : w.heap.size < w16.heap.size := by have := he16.size; (try simp at this); omega
  have c_w16_0_0 := he16.cell (p := ⟨w.heap.size, 0, none⟩) (u := .int .i64 bf) (by first | assumption | simp [go_sem] | simp [go_sem, *])
  have c_w16_0_1 := he16.cell (p := ⟨w.heap.size, 1, none⟩) (u := .slice Af nf df) (by first | assumption | simp [go_sem] | simp [go_sem, *])
  have z_w16_1 : w7.heap.size < w16.heap.size := by have := he16.size; (try simp at this); omega
  have c_w16_1_0 := he16.cell (p := ⟨w7.heap.size, 0, none⟩) (u := .int .i64 bf) (by first | assumption | simp [go_sem] | simp [go_sem, *])
  have c_w16_1_1 := he16.cell (p := ⟨w7.heap.size, 1, none⟩) (u := .slice X7 nf Y7) (by first | assumption | simp [go_sem] | simp [go_sem, *])
  have ho16 : ObI 3 w16 (w15.heap.size) w16.heap.size X16 nq Y16 xsq := by simpa using ho16
  have q_ho16 := ho16.small
  go_wp2_with fail
  refine (eqIntS_same _ _ _ _ _ _ xsq _ ((ho9.ints).ext (by (repeat (first | with_reducible exact Ext.refl _ | with_reducible assumption | ((with_reducible refine Ext.setCell ?_ ?_ _); rotate_left; focus (first | omega | (simp <;> omega))) | with_reducible refine Ext.alloc ?_ _ | with_reducible refine Ext.drewN ?_ _ | with_reducible refine Ext.drew ?_ | with_reducible refine Ext.trans ?_ (by with_reducible assumption))))) ((ho16.ints).ext (by (repeat (first | with_reducible exact Ext.refl _ | with_reducible assumption | ((with_reducible refine Ext.setCell ?_ ?_ _); rotate_left; focus (first | omega | (simp <;> omega))) | with_reducible refine Ext.alloc ?_ _ | with_reducible refine Ext.drewN ?_ _ | with_reducible refine Ext.drew ?_ | with_reducible refine Ext.trans ?_ (by with_reducible assumption)))))).mono ?_
  rintro e w17 ⟨rfl, he17⟩
  have s_w17 : w16.heap.size ≤ w17.heap.size := by have := he17.size; (try simp at this); omega
  have z_w17_0 : w.heap.size < w17.heap.size := by have := he17.size; (try simp at this); omega
  have c_w17_0_0 := he17.cell (p := ⟨w.heap.size, 0, none⟩) (u := .int .i64 bf) (by first | assumption | simp [go_sem] | simp [go_sem, *])
  have c_w17_0_1 := he17.cell (p := ⟨w.heap.size, 1, none⟩) (u := .slice Af nf df) (by first | assumption | simp [go_sem] | simp [go_sem, *])
  have z_w17_1 : w7.heap.size < w17.heap.size := by have := he17.size; (try simp at this); omega
  have c_w17_1_0 := he17.cell (p := ⟨w7.heap.size, 0, none⟩) (u := .int .i64 bf) (by first | assumption | simp [go_sem] | simp [go_sem, *])
  have c_w17_1_1 := he17.cell (p := ⟨w7.heap.size, 1, none⟩) (u := .slice X7 nf Y7) (by first | assumption | simp [go_sem] | simp [go_sem, *])
  go_wp2_with fail
  refine (markCnf_o _ _ _ _ _ _ _ xsf _ (ho7.ext (by (repeat (first | with_reducible exact Ext.refl _ | with_reducible assumption | ((with_reducible refine Ext.setCell ?_ ?_ _); rotate_left; focus (first | omega | (simp <;> omega))) | with_reducible refine Ext.alloc ?_ _ | with_reducible refine Ext.drewN ?_ _ | with_reducible refine Ext.drew ?_ | with_reducible refine Ext.trans ?_ (by with_reducible assumption))))) (by omega)).mono ?_
  rintro e w18 ⟨rfl, hm18, t18⟩
  have s_w18 : w17.heap.size ≤ w18.heap.size := by have := t18.size; (try simp at this); omega
  have z_w18_0 : w.heap.size < w18.heap.size := by have := t18.size; (try simp at this); omega
  have c_w18_0_0 := t18.cell (p := ⟨w.heap.size, 0, none⟩) (u := .int .i64 bf) (by first | assumption | simp [go_sem] | simp [go_sem, *]) (by simp only []; omega)
  have c_w18_0_1 := t18.cell (p := ⟨w.heap.size, 1, none⟩) (u := .slice Af nf df) (by first | assumption | simp [go_sem] | simp [go_sem, *]) (by simp only []; omega)
  have z_w18_1 : w7.heap.size < w18.heap.size := by have := t18.size; (try simp at this); omega
  have c_w18_1_0 := t18.cell (p := ⟨w7.heap.size, 0, none⟩) (u := .int .i64 bf) (by first | assumption | simp [go_sem] | simp [go_sem, *]) (by simp only []; omega)
  have c_w18_1_1 := t18.cell (p := ⟨w7.heap.size, 1, none⟩) (u := .slice X7 nf Y7) (by first | assumption | simp [go_sem] | simp [go_sem, *]) (by simp only []; omega)
  have ew18 : Ext w w18 := Ext.touched (by (repeat (first | with_reducible exact Ext.refl _ | with_reducible assumption | ((with_reducible refine Ext.setCell ?_ ?_ _); rotate_left; focus (first | omega | (simp <;> omega))) | with_reducible refine Ext.alloc ?_ _ | with_reducible refine Ext.drewN ?_ _ | with_reducible refine Ext.drew ?_ | with_reducible refine Ext.trans ?_ (by with_reducible assumption)))) t18 (by omega)
  have ho6_0_18 := (ho6_0.ext (by (repeat (first | with_reducible exact Ext.refl _ | with_reducible assumption | ((with_reducible refine Ext.setCell ?_ ?_ _); rotate_left; focus (first | omega | (simp <;> omega))) | with_reducible refine Ext.alloc ?_ _ | with_reducible refine Ext.drewN ?_ _ | with_reducible refine Ext.drew ?_ | with_reducible refine Ext.trans ?_ (by with_reducible assumption))))).touch t18 (by omega)
  have ho8_18 := (ho8.ext (by (repeat (first | with_reducible exact Ext.refl _ | with_reducible assumption | ((with_reducible refine Ext.setCell ?_ ?_ _); rotate_left; focus (first | omega | (simp <;> omega))) | with_reducible refine Ext.alloc ?_ _ | with_reducible refine Ext.drewN ?_ _ | with_reducible refine Ext.drew ?_ | with_reducible refine Ext.trans ?_ (by with_reducible assumption))))).touch t18 (by omega)
  have ho9_18 := (ho9.ext (by (repeat (first | with_reducible exact Ext.refl _ | with_reducible assumption | ((with_reducible refine Ext.setCell ?_ ?_ _); rotate_left; focus (first | omega | (simp <;> omega))) | with_reducible refine Ext.alloc ?_ _ | with_reducible refine Ext.drewN ?_ _ | with_reducible refine Ext.drew ?_ | with_reducible refine Ext.trans ?_ (by with_reducible assumption))))).touch t18 (by omega)
  have ho10_0_18 := (ho10_0.ext (by (repeat (first | with_reducible exact Ext.refl _ | with_reducible assumption | ((with_reducible refine Ext.setCell ?_ ?_ _); rotate_left; focus (first | omega | (simp <;> omega))) | with_reducible refine Ext.alloc ?_ _ | with_reducible refine Ext.drewN ?_ _ | with_reducible refine Ext.drew ?_ | with_reducible refine Ext.trans ?_ (by with_reducible assumption))))).touch t18 (by omega)
  go_wp2_with fail
  refine (markIntSS_o _ _ _ _ _ _ xsl _ (ho8_18.ext (by (repeat (first | with_reducible exact Ext.refl _ | with_reducible assumption | ((with_reducible refine Ext.setCell ?_ ?_ _); rotate_left; focus (first | omega | (simp <;> omega))) | with_reducible refine Ext.alloc ?_ _ | with_reducible refine Ext.drewN ?_ _ | with_reducible refine Ext.drew ?_ | with_reducible refine Ext.trans ?_ (by with_reducible assumption))))) (by omega)).mono ?_
  rintro e w19 ⟨rfl, hm19, t19⟩
  have s_w19 : w18.heap.size ≤ w19.heap.size := by have := t19.size; (try simp at this); omega
  have z_w19_0 : w.heap.size < w19.heap.size := by have := t19.size; (try simp at this); omega
  have c_w19_0_0 := t19.cell (p := ⟨w.heap.size, 0, none⟩) (u := .int .i64 bf) (by first | assumption | simp [go_sem] | simp [go_sem, *]) (by simp only []; omega)
  have c_w19_0_1 := t19.cell (p := ⟨w.heap.size, 1, none⟩) (u := .slice Af nf df) (by first | assumption | simp [go_sem] | simp [go_sem, *]) (by simp only []; omega)
  have z_w19_1 : w7.heap.size < w19.heap.size := by have := t19.size; (try simp at this); omega
  have c_w19_1_0 := t19.cell (p := ⟨w7.heap.size, 0, none⟩) (u := .int .i64 bf) (by first | assumption | simp [go_sem] | simp [go_sem, *]) (by simp only []; omega)
  have c_w19_1_1 := t19.cell (p := ⟨w7.heap.size, 1, none⟩) (u := .slice X7 nf Y7) (by first | assumption | simp [go_sem] | simp [go_sem, *]) (by simp only []; omega)
  have ew19 : Ext w w19 := Ext.touched (by (repeat (first | with_reducible exact Ext.refl _ | with_reducible assumption | ((with_reducible refine Ext.setCell ?_ ?_ _); rotate_left; focus (first | omega | (simp <;> omega))) | with_reducible refine Ext.alloc ?_ _ | with_reducible refine Ext.drewN ?_ _ | with_reducible refine Ext.drew ?_ | with_reducible refine Ext.trans ?_ (by with_reducible assumption)))) t19 (by omega)
  have ho6_0_18_19 := (ho6_0_18.ext (by (repeat (first | with_reducible exact Ext.refl _ | with_reducible assumption | ((with_reducible refine Ext.setCell ?_ ?_ _); rotate_left; focus (first | omega | (simp <;> omega))) | with_reducible refine Ext.alloc ?_ _ | with_reducible refine Ext.drewN ?_ _ | with_reducible refine Ext.drew ?_ | with_reducible refine Ext.trans ?_ (by with_reducible assumption))))).touch t19 (by omega)
  have hm18_19 := (hm18.ext (by (repeat (first | with_reducible exact Ext.refl _ | with_reducible assumption | ((with_reducible refine Ext.setCell ?_ ?_ _); rotate_left; focus (first | omega | (simp <;> omega))) | with_reducible refine Ext.alloc ?_ _ | with_reducible refine Ext.drewN ?_ _ | with_reducible refine Ext.drew ?_ | with_reducible refine Ext.trans ?_ (by with_reducible assumption))))).touch t19 (by omega)
  have ho9_18_19 := (ho9_18.ext (by (repeat (first | with_reducible exact Ext.refl _ | with_reducible assumption | ((with_reducible refine Ext.setCell ?_ ?_ _); rotate_left; focus (first | omega | (simp <;> omega))) | with_reducible refine Ext.alloc ?_ _ | with_reducible refine Ext.drewN ?_ _ | with_reducible refine Ext.drew ?_ | with_reducible refine Ext.trans ?_ (by with_reducible assumption))))).touch t19 (by omega)
  have ho10_0_18_19 := (ho10_0_18.ext (by (repeat (first | with_reducible exact Ext.refl _ | with_reducible assumption | ((with_reducible refine Ext.setCell ?_ ?_ _); rotate_left; focus (first | omega | (simp <;> omega))) | with_reducible refine Ext.alloc ?_ _ | with_reducible refine Ext.drewN ?_ _ | with_reducible refine Ext.drew ?_ | with_reducible refine Ext.trans ?_ (by with_reducible assumption))))).touch t19 (by omega)
  go_wp2_with fail
  refine (markIntS_o _ _ _ _ _ _ xsq _ (ho9_18_19.ext (by (repeat (first | with_reducible exact Ext.refl _ | with_reducible assumption | ((with_reducible refine Ext.setCell ?_ ?_ _); rotate_left; focus (first | omega | (simp <;> omega))) | with_reducible refine Ext.alloc ?_ _ | with_reducible refine Ext.drewN ?_ _ | with_reducible refine Ext.drew ?_ | with_reducible refine Ext.trans ?_ (by with_reducible assumption))))) (by omega)).mono ?_
  rintro e w20 ⟨rfl, hm20, t20⟩
  have s_w20 : w19.heap.size ≤ w20.heap.size := by have := t20.size; (try simp at this); omega
  have z_w20_0 : w.heap.size < w20.heap.size := by have := t20.size; (try simp at this); omega
  have c_w20_0_0 := t20.cell (p := ⟨w.heap.size, 0, none⟩) (u := .int .i64 bf) (by first | assumption | simp [go_sem] | simp [go_sem, *]) (by simp only []; omega)
  have c_w20_0_1 := t20.cell (p := ⟨w.heap.size, 1, none⟩) (u := .slice Af nf df) (by first | assumption | simp [go_sem] | simp [go_sem, *]) (by simp only []; omega)
  have z_w20_1 : w7.heap.size < w20.heap.size := by have := t20.size; (try simp at this); omega
  have c_w20_1_0 := t20.cell (p := ⟨w7.heap.size, 0, none⟩) (u := .int .i64 bf) (by first | assumption | simp [go_sem] | simp [go_sem, *]) (by simp only []; omega)
  have c_w20_1_1 := t20.cell (p := ⟨w7.heap.size, 1, none⟩) (u := .slice X7 nf Y7) (by first | assumption | simp [go_sem] | simp [go_sem, *]) (by simp only []; omega)
  have ew20 : Ext w w20 := Ext.touched (by (repeat (first | with_reducible exact Ext.refl _ | with_reducible assumption | ((with_reducible refine Ext.setCell ?_ ?_ _); rotate_left; focus (first | omega | (simp <;> omega))) | with_reducible refine Ext.alloc ?_ _ | with_reducible refine Ext.drewN ?_ _ | with_reducible refine Ext.drew ?_ | with_reducible refine Ext.trans ?_ (by with_reducible assumption)))) t20 (by omega)
  have ho6_0_18_19_20 := (ho6_0_18_19.ext (by (repeat (first | with_reducible exact Ext.refl _ | with_reducible assumption | ((with_reducible refine Ext.setCell ?_ ?_ _); rotate_left; focus (first | omega | (simp <;> omega))) | with_reducible refine Ext.alloc ?_ _ | with_reducible refine Ext.drewN ?_ _ | with_reducible refine Ext.drew ?_ | with_reducible refine Ext.trans ?_ (by with_reducible assumption))))).touch t20 (by omega)
  have hm18_19_20 := (hm18_19.ext (by (repeat (first | with_reducible exact Ext.refl _ | with_reducible assumption | ((with_reducible refine Ext.setCell ?_ ?_ _); rotate_left; focus (first | omega | (simp <;> omega))) | with_reducible refine Ext.alloc ?_ _ | with_reducible refine Ext.drewN ?_ _ | with_reducible refine Ext.drew ?_ | with_reducible refine Ext.trans ?_ (by with_reducible assumption))))).touch t20 (by omega)
  have hm19_20 := (hm19.ext (by (repeat (first | with_reducible exact Ext.refl _ | with_reducible assumption | ((with_reducible refine Ext.setCell ?_ ?_ _); rotate_left; focus (first | omega | (simp <;> omega))) | with_reducible refine Ext.alloc ?_ _ | with_reducible refine Ext.drewN ?_ _ | with_reducible refine Ext.drew ?_ | with_reducible refine Ext.trans ?_ (by with_reducible assumption))))).touch t20 (by omega)
  have ho10_0_18_19_20 := (ho10_0_18_19.ext (by (repeat (first | with_reducible exact Ext.refl _ | with_reducible assumption | ((with_reducible refine Ext.setCell ?_ ?_ _); rotate_left; focus (first | omega | (simp <;> omega))) | with_reducible refine Ext.alloc ?_ _ | with_reducible refine Ext.drewN ?_ _ | with_reducible refine Ext.drew ?_ | with_reducible refine Ext.trans ?_ (by with_reducible assumption))))).touch t20 (by omega)
  go_wp2_with fail
  refine (eqIntS_same _ _ _ _ _ _ F _ ((ho10_0_18_19_20.ints).ext (by (repeat (first | with_reducible exact Ext.refl _ | with_reducible assumption | ((with_reducible refine Ext.setCell ?_ ?_ _); rotate_left; focus (first | omega | (simp <;> omega))) | with_reducible refine Ext.alloc ?_ _ | with_reducible refine Ext.drewN ?_ _ | with_reducible refine Ext.drew ?_ | with_reducible refine Ext.trans ?_ (by with_reducible assumption))))) ((ho6_0_18_19_20.ints).ext (by (repeat (first | with_reducible exact Ext.refl _ | with_reducible assumption | ((with_reducible refine Ext.setCell ?_ ?_ _); rotate_left; focus (first | omega | (simp <;> omega))) | with_reducible refine Ext.alloc ?_ _ | with_reducible refine Ext.drewN ?_ _ | with_reducible refine Ext.drew ?_ | with_reducible refine Ext.trans ?_ (by with_reducible assumption)))))).mono ?_
  rintro e w21 ⟨rfl, he21⟩
  have s_w21 : w20.heap.size ≤ w21.heap.size := by have := he21.size; (try simp at this); omega
  have z_w21_0 : w.heap.size < w21.heap.size := by have := he21.size; (try simp at this); omega
  have c_w21_0_0 := he21.cell (p := ⟨w.heap.size, 0, none⟩) (u := .int .i64 bf) (by first | assumption | simp [go_sem] | simp [go_sem, *])
  have c_w21_0_1 := he21.cell (p := ⟨w.heap.size, 1, none⟩) (u := .slice Af nf df) (by first | assumption | simp [go_sem] | simp [go_sem, *])
  have z_w21_1 : w7.heap.size < w21.heap.size := by have := he21.size; (try simp at this); omega
  have c_w21_1_0 := he21.cell (p := ⟨w7.heap.size, 0, none⟩) (u := .int .i64 bf) (by first | assumption | simp [go_sem] | simp [go_sem, *])
  have c_w21_1_1 := he21.cell (p := ⟨w7.heap.size, 1, none⟩) (u := .slice X7 nf Y7) (by first | assumption | simp [go_sem] | simp [go_sem, *])
  go_wp2_with fail
  refine (markIntS_o _ _ _ _ _ _ F _ (ho10_0_18_19_20.ext (by (repeat (first | with_reducible exact Ext.refl _ | with_reducible assumption | ((with_reducible refine Ext.setCell ?_ ?_ _); rotate_left; focus (first | omega | (simp <;> omega))) | with_reducible refine Ext.alloc ?_ _ | with_reducible refine Ext.drewN ?_ _ | with_reducible refine Ext.drew ?_ | with_reducible refine Ext.trans ?_ (by with_reducible assumption))))) (by omega)).mono ?_
  rintro e w22 ⟨rfl, hm22, t22⟩
  have s_w22 : w21.heap.size ≤ w22.heap.size := by have := t22.size; (try simp at this); omega
  have z_w22_0 : w.heap.size < w22.heap.size := by have := t22.size; (try simp at this); omega
  have c_w22_0_0 := t22.cell (p := ⟨w.heap.size, 0, none⟩) (u := .int .i64 bf) (by first | assumption | simp [go_sem] | simp [go_sem, *]) (by simp only []; omega)
  have c_w22_0_1 := t22.cell (p := ⟨w.heap.size, 1, none⟩) (u := .slice Af nf df) (by first | assumption | simp [go_sem] | simp [go_sem, *]) (by simp only []; omega)
  have z_w22_1 : w7.heap.size < w22.heap.size := by have := t22.size; (try simp at this); omega
  have c_w22_1_0 := t22.cell (p := ⟨w7.heap.size, 0, none⟩) (u := .int .i64 bf) (by first | assumption | simp [go_sem] | simp [go_sem, *]) (by simp only []; omega)
  have c_w22_1_1 := t22.cell (p := ⟨w7.heap.size, 1, none⟩) (u := .slice X7 nf Y7) (by first | assumption | simp [go_sem] | simp [go_sem, *]) (by simp only []; omega)
  have ew22 : Ext w w22 := Ext.touched (by (repeat (first | with_reducible exact Ext.refl _ | with_reducible assumption | ((with_reducible refine Ext.setCell ?_ ?_ _); rotate_left; focus (first | omega | (simp <;> omega))) | with_reducible refine Ext.alloc ?_ _ | with_reducible refine Ext.drewN ?_ _ | with_reducible refine Ext.drew ?_ | with_reducible refine Ext.trans ?_ (by with_reducible assumption)))) t22 (by omega)
  have ho6_0_18_19_20_22 := (ho6_0_18_19_20.ext (by (repeat (first | with_reducible exact Ext.refl _ | with_reducible assumption | ((with_reducible refine Ext.setCell ?_ ?_ _); rotate_left; focus (first | omega | (simp <;> omega))) | with_reducible refine Ext.alloc ?_ _ | with_reducible refine Ext.drewN ?_ _ | with_reducible refine Ext.drew ?_ | with_reducible refine Ext.trans ?_ (by with_reducible assumption))))).touch t22 (by omega)
  have hm18_19_20_22 := (hm18_19_20.ext (by (repeat (first | with_reducible exact Ext.refl _ | with_reducible assumption | ((with_reducible refine Ext.setCell ?_ ?_ _); rotate_left; focus (first | omega | (simp <;> omega))) | with_reducible refine Ext.alloc ?_ _ | with_reducible refine Ext.drewN ?_ _ | with_reducible refine Ext.drew ?_ | with_reducible refine Ext.trans ?_ (by with_reducible assumption))))).touch t22 (by omega)
  have hm19_20_22 := (hm19_20.ext (by (repeat (first | with_reducible exact Ext.refl _ | with_reducible assumption | ((with_reducible refine Ext.setCell ?_ ?_ _); rotate_left; focus (first | omega | (simp <;> omega))) | with_reducible refine Ext.alloc ?_ _ | with_reducible refine Ext.drewN ?_ _ | with_reducible refine Ext.drew ?_ | with_reducible refine Ext.trans ?_ (by with_reducible assumption))))).touch t22 (by omega)
  have hm20_22 := (hm20.ext (by (repeat (first | with_reducible exact Ext.refl _ | with_reducible assumption | ((with_reducible refine Ext.setCell ?_ ?_ _); rotate_left; focus (first | omega | (simp <;> omega))) | with_reducible refine Ext.alloc ?_ _ | with_reducible refine Ext.drewN ?_ _ | with_reducible refine Ext.drew ?_ | with_reducible refine Ext.trans ?_ (by with_reducible assumption))))).touch t22 (by omega)
  go_wp2_with fail
  refine (heldIntS_o _ _ _ _ _ _ _ (hm22.ext (by (repeat (first | with_reducible exact Ext.refl _ | with_reducible assumption | ((with_reducible refine Ext.setCell ?_ ?_ _); rotate_left; focus (first | omega | (simp <;> omega))) | with_reducible refine Ext.alloc ?_ _ | with_reducible refine Ext.drewN ?_ _ | with_reducible refine Ext.drew ?_ | with_reducible refine Ext.trans ?_ (by with_reducible assumption))))) (by omega)).mono ?_
  rintro e w23 ⟨rfl, he23⟩
  have s_w23 : w22.heap.size ≤ w23.heap.size := by have := he23.size; (try simp at this); omega
  have z_w23_0 : w.heap.size < w23.heap.size := by have := he23.size; (try simp at this); omega
  have c_w23_0_0 := he23.cell (p := ⟨w.heap.size, 0, none⟩) (u := .int .i64 bf) (by first | assumption | simp [go_sem] | simp [go_sem, *])
  have c_w23_0_1 := he23.cell (p := ⟨w.heap.size, 1, none⟩) (u := .slice Af nf df) (by first | assumption | simp [go_sem] | simp [go_sem, *])
  have z_w23_1 : w7.heap.size < w23.heap.size := by have := he23.size; (try simp at this); omega
  have c_w23_1_0 := he23.cell (p := ⟨w7.heap.size, 0, none⟩) (u := .int .i64 bf) (by first | assumption | simp [go_sem] | simp [go_sem, *])
  have c_w23_1_1 := he23.cell (p := ⟨w7.heap.size, 1, none⟩) (u := .slice X7 nf Y7) (by first | assumption | simp [go_sem] | simp [go_sem, *])
  go_wp2_with fail
  refine (toCnf_o _ _ _ bf xsf _ (hf.ext (by (repeat (first | with_reducible exact Ext.refl _ | with_reducible assumption | ((with_reducible refine Ext.setCell ?_ ?_ _); rotate_left; focus (first | omega | (simp <;> omega))) | with_reducible refine Ext.alloc ?_ _ | with_reducible refine Ext.drewN ?_ _ | with_reducible refine Ext.drew ?_ | with_reducible refine Ext.trans ?_ (by with_reducible assumption))))) (by omega)).mono ?_
  rintro e w24 ⟨X24, Y24, rfl, ho24, he24⟩
  have s_w24 : w23.heap.size ≤ w24.heap.size := by have := he24.size; (try simp at this); omega
  have z_w24_0 : w.heap.size < w24.heap.size := by have := he24.size; (try simp at this); omega
  have c_w24_0_0 := he24.cell (p := ⟨w.heap.size, 0, none⟩) (u := .int .i64 bf) (by first | assumption | simp [go_sem] | simp [go_sem, *])
  have c_w24_0_1 := he24.cell (p := ⟨w.heap.size, 1, none⟩) (u := .slice Af nf df) (by first | assumption | simp [go_sem] | simp [go_sem, *])
  have z_w24_1 : w7.heap.size < w24.heap.size := by have := he24.size; (try simp at this); omega
  have c_w24_1_0 := he24.cell (p := ⟨w7.heap.size, 0, none⟩) (u := .int .i64 bf) (by first | assumption | simp [go_sem] | simp [go_sem, *])
  have c_w24_1_1 := he24.cell (p := ⟨w7.heap.size, 1, none⟩) (u := .slice X7 nf Y7) (by first | assumption | simp [go_sem] | simp [go_sem, *])
  have ho24 : ObR 22 3 w24 (w23.heap.size) w24.heap.size X24 nf Y24 xsf := by simpa using ho24
  have q_ho24 := rowsTotal_small ho24.small
  go_wp2_with fail
  refine (toIntSS_o _ _ _ xsl _ (hl.ext (by (repeat (first | with_reducible exact Ext.refl _ | with_reducible assumption | ((with_reducible refine Ext.setCell ?_ ?_ _); rotate_left; focus (first | omega | (simp <;> omega))) | with_reducible refine Ext.alloc ?_ _ | with_reducible refine Ext.drewN ?_ _ | with_reducible refine Ext.drew ?_ | with_reducible refine Ext.trans ?_ (by with_reducible assumption))))) (by omega)).mono ?_
  rintro e w25 ⟨X25, Y25, rfl, ho25, he25⟩
  have s_w25 : w24.heap.size ≤ w25.heap.size := by have := he25.size; (try simp at this); omega
  have z_w25_0 : w.heap.size < w25.heap.size := by have := he25.size; (try simp at this); omega
  have c_w25_0_0 := he25.cell (p := ⟨w.heap.size, 0, none⟩) (u := .int .i64 bf) (by first | assumption | simp [go_sem] | simp [go_sem, *])
  have c_w25_0_1 := he25.cell (p := ⟨w.heap.size, 1, none⟩) (u := .slice Af nf df) (by first | assumption | simp [go_sem] | simp [go_sem, *])
  have z_w25_1 : w7.heap.size < w25.heap.size := by have := he25.size; (try simp at this); omega
  have c_w25_1_0 := he25.cell (p := ⟨w7.heap.size, 0, none⟩) (u := .int .i64 bf) (by first | assumption | simp [go_sem] | simp [go_sem, *])
  have c_w25_1_1 := he25.cell (p := ⟨w7.heap.size, 1, none⟩) (u := .slice X7 nf Y7) (by first | assumption | simp [go_sem] | simp [go_sem, *])
  have ho25 : ObR 22 3 w25 (w24.heap.size) w25.heap.size X25 nl Y25 xsl := by simpa using ho25
  have q_ho25 := rowsTotal_small ho25.small
  go_wp2_with fail
  refine (toIntS_o _ _ _ xsq _ (hq.ext (by (repeat (first | with_reducible exact Ext.refl _ | with_reducible assumption | ((with_reducible refine Ext.setCell ?_ ?_ _); rotate_left; focus (first | omega | (simp <;> omega))) | with_reducible refine Ext.alloc ?_ _ | with_reducible refine Ext.drewN ?_ _ | with_reducible refine Ext.drew ?_ | with_reducible refine Ext.trans ?_ (by with_reducible assumption))))) (by omega)).mono ?_
  rintro e w26 ⟨X26, Y26, rfl, ho26, he26⟩
  have s_w26 : w25.heap.size ≤ w26.heap.size := by have := he26.size; (try simp at this); omega
  have z_w26_0 : w.heap.size < w26.heap.size := by have := he26.size; (try simp at this); omega
  have c_w26_0_0 := he26.cell (p := ⟨w.heap.size, 0, none⟩) (u := .int .i64 bf) (by first | assumption | simp [go_sem] | simp [go_sem, *])
  have c_w26_0_1 := he26.cell (p := ⟨w.heap.size, 1, none⟩) (u := .slice Af nf df) (by first | assumption | simp [go_sem] | simp [go_sem, *])
  have z_w26_1 : w7.heap.size < w26.heap.size := by have := he26.size; (try simp at this); omega
  have c_w26_1_0 := he26.cell (p := ⟨w7.heap.size, 0, none⟩) (u := .int .i64 bf) (by first | assumption | simp [go_sem] | simp [go_sem, *])
  have c_w26_1_1 := he26.cell (p := ⟨w7.heap.size, 1, none⟩) (u := .slice X7 nf Y7) (by first | assumption | simp [go_sem] | simp [go_sem, *])
  have ho26 : ObI 3 w26 (w25.heap.size) w26.heap.size X26 nq Y26 xsq := by simpa using ho26
  have q_ho26 := ho26.small
  go_wp2_with fail
  refine (HI.out _ _ _ _ ((ho24.intss).ext (by (repeat (first | with_reducible exact Ext.refl _ | with_reducible assumption | ((with_reducible refine Ext.setCell ?_ ?_ _); rotate_left; focus (first | omega | (simp <;> omega))) | with_reducible refine Ext.alloc ?_ _ | with_reducible refine Ext.drewN ?_ _ | with_reducible refine Ext.drew ?_ | with_reducible refine Ext.trans ?_ (by with_reducible assumption))))) _ _ _ ((ho25.intssC).ext (by (repeat (first | with_reducible exact Ext.refl _ | with_reducible assumption | ((with_reducible refine Ext.setCell ?_ ?_ _); rotate_left; focus (first | omega | (simp <;> omega))) | with_reducible refine Ext.alloc ?_ _ | with_reducible refine Ext.drewN ?_ _ | with_reducible refine Ext.drew ?_ | with_reducible refine Ext.trans ?_ (by with_reducible assumption))))) _ _ _ ((ho26.ints).ext (by (repeat (first | with_reducible exact Ext.refl _ | with_reducible assumption | ((with_reducible refine Ext.setCell ?_ ?_ _); rotate_left; focus (first | omega | (simp <;> omega))) | with_reducible refine Ext.alloc ?_ _ | with_reducible refine Ext.drewN ?_ _ | with_reducible refine Ext.drew ?_ | with_reducible refine Ext.trans ?_ (by with_reducible assumption)))))).mono ?_
  rintro e w27 ⟨A27_0, n27_0, c27_0, rfl, ho27_0, he27⟩
  have s_w27 : w26.heap.size ≤ w27.heap.size := by have := he27.size; (try simp at this); omega
  have z_w27_0 : w.heap.size < w27.heap.size := by have := he27.size; (try simp at this); omega
  have c_w27_0_0 := he27.cell (p := ⟨w.heap.size, 0, none⟩) (u := .int .i64 bf) (by first | assumption | simp [go_sem] | simp [go_sem, *])
  have c_w27_0_1 := he27.cell (p := ⟨w.heap.size, 1, none⟩) (u := .slice Af nf df) (by first | assumption | simp [go_sem] | simp [go_sem, *])
  have z_w27_1 : w7.heap.size < w27.heap.size := by have := he27.size; (try simp at this); omega
  have c_w27_1_0 := he27.cell (p := ⟨w7.heap.size, 0, none⟩) (u := .int .i64 bf) (by first | assumption | simp [go_sem] | simp [go_sem, *])
  have c_w27_1_1 := he27.cell (p := ⟨w7.heap.size, 1, none⟩) (u := .slice X7 nf Y7) (by first | assumption | simp [go_sem] | simp [go_sem, *])
  have ho27_0 : ObI 3 w27 (w26.heap.size) w27.heap.size A27_0 n27_0 c27_0 F := by simpa using ho27_0
  have q_ho27_0 := ho27_0.small
  go_wp2_with fail
  refine (eqIntS_same _ _ _ _ _ _ F _ ((ho27_0.ints).ext (by (repeat (first | with_reducible exact Ext.refl _ | with_reducible assumption | ((with_reducible refine Ext.setCell ?_ ?_ _); rotate_left; focus (first | omega | (simp <;> omega))) | with_reducible refine Ext.alloc ?_ _ | with_reducible refine Ext.drewN ?_ _ | with_reducible refine Ext.drew ?_ | with_reducible refine Ext.trans ?_ (by with_reducible assumption))))) ((ho6_0_18_19_20_22.ints).ext (by (repeat (first | with_reducible exact Ext.refl _ | with_reducible assumption | ((with_reducible refine Ext.setCell ?_ ?_ _); rotate_left; focus (first | omega | (simp <;> omega))) | with_reducible refine Ext.alloc ?_ _ | with_reducible refine Ext.drewN ?_ _ | with_reducible refine Ext.drew ?_ | with_reducible refine Ext.trans ?_ (by with_reducible assumption)))))).mono ?_
  rintro e w28 ⟨rfl, he28⟩
  have s_w28 : w27.heap.size ≤ w28.heap.size := by have := he28.size; (try simp at this); omega
  have z_w28_0 : w.heap.size < w28.heap.size := by have := he28.size; (try simp at this); omega
  have c_w28_0_0 := he28.cell (p := ⟨w.heap.size, 0, none⟩) (u := .int .i64 bf) (by first | assumption | simp [go_sem] | simp [go_sem, *])
  have c_w28_0_1 := he28.cell (p := ⟨w.heap.size, 1, none⟩) (u := .slice Af nf df) (by first | assumption | simp [go_sem] | simp [go_sem, *])
  have z_w28_1 : w7.heap.size < w28.heap.size := by have := he28.size; (try simp at this); omega
  have c_w28_1_0 := he28.cell (p := ⟨w7.heap.size, 0, none⟩) (u := .int .i64 bf) (by first | assumption | simp [go_sem] | simp [go_sem, *])
  have c_w28_1_1 := he28.cell (p := ⟨w7.heap.size, 1, none⟩) (u := .slice X7 nf Y7) (by first | assumption | simp [go_sem] | simp [go_sem, *])
  go_wp2_with fail
  refine (heldIntS_o _ _ _ _ _ _ _ (hm22.ext (by (repeat (first | with_reducible exact Ext.refl _ | with_reducible assumption | ((with_reducible refine Ext.setCell ?_ ?_ _); rotate_left; focus (first | omega | (simp <;> omega))) | with_reducible refine Ext.alloc ?_ _ | with_reducible refine Ext.drewN ?_ _ | with_reducible refine Ext.drew ?_ | with_reducible refine Ext.trans ?_ (by with_reducible assumption))))) (by omega)).mono ?_
  rintro e w29 ⟨rfl, he29⟩
  have s_w29 : w28.heap.size ≤ w29.heap.size := by have := he29.size; (try simp at this); omega
  have z_w29_0 : w.heap.size < w29.heap.size := by have := he29.size; (try simp at this); omega
  have c_w29_0_0 := he29.cell (p := ⟨w.heap.size, 0, none⟩) (u := .int .i64 bf) (by first | assumption | simp [go_sem] | simp [go_sem, *])
  have c_w29_0_1 := he29.cell (p := ⟨w.heap.size, 1, none⟩) (u := .slice Af nf df) (by first | assumption | simp [go_sem] | simp [go_sem, *])
  have z_w29_1 : w7.heap.size < w29.heap.size := by have := he29.size; (try simp at this); omega
  have c_w29_1_0 := he29.cell (p := ⟨w7.heap.size, 0, none⟩) (u := .int .i64 bf) (by first | assumption | simp [go_sem] | simp [go_sem, *])
  have c_w29_1_1 := he29.cell (p := ⟨w7.heap.size, 1, none⟩) (u := .slice X7 nf Y7) (by first | assumption | simp [go_sem] | simp [go_sem, *])
  go_wp2_with fail
  go_ret
  exact ⟨rfl, by (repeat (first | with_reducible exact Ext.refl _ | with_reducible assumption | ((with_reducible refine Ext.setCell ?_ ?_ _); rotate_left; focus (first | omega | (simp <;> omega))) | with_reducible refine Ext.alloc ?_ _ | with_reducible refine Ext.drewN ?_ _ | with_reducible refine Ext.drew ?_ | with_reducible refine Ext.trans ?_ (by with_reducible assumption)))⟩
end Go.Proofs.Ytebklankehkmhaa
