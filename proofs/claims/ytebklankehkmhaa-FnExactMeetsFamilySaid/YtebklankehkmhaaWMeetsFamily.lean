/-
  PROVED: the walk of the law FnExactMeetsFamily: it returns true for every input.
-/
import Derived.Test.YtebklankehkmhaaF13
import Derived.Test.YtebklankehkmhaaC32
namespace Go.Proofs.Ytebklankehkmhaa
set_option linter.unusedSimpArgs false
set_option linter.unusedVariables false
open Go.RowKit
set_option maxRecDepth 100000 in
set_option maxHeartbeats 8000000 in
theorem MeetsFamily_law (Af : Option Addr) (nf df : Nat) (bf : Int) (xsf : List (List Int)) (wd : Int) (Al : Option Addr) (nl dl : Nat) (xsl : List (List Int)) (Aq : Option Addr) (nq dq : Nat) (xsq : List Int) (w : World) (hf : Intss w Af nf xsf) (hl : Intss w Al nl xsl) (hq : Ints w Aq nq xsq) :
    Calls Try.prog 11 #[.agg #[.int .i64 bf, .slice Af nf df], .int .i64 wd, .slice Al nl dl, .slice Aq nq dq] w fun e w' => e = .returned (.bool true) ∧ Ext w w' := by
  have hbf := hf.bound
  have hbl := hl.bound
  have hbq := hq.bound
  have hs := fun w A n c (h : Intss w A n xsf) B m d (k : IntssC w B m xsl) X y z (j : Ints w X y xsq) => spec_MeetsFamily_c bf wd A n c xsf B m d xsl X y z xsq w h k j
  have hi := fun w A n c (h : Intss w A n xsf) B m d (k : IntssC w B m xsl) X y z (j : Ints w X y xsq) => impl_MeetsFamily_c bf wd A n c xsf B m d xsl X y z xsq w h k j
  generalize meetR bf wd xsf xsl xsq = F at hs hi
  generalize meetOk bf wd xsf xsl xsq = ok at hs hi
  have HS := hide hs
  have HI := hide hi
  clear hs hi
  by_cases hsq : nq ≤ 1048576
  rotate_left
  · go_enter Try.func11, Try.ntmps11
    go_wp2
    go_ret
    exact ⟨rfl, by (repeat (first | with_reducible exact Ext.refl _ | with_reducible assumption | ((with_reducible refine Ext.setCell ?_ ?_ _); rotate_left; focus (first | omega | (simp <;> omega))) | with_reducible refine Ext.alloc ?_ _ | with_reducible refine Ext.drewN ?_ _ | with_reducible refine Ext.drew ?_ | with_reducible refine Ext.trans ?_ (by with_reducible assumption)))⟩
  by_cases hsf : rowsSize xsf ≤ 1048576
  rotate_left
  · skip
    go_enter Try.func11, Try.ntmps11
    go_wp2_with fail
    refine (szCnf_no _ _ _ _ bf xsf _ (hf.ext (by (repeat (first | with_reducible exact Ext.refl _ | with_reducible assumption | ((with_reducible refine Ext.setCell ?_ ?_ _); rotate_left; focus (first | omega | (simp <;> omega))) | with_reducible refine Ext.alloc ?_ _ | with_reducible refine Ext.drewN ?_ _ | with_reducible refine Ext.drew ?_ | with_reducible refine Ext.trans ?_ (by with_reducible assumption))))) (by omega) (by omega)).mono ?_
    rintro e w1 ⟨rfl, he1⟩
    have s_w1 : w.heap.size ≤ w1.heap.size := by have := he1.size; (try simp at this); omega
    have z_w1_0 : w.heap.size < w1.heap.size := by have := he1.size; (try simp at this); omega
    have c_w1_0_0 := he1.cell (p := ⟨w.heap.size, 0, none⟩) (u := .int .i64 bf) (by first | assumption | simp [go_sem] | simp [go_sem, *])
    have c_w1_0_1 := he1.cell (p := ⟨w.heap.size, 1, none⟩) (u := .slice Af nf df) (by first | assumption | simp [go_sem] | simp [go_sem, *])
    go_wp2_with fail
    go_ret
    exact ⟨rfl, by (repeat (first | with_reducible exact Ext.refl _ | with_reducible assumption | ((with_reducible refine Ext.setCell ?_ ?_ _); rotate_left; focus (first | omega | (simp <;> omega))) | with_reducible refine Ext.alloc ?_ _ | with_reducible refine Ext.drewN ?_ _ | with_reducible refine Ext.drew ?_ | with_reducible refine Ext.trans ?_ (by with_reducible assumption)))⟩
  by_cases hsl : rowsSize xsf + rowsSize xsl ≤ 1048576
  rotate_left
  · skip
    go_enter Try.func11, Try.ntmps11
    go_wp2_with fail
    refine (szCnf_fit _ _ _ _ bf xsf _ (hf.ext (by (repeat (first | with_reducible exact Ext.refl _ | with_reducible assumption | ((with_reducible refine Ext.setCell ?_ ?_ _); rotate_left; focus (first | omega | (simp <;> omega))) | with_reducible refine Ext.alloc ?_ _ | with_reducible refine Ext.drewN ?_ _ | with_reducible refine Ext.drew ?_ | with_reducible refine Ext.trans ?_ (by with_reducible assumption))))) (by omega) (by omega)).mono ?_
    rintro e w1 ⟨rfl, he1⟩
    have s_w1 : w.heap.size ≤ w1.heap.size := by have := he1.size; (try simp at this); omega
    have z_w1_0 : w.heap.size < w1.heap.size := by have := he1.size; (try simp at this); omega
    have c_w1_0_0 := he1.cell (p := ⟨w.heap.size, 0, none⟩) (u := .int .i64 bf) (by first | assumption | simp [go_sem] | simp [go_sem, *])
    have c_w1_0_1 := he1.cell (p := ⟨w.heap.size, 1, none⟩) (u := .slice Af nf df) (by first | assumption | simp [go_sem] | simp [go_sem, *])
    go_wp2_with fail
    refine (szIntSS_no _ _ _ _ xsl _ (hl.ext (by (repeat (first | with_reducible exact Ext.refl _ | with_reducible assumption | ((with_reducible refine Ext.setCell ?_ ?_ _); rotate_left; focus (first | omega | (simp <;> omega))) | with_reducible refine Ext.alloc ?_ _ | with_reducible refine Ext.drewN ?_ _ | with_reducible refine Ext.drew ?_ | with_reducible refine Ext.trans ?_ (by with_reducible assumption))))) (by omega) (by omega)).mono ?_
    rintro e w2 ⟨rfl, he2⟩
    have s_w2 : w1.heap.size ≤ w2.heap.size := by have := he2.size; (try simp at this); omega
    have z_w2_0 : w.heap.size < w2.heap.size := by have := he2.size; (try simp at this); omega
    have c_w2_0_0 := he2.cell (p := ⟨w.heap.size, 0, none⟩) (u := .int .i64 bf) (by first | assumption | simp [go_sem] | simp [go_sem, *])
    have c_w2_0_1 := he2.cell (p := ⟨w.heap.size, 1, none⟩) (u := .slice Af nf df) (by first | assumption | simp [go_sem] | simp [go_sem, *])
    go_wp2_with fail
    go_ret
    exact ⟨rfl, by (repeat (first | with_reducible exact Ext.refl _ | with_reducible assumption | ((with_reducible refine Ext.setCell ?_ ?_ _); rotate_left; focus (first | omega | (simp <;> omega))) | with_reducible refine Ext.alloc ?_ _ | with_reducible refine Ext.drewN ?_ _ | with_reducible refine Ext.drew ?_ | with_reducible refine Ext.trans ?_ (by with_reducible assumption)))⟩
  go_enter Try.func11, Try.ntmps11
  go_wp2_with fail
  refine (szCnf_fit _ _ _ _ bf xsf _ (hf.ext (by (repeat (first | with_reducible exact Ext.refl _ | with_reducible assumption | ((with_reducible refine Ext.setCell ?_ ?_ _); rotate_left; focus (first | omega | (simp <;> omega))) | with_reducible refine Ext.alloc ?_ _ | with_reducible refine Ext.drewN ?_ _ | with_reducible refine Ext.drew ?_ | with_reducible refine Ext.trans ?_ (by with_reducible assumption))))) (by omega) (by omega)).mono ?_
  rintro e w1 ⟨rfl, he1⟩
  have s_w1 : w.heap.size ≤ w1.heap.size := by have := he1.size; (try simp at this); omega
  have z_w1_0 : w.heap.size < w1.heap.size := by have := he1.size; (try simp at this); omega
  have c_w1_0_0 := he1.cell (p := ⟨w.heap.size, 0, none⟩) (u := .int .i64 bf) (by first | assumption | simp [go_sem] | simp [go_sem, *])
  have c_w1_0_1 := he1.cell (p := ⟨w.heap.size, 1, none⟩) (u := .slice Af nf df) (by first | assumption | simp [go_sem] | simp [go_sem, *])
  go_wp2_with fail
  refine (szIntSS_fit _ _ _ _ xsl _ (hl.ext (by (repeat (first | with_reducible exact Ext.refl _ | with_reducible assumption | ((with_reducible refine Ext.setCell ?_ ?_ _); rotate_left; focus (first | omega | (simp <;> omega))) | with_reducible refine Ext.alloc ?_ _ | with_reducible refine Ext.drewN ?_ _ | with_reducible refine Ext.drew ?_ | with_reducible refine Ext.trans ?_ (by with_reducible assumption))))) (by omega) (by omega)).mono ?_
  rintro e w2 ⟨rfl, he2⟩
  have s_w2 : w1.heap.size ≤ w2.heap.size := by have := he2.size; (try simp at this); omega
  have z_w2_0 : w.heap.size < w2.heap.size := by have := he2.size; (try simp at this); omega
  have c_w2_0_0 := he2.cell (p := ⟨w.heap.size, 0, none⟩) (u := .int .i64 bf) (by first | assumption | simp [go_sem] | simp [go_sem, *])
  have c_w2_0_1 := he2.cell (p := ⟨w.heap.size, 1, none⟩) (u := .slice Af nf df) (by first | assumption | simp [go_sem] | simp [go_sem, *])
  go_wp2_with fail
  have hnf := rowsSize_len hf.len (t := 1048576) (by omega)
  have hnl := rowsSize_len hl.len (t := 1048576) (by omega)
  refine (toCnf_o _ _ _ bf xsf _ (hf.ext (by (repeat (first | with_reducible exact Ext.refl _ | with_reducible assumption | ((with_reducible refine Ext.setCell ?_ ?_ _); rotate_left; focus (first | omega | (simp <;> omega))) | with_reducible refine Ext.alloc ?_ _ | with_reducible refine Ext.drewN ?_ _ | with_reducible refine Ext.drew ?_ | with_reducible refine Ext.trans ?_ (by with_reducible assumption))))) (by omega)).mono ?_
  rintro e w3 ⟨X3, Y3, rfl, ho3, he3⟩
  have s_w3 : w2.heap.size ≤ w3.heap.size := by have := he3.size; (try simp at this); omega
  have z_w3_0 : w.heap.size < w3.heap.size := by have := he3.size; (try simp at this); omega
  have c_w3_0_0 := he3.cell (p := ⟨w.heap.size, 0, none⟩) (u := .int .i64 bf) (by first | assumption | simp [go_sem] | simp [go_sem, *])
  have c_w3_0_1 := he3.cell (p := ⟨w.heap.size, 1, none⟩) (u := .slice Af nf df) (by first | assumption | simp [go_sem] | simp [go_sem, *])
  have ho3 : ObR 22 3 w3 (w2.heap.size) w3.heap.size X3 nf Y3 xsf := by simpa using ho3
  have q_ho3 := rowsTotal_small ho3.small
  go_wp2_with fail
  refine (toIntSS_o _ _ _ xsl _ (hl.ext (by (repeat (first | with_reducible exact Ext.refl _ | with_reducible assumption | ((with_reducible refine Ext.setCell ?_ ?_ _); rotate_left; focus (first | omega | (simp <;> omega))) | with_reducible refine Ext.alloc ?_ _ | with_reducible refine Ext.drewN ?_ _ | with_reducible refine Ext.drew ?_ | with_reducible refine Ext.trans ?_ (by with_reducible assumption))))) (by omega)).mono ?_
  rintro e w4 ⟨X4, Y4, rfl, ho4, he4⟩
  have s_w4 : w3.heap.size ≤ w4.heap.size := by have := he4.size; (try simp at this); omega
  have z_w4_0 : w.heap.size < w4.heap.size := by have := he4.size; (try simp at this); omega
  have c_w4_0_0 := he4.cell (p := ⟨w.heap.size, 0, none⟩) (u := .int .i64 bf) (by first | assumption | simp [go_sem] | simp [go_sem, *])
  have c_w4_0_1 := he4.cell (p := ⟨w.heap.size, 1, none⟩) (u := .slice Af nf df) (by first | assumption | simp [go_sem] | simp [go_sem, *])
  have ho4 : ObR 22 3 w4 (w3.heap.size) w4.heap.size X4 nl Y4 xsl := by simpa using ho4
  have q_ho4 := rowsTotal_small ho4.small
  go_wp2_with fail
  refine (toIntS_o _ _ _ xsq _ (hq.ext (by (repeat (first | with_reducible exact Ext.refl _ | with_reducible assumption | ((with_reducible refine Ext.setCell ?_ ?_ _); rotate_left; focus (first | omega | (simp <;> omega))) | with_reducible refine Ext.alloc ?_ _ | with_reducible refine Ext.drewN ?_ _ | with_reducible refine Ext.drew ?_ | with_reducible refine Ext.trans ?_ (by with_reducible assumption))))) (by omega)).mono ?_
  rintro e w5 ⟨X5, Y5, rfl, ho5, he5⟩
  have s_w5 : w4.heap.size ≤ w5.heap.size := by have := he5.size; (try simp at this); omega
  have z_w5_0 : w.heap.size < w5.heap.size := by have := he5.size; (try simp at this); omega
  have c_w5_0_0 := he5.cell (p := ⟨w.heap.size, 0, none⟩) (u := .int .i64 bf) (by first | assumption | simp [go_sem] | simp [go_sem, *])
  have c_w5_0_1 := he5.cell (p := ⟨w.heap.size, 1, none⟩) (u := .slice Af nf df) (by first | assumption | simp [go_sem] | simp [go_sem, *])
  have ho5 : ObI 3 w5 (w4.heap.size) w5.heap.size X5 nq Y5 xsq := by simpa using ho5
  have q_ho5 := ho5.small
  go_wp2_with fail
  refine (HS.out _ _ _ _ ((ho3.intss).ext (by (repeat (first | with_reducible exact Ext.refl _ | with_reducible assumption | ((with_reducible refine Ext.setCell ?_ ?_ _); rotate_left; focus (first | omega | (simp <;> omega))) | with_reducible refine Ext.alloc ?_ _ | with_reducible refine Ext.drewN ?_ _ | with_reducible refine Ext.drew ?_ | with_reducible refine Ext.trans ?_ (by with_reducible assumption))))) _ _ _ ((ho4.intssC).ext (by (repeat (first | with_reducible exact Ext.refl _ | with_reducible assumption | ((with_reducible refine Ext.setCell ?_ ?_ _); rotate_left; focus (first | omega | (simp <;> omega))) | with_reducible refine Ext.alloc ?_ _ | with_reducible refine Ext.drewN ?_ _ | with_reducible refine Ext.drew ?_ | with_reducible refine Ext.trans ?_ (by with_reducible assumption))))) _ _ _ ((ho5.ints).ext (by (repeat (first | with_reducible exact Ext.refl _ | with_reducible assumption | ((with_reducible refine Ext.setCell ?_ ?_ _); rotate_left; focus (first | omega | (simp <;> omega))) | with_reducible refine Ext.alloc ?_ _ | with_reducible refine Ext.drewN ?_ _ | with_reducible refine Ext.drew ?_ | with_reducible refine Ext.trans ?_ (by with_reducible assumption)))))).mono ?_
  rintro e w6 ⟨rfl, he6⟩
  have s_w6 : w5.heap.size ≤ w6.heap.size := by have := he6.size; (try simp at this); omega
  have z_w6_0 : w.heap.size < w6.heap.size := by have := he6.size; (try simp at this); omega
  have c_w6_0_0 := he6.cell (p := ⟨w.heap.size, 0, none⟩) (u := .int .i64 bf) (by first | assumption | simp [go_sem] | simp [go_sem, *])
  have c_w6_0_1 := he6.cell (p := ⟨w.heap.size, 1, none⟩) (u := .slice Af nf df) (by first | assumption | simp [go_sem] | simp [go_sem, *])
  go_wp2_with fail
  refine (toCnf_o _ _ _ bf xsf _ (hf.ext (by (repeat (first | with_reducible exact Ext.refl _ | with_reducible assumption | ((with_reducible refine Ext.setCell ?_ ?_ _); rotate_left; focus (first | omega | (simp <;> omega))) | with_reducible refine Ext.alloc ?_ _ | with_reducible refine Ext.drewN ?_ _ | with_reducible refine Ext.drew ?_ | with_reducible refine Ext.trans ?_ (by with_reducible assumption))))) (by omega)).mono ?_
  rintro e w7 ⟨X7, Y7, rfl, ho7, he7⟩
  have s_w7 : w6.heap.size ≤ w7.heap.size := by have := he7.size; (try simp at this); omega
  have z_w7_0 : w.heap.size < w7.heap.size := by have := he7.size; (try simp at this); omega
  have c_w7_0_0 := he7.cell (p := ⟨w.heap.size, 0, none⟩) (u := .int .i64 bf) (by first | assumption | simp [go_sem] | simp [go_sem, *])
  have c_w7_0_1 := he7.cell (p := ⟨w.heap.size, 1, none⟩) (u := .slice Af nf df) (by first | assumption | simp [go_sem] | simp [go_sem, *])
  have ho7 : ObR 22 3 w7 (w6.heap.size) w7.heap.size X7 nf Y7 xsf := by simpa using ho7
  have q_ho7 := rowsTotal_small ho7.small
  go_wp2_with fail
  refine (toIntSS_o _ _ _ xsl _ (hl.ext (by (repeat (first | with_reducible exact Ext.refl _ | with_reducible assumption | ((with_reducible refine Ext.setCell ?_ ?_ _); rotate_left; focus (first | omega | (simp <;> omega))) | with_reducible refine Ext.alloc ?_ _ | with_reducible refine Ext.drewN ?_ _ | with_reducible refine Ext.drew ?_ | with_reducible refine Ext.trans ?_ (by with_reducible assumption))))) (by omega)).mono ?_
  rintro e w8 ⟨X8, Y8, rfl, ho8, he8⟩
  have s_w8 : w7.heap.size ≤ w8.heap.size := by have := he8.size; (try simp at this); omega
  have z_w8_0 : w.heap.size < w8.heap.size := by have := he8.size; (try simp at this); omega
  have c_w8_0_0 := he8.cell (p := ⟨w.heap.size, 0, none⟩) (u := .int .i64 bf) (by first | assumption | simp [go_sem] | simp [go_sem, *])
  have c_w8_0_1 := he8.cell (p := ⟨w.heap.size, 1, none⟩) (u := .slice Af nf df) (by first | assumption | simp [go_sem] | simp [go_sem, *])
  have z_w8_1 : w7.heap.size < w8.heap.size := by have := he8.size; (try simp at this); omega
  have c_w8_1_0 := he8.cell (p := ⟨w7.heap.size, 0, none⟩) (u := .int .i64 bf) (by first | assumption | simp [go_sem] | simp [go_sem, *])
  have c_w8_1_1 := he8.cell (p := ⟨w7.heap.size, 1, none⟩) (u := .slice X7 nf Y7) (by first | assumption | simp [go_sem] | simp [go_sem, *])
  have ho8 : ObR 22 3 w8 (w7.heap.size + 1) w8.heap.size X8 nl Y8 xsl := by simpa using ho8
  have q_ho8 := rowsTotal_small ho8.small
  go_wp2_with fail
  refine (toIntS_o _ _ _ xsq _ (hq.ext (by (repeat (first | with_reducible exact Ext.refl _ | with_reducible assumption | ((with_reducible refine Ext.setCell ?_ ?_ _); rotate_left; focus (first | omega | (simp <;> omega))) | with_reducible refine Ext.alloc ?_ _ | with_reducible refine Ext.drewN ?_ _ | with_reducible refine Ext.drew ?_ | with_reducible refine Ext.trans ?_ (by with_reducible assumption))))) (by omega)).mono ?_
  rintro e w9 ⟨X9, Y9, rfl, ho9, he9⟩
  have s_w9 : w8.heap.size ≤ w9.heap.size := by have := he9.size; (try simp at this); omega
  have z_w9_0 : w.heap.size < w9.heap.size := by have := he9.size; (try simp at this); omega
  have c_w9_0_0 := he9.cell (p := ⟨w.heap.size, 0, none⟩) (u := .int .i64 bf) (by first | assumption | simp [go_sem] | simp [go_sem, *])
  have c_w9_0_1 := he9.cell (p := ⟨w.heap.size, 1, none⟩) (u := .slice Af nf df) (by first | assumption | simp [go_sem] | simp [go_sem, *])
  have z_w9_1 : w7.heap.size < w9.heap.size := by have := he9.size; (try simp at this); omega
  have c_w9_1_0 := he9.cell (p := ⟨w7.heap.size, 0, none⟩) (u := .int .i64 bf) (by first | assumption | simp [go_sem] | simp [go_sem, *])
  have c_w9_1_1 := he9.cell (p := ⟨w7.heap.size, 1, none⟩) (u := .slice X7 nf Y7) (by first | assumption | simp [go_sem] | simp [go_sem, *])
  have ho9 : ObI 3 w9 (w8.heap.size) w9.heap.size X9 nq Y9 xsq := by simpa using ho9
  have q_ho9 := ho9.small
  go_wp2_with fail
  refine (HI.out _ _ _ _ ((ho7.intss).ext (by (repeat (first | with_reducible exact Ext.refl _ | with_reducible assumption | ((with_reducible refine Ext.setCell ?_ ?_ _); rotate_left; focus (first | omega | (simp <;> omega))) | with_reducible refine Ext.alloc ?_ _ | with_reducible refine Ext.drewN ?_ _ | with_reducible refine Ext.drew ?_ | with_reducible refine Ext.trans ?_ (by with_reducible assumption))))) _ _ _ ((ho8.intssC).ext (by (repeat (first | with_reducible exact Ext.refl _ | with_reducible assumption | ((with_reducible refine Ext.setCell ?_ ?_ _); rotate_left; focus (first | omega | (simp <;> omega))) | with_reducible refine Ext.alloc ?_ _ | with_reducible refine Ext.drewN ?_ _ | with_reducible refine Ext.drew ?_ | with_reducible refine Ext.trans ?_ (by with_reducible assumption))))) _ _ _ ((ho9.ints).ext (by (repeat (first | with_reducible exact Ext.refl _ | with_reducible assumption | ((with_reducible refine Ext.setCell ?_ ?_ _); rotate_left; focus (first | omega | (simp <;> omega))) | with_reducible refine Ext.alloc ?_ _ | with_reducible refine Ext.drewN ?_ _ | with_reducible refine Ext.drew ?_ | with_reducible refine Ext.trans ?_ (by with_reducible assumption)))))).mono ?_
  rintro e w10 ⟨rfl, he10⟩
  have s_w10 : w9.heap.size ≤ w10.heap.size := by have := he10.size; (try simp at this); omega
  have z_w10_0 : w.heap.size < w10.heap.size := by have := he10.size; (try simp at this); omega
  have c_w10_0_0 := he10.cell (p := ⟨w.heap.size, 0, none⟩) (u := .int .i64 bf) (by first | assumption | simp [go_sem] | simp [go_sem, *])
  have c_w10_0_1 := he10.cell (p := ⟨w.heap.size, 1, none⟩) (u := .slice Af nf df) (by first | assumption | simp [go_sem] | simp [go_sem, *])
  have z_w10_1 : w7.heap.size < w10.heap.size := by have := he10.size; (try simp at this); omega
  have c_w10_1_0 := he10.cell (p := ⟨w7.heap.size, 0, none⟩) (u := .int .i64 bf) (by first | assumption | simp [go_sem] | simp [go_sem, *])
  have c_w10_1_1 := he10.cell (p := ⟨w7.heap.size, 1, none⟩) (u := .slice X7 nf Y7) (by first | assumption | simp [go_sem] | simp [go_sem, *])
  go_wp2_with fail
  have eg10 : Ext w10 w10.drew := (Ext.refl _).drew
  go_region_held3 (fun w' => w'.cell? ⟨w.heap.size, 0, none⟩ = some (.int .i64 bf) ∧ w'.cell? ⟨w.heap.size, 1, none⟩ = some (.slice Af nf df) ∧ w'.cell? ⟨w7.heap.size, 0, none⟩ = some (.int .i64 bf) ∧ w'.cell? ⟨w7.heap.size, 1, none⟩ = some (.slice X7 nf Y7) ∧ Ext w10 w') (simp [go_sem, *]) (first | (go_at_call 25; (with_reducible refine (toCnf_o _ _ _ bf xsf _ (hf.ext (by (repeat (first | with_reducible exact Ext.refl _ | with_reducible assumption | ((with_reducible refine Ext.setCell ?_ ?_ _); rotate_left; focus (first | omega | (simp <;> omega))) | with_reducible refine Ext.alloc ?_ _ | with_reducible refine Ext.drewN ?_ _ | with_reducible refine Ext.drew ?_ | with_reducible refine Ext.trans ?_ (by with_reducible assumption))))) (by omega)).mono ?_); rintro e w11 ⟨X11, Y11, rfl, ho11, he11⟩; have c_w11_0_0 := he11.cell (p := ⟨w.heap.size, 0, none⟩) (u := .int .i64 bf) (by simp [go_sem, *]); have c_w11_0_1 := he11.cell (p := ⟨w.heap.size, 1, none⟩) (u := .slice Af nf df) (by simp [go_sem, *]); have c_w11_1_0 := he11.cell (p := ⟨w7.heap.size, 0, none⟩) (u := .int .i64 bf) (by simp [go_sem, *]); have c_w11_1_1 := he11.cell (p := ⟨w7.heap.size, 1, none⟩) (u := .slice X7 nf Y7) (by simp [go_sem, *]); have ew11 : Ext w10 w11 := Ext.trans (by (repeat (first | with_reducible exact Ext.refl _ | with_reducible assumption | ((with_reducible refine Ext.setCell ?_ ?_ _); rotate_left; focus (first | omega | (simp <;> omega))) | with_reducible refine Ext.alloc ?_ _ | with_reducible refine Ext.drewN ?_ _ | with_reducible refine Ext.drew ?_ | with_reducible refine Ext.trans ?_ (by with_reducible assumption)))) he11; have s_w11 : w10.heap.size ≤ w11.heap.size := (by have := ew11.size; (try simp at this); omega)) | (go_at_call 28; (with_reducible refine (eqCnf_same _ _ _ _ _ _ _ xsf _ ((ho7.intss).ext (by (repeat (first | with_reducible exact Ext.refl _ | with_reducible assumption | ((with_reducible refine Ext.setCell ?_ ?_ _); rotate_left; focus (first | omega | (simp <;> omega))) | with_reducible refine Ext.alloc ?_ _ | with_reducible refine Ext.drewN ?_ _ | with_reducible refine Ext.drew ?_ | with_reducible refine Ext.trans ?_ (by with_reducible assumption))))) ((ho11.intss).ext (by (repeat (first | with_reducible exact Ext.refl _ | with_reducible assumption | ((with_reducible refine Ext.setCell ?_ ?_ _); rotate_left; focus (first | omega | (simp <;> omega))) | with_reducible refine Ext.alloc ?_ _ | with_reducible refine Ext.drewN ?_ _ | with_reducible refine Ext.drew ?_ | with_reducible refine Ext.trans ?_ (by with_reducible assumption)))))).mono ?_); rintro e w12 ⟨rfl, he12⟩; have c_w12_0_0 := he12.cell (p := ⟨w.heap.size, 0, none⟩) (u := .int .i64 bf) (by simp [go_sem, *]); have c_w12_0_1 := he12.cell (p := ⟨w.heap.size, 1, none⟩) (u := .slice Af nf df) (by simp [go_sem, *]); have c_w12_1_0 := he12.cell (p := ⟨w7.heap.size, 0, none⟩) (u := .int .i64 bf) (by simp [go_sem, *]); have c_w12_1_1 := he12.cell (p := ⟨w7.heap.size, 1, none⟩) (u := .slice X7 nf Y7) (by simp [go_sem, *]); have ew12 : Ext w10 w12 := Ext.trans (by (repeat (first | with_reducible exact Ext.refl _ | with_reducible assumption | ((with_reducible refine Ext.setCell ?_ ?_ _); rotate_left; focus (first | omega | (simp <;> omega))) | with_reducible refine Ext.alloc ?_ _ | with_reducible refine Ext.drewN ?_ _ | with_reducible refine Ext.drew ?_ | with_reducible refine Ext.trans ?_ (by with_reducible assumption)))) he12; have s_w12 : w10.heap.size ≤ w12.heap.size := (by have := ew12.size; (try simp at this); omega)))
  have z_w12_0 : w.heap.size < w12.heap.size := by have := ew12.size; omega
  have z_w12_1 : w7.heap.size < w12.heap.size := by have := ew12.size; omega
  go_wp2_with fail
  refine (toIntSS_o _ _ _ xsl _ (hl.ext (by (repeat (first | with_reducible exact Ext.refl _ | with_reducible assumption | ((with_reducible refine Ext.setCell ?_ ?_ _); rotate_left; focus (first | omega | (simp <;> omega))) | with_reducible refine Ext.alloc ?_ _ | with_reducible refine Ext.drewN ?_ _ | with_reducible refine Ext.drew ?_ | with_reducible refine Ext.trans ?_ (by with_reducible assumption))))) (by omega)).mono ?_
  rintro e w13 ⟨X13, Y13, rfl, ho13, he13⟩
  have s_w13 : w12.heap.size ≤ w13.heap.size := by have := he13.size; (try simp at this); omega
  have z_w13_0 : w.heap.size < w13.heap.size := by have := he13.size; (try simp at this); omega
  have c_w13_0_0 := he13.cell (p := ⟨w.heap.size, 0, none⟩) (u := .int .i64 bf) (by first | assumption | simp [go_sem] | simp [go_sem, *])
  have c_w13_0_1 := he13.cell (p := ⟨w.heap.size, 1, none⟩) (u := .slice Af nf df) (by first | assumption | simp [go_sem] | simp [go_sem, *])
  have z_w13_1 : w7.heap.size < w13.heap.size := by have := he13.size; (try simp at this); omega
  have c_w13_1_0 := he13.cell (p := ⟨w7.heap.size, 0, none⟩) (u := .int .i64 bf) (by first | assumption | simp [go_sem] | simp [go_sem, *])
  have c_w13_1_1 := he13.cell (p := ⟨w7.heap.size, 1, none⟩) (u := .slice X7 nf Y7) (by first | assumption | simp [go_sem] | simp [go_sem, *])
  have ho13 : ObR 22 3 w13 (w12.heap.size) w13.heap.size X13 nl Y13 xsl := by simpa using ho13
  have q_ho13 := rowsTotal_small ho13.small
  go_wp2_with fail
  refine (eqIntSS_same _ _ _ _ _ _ xsl _ ((ho8.intss).ext (by (repeat (first | with_reducible exact Ext.refl _ | with_reducible assumption | ((with_reducible refine Ext.setCell ?_ ?_ _); rotate_left; focus (first | omega | (simp <;> omega))) | with_reducible refine Ext.alloc ?_ _ | with_reducible refine Ext.drewN ?_ _ | with_reducible refine Ext.drew ?_ | with_reducible refine Ext.trans ?_ (by with_reducible assumption))))) ((ho13.intss).ext (by (repeat (first | with_reducible exact Ext.refl _ | with_reducible assumption | ((with_reducible refine Ext.setCell ?_ ?_ _); rotate_left; focus (first | omega | (simp <;> omega))) | with_reducible refine Ext.alloc ?_ _ | with_reducible refine Ext.drewN ?_ _ | with_reducible refine Ext.drew ?_ | with_reducible refine Ext.trans ?_ (by with_reducible assumption)))))).mono ?_
  rintro e w14 ⟨rfl, he14⟩
  have s_w14 : w13.heap.size ≤ w14.heap.size := by have := he14.size; (try simp at this); omega
  have z_w14_0 : w.heap.size < w14.heap.size := by have := he14.size; (try simp at this); omega
  have c_w14_0_0 := he14.cell (p := ⟨w.heap.size, 0, none⟩) (u := .int .i64 bf) (by first | assumption | simp [go_sem] | simp [go_sem, *])
  have c_w14_0_1 := he14.cell (p := ⟨w.heap.size, 1, none⟩) (u := .slice Af nf df) (by first | assumption | simp [go_sem] | simp [go_sem, *])
  have z_w14_1 : w7.heap.size < w14.heap.size := by have := he14.size; (try simp at this); omega
  have c_w14_1_0 := he14.cell (p := ⟨w7.heap.size, 0, none⟩) (u := .int .i64 bf) (by first | assumption | simp [go_sem] | simp [go_sem, *])
  have c_w14_1_1 := he14.cell (p := ⟨w7.heap.size, 1, none⟩) (u := .slice X7 nf Y7) (by first | assumption | simp [go_sem] | simp [go_sem, *])
  go_wp2_with fail
  refine (toIntS_o _ _ _ xsq _ (hq.ext (by (repeat (first | with_reducible exact Ext.refl _ | with_reducible assumption | ((with_reducible refine Ext.setCell ?_ ?_ _); rotate_left; focus (first | omega | (simp <;> omega))) | with_reducible refine Ext.alloc ?_ _ | with_reducible refine Ext.drewN ?_ _ | with_reducible refine Ext.drew ?_ | with_reducible refine Ext.trans ?_ (by with_reducible assumption))))) (by omega)).mono ?_
  rintro e w15 ⟨X15, Y15, rfl, ho15, he15⟩
  have s_w15 : w14.heap.size ≤ w15.heap.size := by have := he15.size; (try simp at this); omega
  have z_w15_0 : w.heap.size < w15.heap.size := by have := he15.size; (try simp at this); omega
  have c_w15_0_0 := he15.cell (p := ⟨w.heap.size, 0, none⟩) (u := .int .i64 bf) (by first | assumption | simp [go_sem] | simp [go_sem, *])
  have c_w15_0_1 := he15.cell (p := ⟨w.heap.size, 1, none⟩) (u := .slice Af nf df) (by first | assumption | simp [go_sem] | simp [go_sem, *])
  have z_w15_1 : w7.heap.size < w15.heap.size := by have := he15.size; (try simp at this); omega
  have c_w15_1_0 := he15.cell (p := ⟨w7.heap.size, 0, none⟩) (u := .int .i64 bf) (by first | assumption | simp [go_sem] | simp [go_sem, *])
  have c_w15_1_1 := he15.cell (p := ⟨w7.heap.size, 1, none⟩) (u := .slice X7 nf Y7) (by first | assumption | simp [go_sem] | simp [go_sem, *])
  have ho15 : ObI 3 w15 (w14.heap.size) w15.heap.size X15 nq Y15 xsq := by simpa using ho15
  have q_ho15 := ho15.small
  go_wp2_with fail
  refine (eqIntS_same _ _ _ _ _ _ xsq _ ((ho9.ints).ext (by (repeat (first | with_reducible exact Ext.refl _ | with_reducible assumption | ((with_reducible refine Ext.setCell ?_ ?_ _); rotate_left; focus (first | omega | (simp <;> omega))) | with_reducible refine Ext.alloc ?_ _ | with_reducible refine Ext.drewN ?_ _ | with_reducible refine Ext.drew ?_ | with_reducible refine Ext.trans ?_ (by with_reducible assumption))))) ((ho15.ints).ext (by (repeat (first | with_reducible exact Ext.refl _ | with_reducible assumption | ((with_reducible refine Ext.setCell ?_ ?_ _); rotate_left; focus (first | omega | (simp <;> omega))) | with_reducible refine Ext.alloc ?_ _ | with_reducible refine Ext.drewN ?_ _ | with_reducible refine Ext.drew ?_ | with_reducible refine Ext.trans ?_ (by with_reducible assumption)))))).mono ?_
  rintro e w16 ⟨rfl, he16⟩
  have s_w16 : w15.heap.size ≤ w16.heap.size := by have := he16.size; (try simp at this); omega
  have z_w16_0 : w.heap.size < w16.heap.size := by have := he16.size; (try simp at this); omega
  have c_w16_0_0 := he16.cell (p := ⟨w.heap.size, 0, none⟩) (u := .int .i64 bf) (by first | assumption | simp [go_sem] | simp [go_sem, *])
  have c_w16_0_1 := he16.cell (p := ⟨w.heap.size, 1, none⟩) (u := .slice Af nf df) (by first | assumption | simp [go_sem] | simp [go_sem, *])
  have z_w16_1 : w7.heap.size < w16.heap.size := by have := he16.size; (try simp at this); omega
  have c_w16_1_0 := he16.cell (p := ⟨w7.heap.size, 0, none⟩) (u := .int .i64 bf) (by first | assumption | simp [go_sem] | simp [go_sem, *])
  have c_w16_1_1 := he16.cell (p := ⟨w7.heap.size, 1, none⟩) (u := .slice X7 nf Y7) (by first | assumption | simp [go_sem] | simp [go_sem, *])
  go_wp2_with fail
  go_ret
  exact ⟨rfl, by (repeat (first | with_reducible exact Ext.refl _ | with_reducible assumption | ((with_reducible refine Ext.setCell ?_ ?_ _); rotate_left; focus (first | omega | (simp <;> omega))) | with_reducible refine Ext.alloc ?_ _ | with_reducible refine Ext.drewN ?_ _ | with_reducible refine Ext.drew ?_ | with_reducible refine Ext.trans ?_ (by with_reducible assumption)))⟩
end Go.Proofs.Ytebklankehkmhaa
