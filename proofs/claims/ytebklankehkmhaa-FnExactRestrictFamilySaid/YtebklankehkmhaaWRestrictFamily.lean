/-
  PROVED: the walk of the law FnExactRestrictFamily: it returns true for every input.
-/
import Derived.Test.YtebklankehkmhaaF20
import Derived.Test.YtebklankehkmhaaC32
namespace Go.Proofs.Ytebklankehkmhaa
set_option linter.unusedSimpArgs false
set_option linter.unusedVariables false
open Go.RowKit
set_option maxRecDepth 100000 in
set_option maxHeartbeats 8000000 in
theorem RestrictFamily_law (Af : Option Addr) (nf df : Nat) (bf : Int) (xsf : List (List Int)) (wd : Int) (Al : Option Addr) (nl dl : Nat) (xsl : List (List Int)) (t : Int) (w : World) (hf : Intss w Af nf xsf) (hl : Intss w Al nl xsl) :
    Calls Try.prog 13 #[.agg #[.int .i64 bf, .slice Af nf df], .int .i64 wd, .slice Al nl dl, .int .i64 t] w fun e w' => e = .returned (.bool true) ∧ Ext w w' := by
  have hbf := hf.bound
  have hbl := hl.bound
  have hs := fun w A n c (h : Intss w A n xsf) B m d (k : IntssC w B m xsl) => spec_RestrictFamily_o bf wd A n c xsf B m d xsl t w h k
  have hi := fun w A n c (h : Intss w A n xsf) B m d (k : IntssC w B m xsl) => impl_RestrictFamily_o bf wd A n c xsf B m d xsl t w h k
  generalize (if restOk bf wd xsf xsl t then restG xsl t else []) = F at hs hi
  generalize restOk bf wd xsf xsl t = ok at hs hi
  have HS := hide hs
  have HI := hide hi
  clear hs hi
  by_cases hsf : rowsSize xsf ≤ 1048576
  rotate_left
  · skip
    go_enter Try.func13, Try.ntmps13
    go_wp2_with fail
    refine (szCnf_no _ _ _ _ bf xsf _ (hf.ext (by (repeat (first | with_reducible exact Ext.refl _ | with_reducible assumption | ((with_reducible refine Ext.setCell ?_ ?_ _); rotate_left; focus (first | omega | (simp <;> omega))) | with_reducible refine Ext.alloc ?_ _ | with_reducible refine Ext.drewN ?_ _ | with_reducible refine Ext.drew ?_ | with_reducible refine Ext.trans ?_ (by with_reducible assumption))))) (by omega) (by omega)).mono ?_
    rintro e w1 ⟨rfl, he1⟩
    have s_w1 : w.heap.size ≤ w1.heap.size := by have := he1.size; (try simp at this); omega
    have z_w1_0 : w.heap.size < w1.heap.size := by have := he1.size; (try simp at this); omega
    have c_w1_0_0 := he1.cell (p := ⟨w.heap.size, 0, none⟩) (u := .int .i64 bf) (by first | assumption | simp [go_sem] | simp [go_sem, *])
    have c_w1_0_1 := he1.cell (p := ⟨w.heap.size, 1, none⟩) (u := .slice Af nf df) (by first | assumption | simp [go_sem] | simp [go_sem, *])
    go_wp2_with fail
    go_ret
    exact ⟨rfl, by (repeat (first | with_reducible exact Ext.refl _ | with_reducible assumption | ((with_reducible refine Ext.setCell ?_ ?_ _); rotate_left; focus (first | omega | (simp <;> omega))) | with_reducible refine Ext.alloc ?_ _ | with_reducible refine Ext.drewN ?_ _ | with_reducible refine Ext.drew ?_ | with_reducible refine Ext.trans ?_ (by with_reducible assumption)))⟩
  by_cases hsl : rowsSize xsf + rowsSize xsl ≤ 1048576
  rotate_left
  · skip
    go_enter Try.func13, Try.ntmps13
    go_wp2_with fail
    refine (szCnf_fit _ _ _ _ bf xsf _ (hf.ext (by (repeat (first | with_reducible exact Ext.refl _ | with_reducible assumption | ((with_reducible refine Ext.setCell ?_ ?_ _); rotate_left; focus (first | omega | (simp <;> omega))) | with_reducible refine Ext.alloc ?_ _ | with_reducible refine Ext.drewN ?_ _ | with_reducible refine Ext.drew ?_ | with_reducible refine Ext.trans ?_ (by with_reducible assumption))))) (by omega) (by omega)).mono ?_
    rintro e w1 ⟨rfl, he1⟩
    have s_w1 : w.heap.size ≤ w1.heap.size := by have := he1.size; (try simp at this); omega
    have z_w1_0 : w.heap.size < w1.heap.size := by have := he1.size; (try simp at this); omega
    have c_w1_0_0 := he1.cell (p := ⟨w.heap.size, 0, none⟩) (u := .int .i64 bf) (by first | assumption | simp [go_sem] | simp [go_sem, *])
    have c_w1_0_1 := he1.cell (p := ⟨w.heap.size, 1, none⟩) (u := .slice Af nf df) (by first | assumption | simp [go_sem] | simp [go_sem, *])
    go_wp2_with fail
    refine (szIntSS_no _ _ _ _ xsl _ (hl.ext (by (repeat (first | with_reducible exact Ext.refl _ | with_reducible assumption | ((with_reducible refine Ext.setCell ?_ ?_ _); rotate_left; focus (first | omega | (simp <;> omega))) | with_reducible refine Ext.alloc ?_ _ | with_reducible refine Ext.drewN ?_ _ | with_reducible refine Ext.drew ?_ | with_reducible refine Ext.trans ?_ (by with_reducible assumption))))) (by omega) (by omega)).mono ?_
    rintro e w2 ⟨rfl, he2⟩
    have s_w2 : w1.heap.size ≤ w2.heap.size := by have := he2.size; (try simp at this); omega
    have z_w2_0 : w.heap.size < w2.heap.size := by have := he2.size; (try simp at this); omega
    have c_w2_0_0 := he2.cell (p := ⟨w.heap.size, 0, none⟩) (u := .int .i64 bf) (by first | assumption | simp [go_sem] | simp [go_sem, *])
    have c_w2_0_1 := he2.cell (p := ⟨w.heap.size, 1, none⟩) (u := .slice Af nf df) (by first | assumption | simp [go_sem] | simp [go_sem, *])
    go_wp2_with fail
    go_ret
    exact ⟨rfl, by (repeat (first | with_reducible exact Ext.refl _ | with_reducible assumption | ((with_reducible refine Ext.setCell ?_ ?_ _); rotate_left; focus (first | omega | (simp <;> omega))) | with_reducible refine Ext.alloc ?_ _ | with_reducible refine Ext.drewN ?_ _ | with_reducible refine Ext.drew ?_ | with_reducible refine Ext.trans ?_ (by with_reducible assumption)))⟩
  go_enter Try.func13, Try.ntmps13
  go_wp2_with fail
  refine (szCnf_fit _ _ _ _ bf xsf _ (hf.ext (by (repeat (first | with_reducible exact Ext.refl _ | with_reducible assumption | ((with_reducible refine Ext.setCell ?_ ?_ _); rotate_left; focus (first | omega | (simp <;> omega))) | with_reducible refine Ext.alloc ?_ _ | with_reducible refine Ext.drewN ?_ _ | with_reducible refine Ext.drew ?_ | with_reducible refine Ext.trans ?_ (by with_reducible assumption))))) (by omega) (by omega)).mono ?_
  rintro e w1 ⟨rfl, he1⟩
  have s_w1 : w.heap.size ≤ w1.heap.size := by have := he1.size; (try simp at this); omega
  have z_w1_0 : w.heap.size < w1.heap.size := by have := he1.size; (try simp at this); omega
  have c_w1_0_0 := he1.cell (p := ⟨w.heap.size, 0, none⟩) (u := .int .i64 bf) (by first | assumption | simp [go_sem] | simp [go_sem, *])
  have c_w1_0_1 := he1.cell (p := ⟨w.heap.size, 1, none⟩) (u := .slice Af nf df) (by first | assumption | simp [go_sem] | simp [go_sem, *])
  go_wp2_with fail
  refine (szIntSS_fit _ _ _ _ xsl _ (hl.ext (by (repeat (first | with_reducible exact Ext.refl _ | with_reducible assumption | ((with_reducible refine Ext.setCell ?_ ?_ _); rotate_left; focus (first | omega | (simp <;> omega))) | with_reducible refine Ext.alloc ?_ _ | with_reducible refine Ext.drewN ?_ _ | with_reducible refine Ext.drew ?_ | with_reducible refine Ext.trans ?_ (by with_reducible assumption))))) (by omega) (by omega)).mono ?_
  rintro e w2 ⟨rfl, he2⟩
  have s_w2 : w1.heap.size ≤ w2.heap.size := by have := he2.size; (try simp at this); omega
  have z_w2_0 : w.heap.size < w2.heap.size := by have := he2.size; (try simp at this); omega
  have c_w2_0_0 := he2.cell (p := ⟨w.heap.size, 0, none⟩) (u := .int .i64 bf) (by first | assumption | simp [go_sem] | simp [go_sem, *])
  have c_w2_0_1 := he2.cell (p := ⟨w.heap.size, 1, none⟩) (u := .slice Af nf df) (by first | assumption | simp [go_sem] | simp [go_sem, *])
  go_wp2_with fail
  have hnf := rowsSize_len hf.len (t := 1048576) (by omega)
  have hnl := rowsSize_len hl.len (t := 1048576) (by omega)
  refine (toCnf_o _ _ _ bf xsf _ (hf.ext (by (repeat (first | with_reducible exact Ext.refl _ | with_reducible assumption | ((with_reducible refine Ext.setCell ?_ ?_ _); rotate_left; focus (first | omega | (simp <;> omega))) | with_reducible refine Ext.alloc ?_ _ | with_reducible refine Ext.drewN ?_ _ | with_reducible refine Ext.drew ?_ | with_reducible refine Ext.trans ?_ (by with_reducible assumption))))) (by omega)).mono ?_
  rintro e w3 ⟨X3, Y3, rfl, ho3, he3⟩
  have s_w3 : w2.heap.size ≤ w3.heap.size := by have := he3.size; (try simp at this); omega
  have z_w3_0 : w.heap.size < w3.heap.size := by have := he3.size; (try simp at this); omega
  have c_w3_0_0 := he3.cell (p := ⟨w.heap.size, 0, none⟩) (u := .int .i64 bf) (by first | assumption | simp [go_sem] | simp [go_sem, *])
  have c_w3_0_1 := he3.cell (p := ⟨w.heap.size, 1, none⟩) (u := .slice Af nf df) (by first | assumption | simp [go_sem] | simp [go_sem, *])
  have ho3 : ObR 22 3 w3 (w2.heap.size) w3.heap.size X3 nf Y3 xsf := by simpa using ho3
  have q_ho3 := rowsTotal_small ho3.small
  go_wp2_with fail
  refine (toIntSS_o _ _ _ xsl _ (hl.ext (by (repeat (first | with_reducible exact Ext.refl _ | with_reducible assumption | ((with_reducible refine Ext.setCell ?_ ?_ _); rotate_left; focus (first | omega | (simp <;> omega))) | with_reducible refine Ext.alloc ?_ _ | with_reducible refine Ext.drewN ?_ _ | with_reducible refine Ext.drew ?_ | with_reducible refine Ext.trans ?_ (by with_reducible assumption))))) (by omega)).mono ?_
  rintro e w4 ⟨X4, Y4, rfl, ho4, he4⟩
  have s_w4 : w3.heap.size ≤ w4.heap.size := by have := he4.size; (try simp at this); omega
  have z_w4_0 : w.heap.size < w4.heap.size := by have := he4.size; (try simp at this); omega
  have c_w4_0_0 := he4.cell (p := ⟨w.heap.size, 0, none⟩) (u := .int .i64 bf) (by first | assumption | simp [go_sem] | simp [go_sem, *])
  have c_w4_0_1 := he4.cell (p := ⟨w.heap.size, 1, none⟩) (u := .slice Af nf df) (by first | assumption | simp [go_sem] | simp [go_sem, *])
  have ho4 : ObR 22 3 w4 (w3.heap.size) w4.heap.size X4 nl Y4 xsl := by simpa using ho4
  have q_ho4 := rowsTotal_small ho4.small
  go_wp2_with fail
  refine (HS.out _ _ _ _ ((ho3.intss).ext (by (repeat (first | with_reducible exact Ext.refl _ | with_reducible assumption | ((with_reducible refine Ext.setCell ?_ ?_ _); rotate_left; focus (first | omega | (simp <;> omega))) | with_reducible refine Ext.alloc ?_ _ | with_reducible refine Ext.drewN ?_ _ | with_reducible refine Ext.drew ?_ | with_reducible refine Ext.trans ?_ (by with_reducible assumption))))) _ _ _ ((ho4.intssC).ext (by (repeat (first | with_reducible exact Ext.refl _ | with_reducible assumption | ((with_reducible refine Ext.setCell ?_ ?_ _); rotate_left; focus (first | omega | (simp <;> omega))) | with_reducible refine Ext.alloc ?_ _ | with_reducible refine Ext.drewN ?_ _ | with_reducible refine Ext.drew ?_ | with_reducible refine Ext.trans ?_ (by with_reducible assumption)))))).mono ?_
  rintro e w5 ⟨A5_0, n5_0, c5_0, rfl, ho5_0, he5⟩
  have s_w5 : w4.heap.size ≤ w5.heap.size := by have := he5.size; (try simp at this); omega
  have z_w5_0 : w.heap.size < w5.heap.size := by have := he5.size; (try simp at this); omega
  have c_w5_0_0 := he5.cell (p := ⟨w.heap.size, 0, none⟩) (u := .int .i64 bf) (by first | assumption | simp [go_sem] | simp [go_sem, *])
  have c_w5_0_1 := he5.cell (p := ⟨w.heap.size, 1, none⟩) (u := .slice Af nf df) (by first | assumption | simp [go_sem] | simp [go_sem, *])
  have ho5_0 : ObR 22 3 w5 (w4.heap.size) w5.heap.size A5_0 n5_0 c5_0 F := by simpa using ho5_0
  have q_ho5_0 := rowsTotal_small ho5_0.small
  go_wp2_with fail
  refine (toCnf_o _ _ _ bf xsf _ (hf.ext (by (repeat (first | with_reducible exact Ext.refl _ | with_reducible assumption | ((with_reducible refine Ext.setCell ?_ ?_ _); rotate_left; focus (first | omega | (simp <;> omega))) | with_reducible refine Ext.alloc ?_ _ | with_reducible refine Ext.drewN ?_ _ | with_reducible refine Ext.drew ?_ | with_reducible refine Ext.trans ?_ (by with_reducible assumption))))) (by omega)).mono ?_
  rintro e w6 ⟨X6, Y6, rfl, ho6, he6⟩
  have s_w6 : w5.heap.size ≤ w6.heap.size := by have := he6.size; (try simp at this); omega
  have z_w6_0 : w.heap.size < w6.heap.size := by have := he6.size; (try simp at this); omega
  have c_w6_0_0 := he6.cell (p := ⟨w.heap.size, 0, none⟩) (u := .int .i64 bf) (by first | assumption | simp [go_sem] | simp [go_sem, *])
  have c_w6_0_1 := he6.cell (p := ⟨w.heap.size, 1, none⟩) (u := .slice Af nf df) (by first | assumption | simp [go_sem] | simp [go_sem, *])
  have ho6 : ObR 22 3 w6 (w5.heap.size) w6.heap.size X6 nf Y6 xsf := by simpa using ho6
  have q_ho6 := rowsTotal_small ho6.small
  go_wp2_with fail
  refine (toIntSS_o _ _ _ xsl _ (hl.ext (by (repeat (first | with_reducible exact Ext.refl _ | with_reducible assumption | ((with_reducible refine Ext.setCell ?_ ?_ _); rotate_left; focus (first | omega | (simp <;> omega))) | with_reducible refine Ext.alloc ?_ _ | with_reducible refine Ext.drewN ?_ _ | with_reducible refine Ext.drew ?_ | with_reducible refine Ext.trans ?_ (by with_reducible assumption))))) (by omega)).mono ?_
  rintro e w7 ⟨X7, Y7, rfl, ho7, he7⟩
  have s_w7 : w6.heap.size ≤ w7.heap.size := by have := he7.size; (try simp at this); omega
  have z_w7_0 : w.heap.size < w7.heap.size := by have := he7.size; (try simp at this); omega
  have c_w7_0_0 := he7.cell (p := ⟨w.heap.size, 0, none⟩) (u := .int .i64 bf) (by first | assumption | simp [go_sem] | simp [go_sem, *])
  have c_w7_0_1 := he7.cell (p := ⟨w.heap.size, 1, none⟩) (u := .slice Af nf df) (by first | assumption | simp [go_sem] | simp [go_sem, *])
  have z_w7_1 : w6.heap.size < w7.heap.size := by have := he7.size; (try simp at this); omega
  have c_w7_1_0 := he7.cell (p := ⟨w6.heap.size, 0, none⟩) (u := .int .i64 bf) (by first | assumption | simp [go_sem] | simp [go_sem, *])
  have c_w7_1_1 := he7.cell (p := ⟨w6.heap.size, 1, none⟩) (u := .slice X6 nf Y6) (by first | assumption | simp [go_sem] | simp [go_sem, *])
  have ho7 : ObR 22 3 w7 (w6.heap.size + 1) w7.heap.size X7 nl Y7 xsl := by simpa using ho7
  have q_ho7 := rowsTotal_small ho7.small
  go_wp2_with fail
  refine (HI.out _ _ _ _ ((ho6.intss).ext (by (repeat (first | with_reducible exact Ext.refl _ | with_reducible assumption | ((with_reducible refine Ext.setCell ?_ ?_ _); rotate_left; focus (first | omega | (simp <;> omega))) | with_reducible refine Ext.alloc ?_ _ | with_reducible refine Ext.drewN ?_ _ | with_reducible refine Ext.drew ?_ | with_reducible refine Ext.trans ?_ (by with_reducible assumption))))) _ _ _ ((ho7.intssC).ext (by (repeat (first | with_reducible exact Ext.refl _ | with_reducible assumption | ((with_reducible refine Ext.setCell ?_ ?_ _); rotate_left; focus (first | omega | (simp <;> omega))) | with_reducible refine Ext.alloc ?_ _ | with_reducible refine Ext.drewN ?_ _ | with_reducible refine Ext.drew ?_ | with_reducible refine Ext.trans ?_ (by with_reducible assumption)))))).mono ?_
  rintro e w8 ⟨A8_0, n8_0, c8_0, rfl, ho8_0, he8⟩
  have s_w8 : w7.heap.size ≤ w8.heap.size := by have := he8.size; (try simp at this); omega
  have z_w8_0 : w.heap.size < w8.heap.size := by have := he8.size; (try simp at this); omega
  have c_w8_0_0 := he8.cell (p := ⟨w.heap.size, 0, none⟩) (u := .int .i64 bf) (by first | assumption | simp [go_sem] | simp [go_sem, *])
  have c_w8_0_1 := he8.cell (p := ⟨w.heap.size, 1, none⟩) (u := .slice Af nf df) (by first | assumption | simp [go_sem] | simp [go_sem, *])
  have z_w8_1 : w6.heap.size < w8.heap.size := by have := he8.size; (try simp at this); omega
  have c_w8_1_0 := he8.cell (p := ⟨w6.heap.size, 0, none⟩) (u := .int .i64 bf) (by first | assumption | simp [go_sem] | simp [go_sem, *])
  have c_w8_1_1 := he8.cell (p := ⟨w6.heap.size, 1, none⟩) (u := .slice X6 nf Y6) (by first | assumption | simp [go_sem] | simp [go_sem, *])
  have ho8_0 : ObR 22 3 w8 (w7.heap.size) w8.heap.size A8_0 n8_0 c8_0 F := by simpa using ho8_0
  have q_ho8_0 := rowsTotal_small ho8_0.small
  go_wp2_with fail
  refine (eqIntSS_same _ _ _ _ _ _ F _ ((ho8_0.intss).ext (by (repeat (first | with_reducible exact Ext.refl _ | with_reducible assumption | ((with_reducible refine Ext.setCell ?_ ?_ _); rotate_left; focus (first | omega | (simp <;> omega))) | with_reducible refine Ext.alloc ?_ _ | with_reducible refine Ext.drewN ?_ _ | with_reducible refine Ext.drew ?_ | with_reducible refine Ext.trans ?_ (by with_reducible assumption))))) ((ho5_0.intss).ext (by (repeat (first | with_reducible exact Ext.refl _ | with_reducible assumption | ((with_reducible refine Ext.setCell ?_ ?_ _); rotate_left; focus (first | omega | (simp <;> omega))) | with_reducible refine Ext.alloc ?_ _ | with_reducible refine Ext.drewN ?_ _ | with_reducible refine Ext.drew ?_ | with_reducible refine Ext.trans ?_ (by with_reducible assumption)))))).mono ?_
  rintro e w9 ⟨rfl, he9⟩
  have s_w9 : w8.heap.size ≤ w9.heap.size := by have := he9.size; (try simp at this); omega
  have z_w9_0 : w.heap.size < w9.heap.size := by have := he9.size; (try simp at this); omega
  have c_w9_0_0 := he9.cell (p := ⟨w.heap.size, 0, none⟩) (u := .int .i64 bf) (by first | assumption | simp [go_sem] | simp [go_sem, *])
  have c_w9_0_1 := he9.cell (p := ⟨w.heap.size, 1, none⟩) (u := .slice Af nf df) (by first | assumption | simp [go_sem] | simp [go_sem, *])
  have z_w9_1 : w6.heap.size < w9.heap.size := by have := he9.size; (try simp at this); omega
  have c_w9_1_0 := he9.cell (p := ⟨w6.heap.size, 0, none⟩) (u := .int .i64 bf) (by first | assumption | simp [go_sem] | simp [go_sem, *])
  have c_w9_1_1 := he9.cell (p := ⟨w6.heap.size, 1, none⟩) (u := .slice X6 nf Y6) (by first | assumption | simp [go_sem] | simp [go_sem, *])
  go_wp2_with fail
  have eg9 : Ext w9 w9.drew := (Ext.refl _).drew
  go_region_held3 (fun w' => w'.cell? ⟨w.heap.size, 0, none⟩ = some (.int .i64 bf) ∧ w'.cell? ⟨w.heap.size, 1, none⟩ = some (.slice Af nf df) ∧ w'.cell? ⟨w6.heap.size, 0, none⟩ = some (.int .i64 bf) ∧ w'.cell? ⟨w6.heap.size, 1, none⟩ = some (.slice X6 nf Y6) ∧ Ext w9 w') (simp [go_sem, *]) (first | (go_at_call 25; (with_reducible refine (toCnf_o _ _ _ bf xsf _ (hf.ext (by (repeat (first | with_reducible exact Ext.refl _ | with_reducible assumption | ((with_reducible refine Ext.setCell ?_ ?_ _); rotate_left; focus (first | omega | (simp <;> omega))) | with_reducible refine Ext.alloc ?_ _ | with_reducible refine Ext.drewN ?_ _ | with_reducible refine Ext.drew ?_ | with_reducible refine Ext.trans ?_ (by with_reducible assumption))))) (by omega)).mono ?_); rintro e w10 ⟨X10, Y10, rfl, ho10, he10⟩; have c_w10_0_0 := he10.cell (p := ⟨w.heap.size, 0, none⟩) (u := .int .i64 bf) (by simp [go_sem, *]); have c_w10_0_1 := he10.cell (p := ⟨w.heap.size, 1, none⟩) (u := .slice Af nf df) (by simp [go_sem, *]); have c_w10_1_0 := he10.cell (p := ⟨w6.heap.size, 0, none⟩) (u := .int .i64 bf) (by simp [go_sem, *]); have c_w10_1_1 := he10.cell (p := ⟨w6.heap.size, 1, none⟩) (u := .slice X6 nf Y6) (by simp [go_sem, *]); have ew10 : Ext w9 w10 := Ext.trans (by (repeat (first | with_reducible exact Ext.refl _ | with_reducible assumption | ((with_reducible refine Ext.setCell ?_ ?_ _); rotate_left; focus (first | omega | (simp <;> omega))) | with_reducible refine Ext.alloc ?_ _ | with_reducible refine Ext.drewN ?_ _ | with_reducible refine Ext.drew ?_ | with_reducible refine Ext.trans ?_ (by with_reducible assumption)))) he10; have s_w10 : w9.heap.size ≤ w10.heap.size := (by have := ew10.size; (try simp at this); omega)) | (go_at_call 28; (with_reducible refine (eqCnf_same _ _ _ _ _ _ _ xsf _ ((ho6.intss).ext (by (repeat (first | with_reducible exact Ext.refl _ | with_reducible assumption | ((with_reducible refine Ext.setCell ?_ ?_ _); rotate_left; focus (first | omega | (simp <;> omega))) | with_reducible refine Ext.alloc ?_ _ | with_reducible refine Ext.drewN ?_ _ | with_reducible refine Ext.drew ?_ | with_reducible refine Ext.trans ?_ (by with_reducible assumption))))) ((ho10.intss).ext (by (repeat (first | with_reducible exact Ext.refl _ | with_reducible assumption | ((with_reducible refine Ext.setCell ?_ ?_ _); rotate_left; focus (first | omega | (simp <;> omega))) | with_reducible refine Ext.alloc ?_ _ | with_reducible refine Ext.drewN ?_ _ | with_reducible refine Ext.drew ?_ | with_reducible refine Ext.trans ?_ (by with_reducible assumption)))))).mono ?_); rintro e w11 ⟨rfl, he11⟩; have c_w11_0_0 := he11.cell (p := ⟨w.heap.size, 0, none⟩) (u := .int .i64 bf) (by simp [go_sem, *]); have c_w11_0_1 := he11.cell (p := ⟨w.heap.size, 1, none⟩) (u := .slice Af nf df) (by simp [go_sem, *]); have c_w11_1_0 := he11.cell (p := ⟨w6.heap.size, 0, none⟩) (u := .int .i64 bf) (by simp [go_sem, *]); have c_w11_1_1 := he11.cell (p := ⟨w6.heap.size, 1, none⟩) (u := .slice X6 nf Y6) (by simp [go_sem, *]); have ew11 : Ext w9 w11 := Ext.trans (by (repeat (first | with_reducible exact Ext.refl _ | with_reducible assumption | ((with_reducible refine Ext.setCell ?_ ?_ _); rotate_left; focus (first | omega | (simp <;> omega))) | with_reducible refine Ext.alloc ?_ _ | with_reducible refine Ext.drewN ?_ _ | with_reducible refine Ext.drew ?_ | with_reducible refine Ext.trans ?_ (by with_reducible assumption)))) he11; have s_w11 : w9.heap.size ≤ w11.heap.size := (by have := ew11.size; (try simp at this); omega)))
  have z_w11_0 : w.heap.size < w11.heap.size := by have := ew11.size; omega
  have z_w11_1 : w6.heap.size < w11.heap.size := by have := ew11.size; omega
  go_wp2_with fail
  refine (toIntSS_o _ _ _ xsl _ (hl.ext (by (repeat (first | with_reducible exact Ext.refl _ | with_reducible assumption | ((with_reducible refine Ext.setCell ?_ ?_ _); rotate_left; focus (first | omega | (simp <;> omega))) | with_reducible refine Ext.alloc ?_ _ | with_reducible refine Ext.drewN ?_ _ | with_reducible refine Ext.drew ?_ | with_reducible refine Ext.trans ?_ (by with_reducible assumption))))) (by omega)).mono ?_
  rintro e w12 ⟨X12, Y12, rfl, ho12, he12⟩
  have s_w12 : w11.heap.size ≤ w12.heap.size := by have := he12.size; (try simp at this); omega
  have z_w12_0 : w.heap.size < w12.heap.size := by have := he12.size; (try simp at this); omega
  have c_w12_0_0 := he12.cell (p := ⟨w.heap.size, 0, none⟩) (u := .int .i64 bf) (by first | assumption | simp [go_sem] | simp [go_sem, *])
  have c_w12_0_1 := he12.cell (p := ⟨w.heap.size, 1, none⟩) (u := .slice Af nf df) (by first | assumption | simp [go_sem] | simp [go_sem, *])
  have z_w12_1 : w6.heap.size < w12.heap.size := by have := he12.size; (try simp at this); omega
  have c_w12_1_0 := he12.cell (p := ⟨w6.heap.size, 0, none⟩) (u := .int .i64 bf) (by first | assumption | simp [go_sem] | simp [go_sem, *])
  have c_w12_1_1 := he12.cell (p := ⟨w6.heap.size, 1, none⟩) (u := .slice X6 nf Y6) (by first | assumption | simp [go_sem] | simp [go_sem, *])
  have ho12 : ObR 22 3 w12 (w11.heap.size) w12.heap.size X12 nl Y12 xsl := by simpa using ho12
  have q_ho12 := rowsTotal_small ho12.small
  go_wp2_with fail
  refine (eqIntSS_same _ _ _ _ _ _ xsl _ ((ho7.intss).ext (by (repeat (first | with_reducible exact Ext.refl _ | with_reducible assumption | ((with_reducible refine Ext.setCell ?_ ?_ _); rotate_left; focus (first | omega | (simp <;> omega))) | with_reducible refine Ext.alloc ?_ _ | with_reducible refine Ext.drewN ?_ _ | with_reducible refine Ext.drew ?_ | with_reducible refine Ext.trans ?_ (by with_reducible assumption))))) ((ho12.intss).ext (by (repeat (first | with_reducible exact Ext.refl _ | with_reducible assumption | ((with_reducible refine Ext.setCell ?_ ?_ _); rotate_left; focus (first | omega | (simp <;> omega))) | with_reducible refine Ext.alloc ?_ _ | with_reducible refine Ext.drewN ?_ _ | with_reducible refine Ext.drew ?_ | with_reducible refine Ext.trans ?_ (by with_reducible assumption)))))).mono ?_
  rintro e w13 ⟨rfl, he13⟩
  have s_w13 : w12.heap.size ≤ w13.heap.size := by have := he13.size; (try simp at this); omega
  have z_w13_0 : w.heap.size < w13.heap.size := by have := he13.size; (try simp at this); omega
  have c_w13_0_0 := he13.cell (p := ⟨w.heap.size, 0, none⟩) (u := .int .i64 bf) (by first | assumption | simp [go_sem] | simp [go_sem, *])
  have c_w13_0_1 := he13.cell (p := ⟨w.heap.size, 1, none⟩) (u := .slice Af nf df) (by first | assumption | simp [go_sem] | simp [go_sem, *])
  have z_w13_1 : w6.heap.size < w13.heap.size := by have := he13.size; (try simp at this); omega
  have c_w13_1_0 := he13.cell (p := ⟨w6.heap.size, 0, none⟩) (u := .int .i64 bf) (by first | assumption | simp [go_sem] | simp [go_sem, *])
  have c_w13_1_1 := he13.cell (p := ⟨w6.heap.size, 1, none⟩) (u := .slice X6 nf Y6) (by first | assumption | simp [go_sem] | simp [go_sem, *])
  go_wp2_with fail
  refine (markCnf_o _ _ _ _ _ _ _ xsf _ (ho6.ext (by (repeat (first | with_reducible exact Ext.refl _ | with_reducible assumption | ((with_reducible refine Ext.setCell ?_ ?_ _); rotate_left; focus (first | omega | (simp <;> omega))) | with_reducible refine Ext.alloc ?_ _ | with_reducible refine Ext.drewN ?_ _ | with_reducible refine Ext.drew ?_ | with_reducible refine Ext.trans ?_ (by with_reducible assumption))))) (by omega)).mono ?_
  rintro e w14 ⟨rfl, hm14, t14⟩
  have s_w14 : w13.heap.size ≤ w14.heap.size := by have := t14.size; (try simp at this); omega
  have z_w14_0 : w.heap.size < w14.heap.size := by have := t14.size; (try simp at this); omega
  have c_w14_0_0 := t14.cell (p := ⟨w.heap.size, 0, none⟩) (u := .int .i64 bf) (by first | assumption | simp [go_sem] | simp [go_sem, *]) (by simp only []; omega)
  have c_w14_0_1 := t14.cell (p := ⟨w.heap.size, 1, none⟩) (u := .slice Af nf df) (by first | assumption | simp [go_sem] | simp [go_sem, *]) (by simp only []; omega)
  have z_w14_1 : w6.heap.size < w14.heap.size := by have := t14.size; (try simp at this); omega
  have c_w14_1_0 := t14.cell (p := ⟨w6.heap.size, 0, none⟩) (u := .int .i64 bf) (by first | assumption | simp [go_sem] | simp [go_sem, *]) (by simp only []; omega)
  have c_w14_1_1 := t14.cell (p := ⟨w6.heap.size, 1, none⟩) (u := .slice X6 nf Y6) (by first | assumption | simp [go_sem] | simp [go_sem, *]) (by simp only []; omega)
  have ew14 : Ext w w14 := Ext.touched (by (repeat (first | with_reducible exact Ext.refl _ | with_reducible assumption | ((with_reducible refine Ext.setCell ?_ ?_ _); rotate_left; focus (first | omega | (simp <;> omega))) | with_reducible refine Ext.alloc ?_ _ | with_reducible refine Ext.drewN ?_ _ | with_reducible refine Ext.drew ?_ | with_reducible refine Ext.trans ?_ (by with_reducible assumption)))) t14 (by omega)
  have ho5_0_14 := (ho5_0.ext (by (repeat (first | with_reducible exact Ext.refl _ | with_reducible assumption | ((with_reducible refine Ext.setCell ?_ ?_ _); rotate_left; focus (first | omega | (simp <;> omega))) | with_reducible refine Ext.alloc ?_ _ | with_reducible refine Ext.drewN ?_ _ | with_reducible refine Ext.drew ?_ | with_reducible refine Ext.trans ?_ (by with_reducible assumption))))).touch t14 (by omega)
  have ho7_14 := (ho7.ext (by (repeat (first | with_reducible exact Ext.refl _ | with_reducible assumption | ((with_reducible refine Ext.setCell ?_ ?_ _); rotate_left; focus (first | omega | (simp <;> omega))) | with_reducible refine Ext.alloc ?_ _ | with_reducible refine Ext.drewN ?_ _ | with_reducible refine Ext.drew ?_ | with_reducible refine Ext.trans ?_ (by with_reducible assumption))))).touch t14 (by omega)
  have ho8_0_14 := (ho8_0.ext (by (repeat (first | with_reducible exact Ext.refl _ | with_reducible assumption | ((with_reducible refine Ext.setCell ?_ ?_ _); rotate_left; focus (first | omega | (simp <;> omega))) | with_reducible refine Ext.alloc ?_ _ | with_reducible refine Ext.drewN ?_ _ | with_reducible refine Ext.drew ?_ | with_reducible refine Ext.trans ?_ (by with_reducible assumption))))).touch t14 (by omega)
  go_wp2_with fail
  refine (markIntSS_o _ _ _ _ _ _ xsl _ (ho7_14.ext (by (repeat (first | with_reducible exact Ext.refl _ | with_reducible assumption | ((with_reducible refine Ext.setCell ?_ ?_ _); rotate_left; focus (first | omega | (simp <;> omega))) | with_reducible refine Ext.alloc ?_ _ | with_reducible refine Ext.drewN ?_ _ | with_reducible refine Ext.drew ?_ | with_reducible refine Ext.trans ?_ (by with_reducible assumption))))) (by omega)).mono ?_
  rintro e w15 ⟨rfl, hm15, t15⟩
  have s_w15 : w14.heap.size ≤ w15.heap.size := by have := t15.size; (try simp at this); omega
  have z_w15_0 : w.heap.size < w15.heap.size := by have := t15.size; (try simp at this); omega
  have c_w15_0_0 := t15.cell (p := ⟨w.heap.size, 0, none⟩) (u := .int .i64 bf) (by first | assumption | simp [go_sem] | simp [go_sem, *]) (by simp only []; omega)
  have c_w15_0_1 := t15.cell (p := ⟨w.heap.size, 1, none⟩) (u := .slice Af nf df) (by first | assumption | simp [go_sem] | simp [go_sem, *]) (by simp only []; omega)
  have z_w15_1 : w6.heap.size < w15.heap.size := by have := t15.size; (try simp at this); omega
  have c_w15_1_0 := t15.cell (p := ⟨w6.heap.size, 0, none⟩) (u := .int .i64 bf) (by first | assumption | simp [go_sem] | simp [go_sem, *]) (by simp only []; omega)
  have c_w15_1_1 := t15.cell (p := ⟨w6.heap.size, 1, none⟩) (u := .slice X6 nf Y6) (by first | assumption | simp [go_sem] | simp [go_sem, *]) (by simp only []; omega)
  have ew15 : Ext w w15 := Ext.touched (by (repeat (first | with_reducible exact Ext.refl _ | with_reducible assumption | ((with_reducible refine Ext.setCell ?_ ?_ _); rotate_left; focus (first | omega | (simp <;> omega))) | with_reducible refine Ext.alloc ?_ _ | with_reducible refine Ext.drewN ?_ _ | with_reducible refine Ext.drew ?_ | with_reducible refine Ext.trans ?_ (by with_reducible assumption)))) t15 (by omega)
  have ho5_0_14_15 := (ho5_0_14.ext (by (repeat (first | with_reducible exact Ext.refl _ | with_reducible assumption | ((with_reducible refine Ext.setCell ?_ ?_ _); rotate_left; focus (first | omega | (simp <;> omega))) | with_reducible refine Ext.alloc ?_ _ | with_reducible refine Ext.drewN ?_ _ | with_reducible refine Ext.drew ?_ | with_reducible refine Ext.trans ?_ (by with_reducible assumption))))).touch t15 (by omega)
  have hm14_15 := (hm14.ext (by (repeat (first | with_reducible exact Ext.refl _ | with_reducible assumption | ((with_reducible refine Ext.setCell ?_ ?_ _); rotate_left; focus (first | omega | (simp <;> omega))) | with_reducible refine Ext.alloc ?_ _ | with_reducible refine Ext.drewN ?_ _ | with_reducible refine Ext.drew ?_ | with_reducible refine Ext.trans ?_ (by with_reducible assumption))))).touch t15 (by omega)
  have ho8_0_14_15 := (ho8_0_14.ext (by (repeat (first | with_reducible exact Ext.refl _ | with_reducible assumption | ((with_reducible refine Ext.setCell ?_ ?_ _); rotate_left; focus (first | omega | (simp <;> omega))) | with_reducible refine Ext.alloc ?_ _ | with_reducible refine Ext.drewN ?_ _ | with_reducible refine Ext.drew ?_ | with_reducible refine Ext.trans ?_ (by with_reducible assumption))))).touch t15 (by omega)
  go_wp2_with fail
  refine (eqIntSS_same _ _ _ _ _ _ F _ ((ho8_0_14_15.intss).ext (by (repeat (first | with_reducible exact Ext.refl _ | with_reducible assumption | ((with_reducible refine Ext.setCell ?_ ?_ _); rotate_left; focus (first | omega | (simp <;> omega))) | with_reducible refine Ext.alloc ?_ _ | with_reducible refine Ext.drewN ?_ _ | with_reducible refine Ext.drew ?_ | with_reducible refine Ext.trans ?_ (by with_reducible assumption))))) ((ho5_0_14_15.intss).ext (by (repeat (first | with_reducible exact Ext.refl _ | with_reducible assumption | ((with_reducible refine Ext.setCell ?_ ?_ _); rotate_left; focus (first | omega | (simp <;> omega))) | with_reducible refine Ext.alloc ?_ _ | with_reducible refine Ext.drewN ?_ _ | with_reducible refine Ext.drew ?_ | with_reducible refine Ext.trans ?_ (by with_reducible assumption)))))).mono ?_
  rintro e w16 ⟨rfl, he16⟩
  have s_w16 : w15.heap.size ≤ w16.heap.size := by have := he16.size; (try simp at this); omega
  have z_w16_0 : w.heap.size < w16.heap.size := by have := he16.size; (try simp at this); omega
  have c_w16_0_0 := he16.cell (p := ⟨w.heap.size, 0, none⟩) (u := .int .i64 bf) (by first | assumption | simp [go_sem] | simp [go_sem, *])
  have c_w16_0_1 := he16.cell (p := ⟨w.heap.size, 1, none⟩) (u := .slice Af nf df) (by first | assumption | simp [go_sem] | simp [go_sem, *])
  have z_w16_1 : w6.heap.size < w16.heap.size := by have := he16.size; (try simp at this); omega
  have c_w16_1_0 := he16.cell (p := ⟨w6.heap.size, 0, none⟩) (u := .int .i64 bf) (by first | assumption | simp [go_sem] | simp [go_sem, *])
  have c_w16_1_1 := he16.cell (p := ⟨w6.heap.size, 1, none⟩) (u := .slice X6 nf Y6) (by first | assumption | simp [go_sem] | simp [go_sem, *])
  go_wp2_with fail
  refine (markIntSS_o _ _ _ _ _ _ F _ (ho8_0_14_15.ext (by (repeat (first | with_reducible exact Ext.refl _ | with_reducible assumption | ((with_reducible refine Ext.setCell ?_ ?_ _); rotate_left; focus (first | omega | (simp <;> omega))) | with_reducible refine Ext.alloc ?_ _ | with_reducible refine Ext.drewN ?_ _ | with_reducible refine Ext.drew ?_ | with_reducible refine Ext.trans ?_ (by with_reducible assumption))))) (by omega)).mono ?_
  rintro e w17 ⟨rfl, hm17, t17⟩
  have s_w17 : w16.heap.size ≤ w17.heap.size := by have := t17.size; (try simp at this); omega
  have z_w17_0 : w.heap.size < w17.heap.size := by have := t17.size; (try simp at this); omega
  have c_w17_0_0 := t17.cell (p := ⟨w.heap.size, 0, none⟩) (u := .int .i64 bf) (by first | assumption | simp [go_sem] | simp [go_sem, *]) (by simp only []; omega)
  have c_w17_0_1 := t17.cell (p := ⟨w.heap.size, 1, none⟩) (u := .slice Af nf df) (by first | assumption | simp [go_sem] | simp [go_sem, *]) (by simp only []; omega)
  have z_w17_1 : w6.heap.size < w17.heap.size := by have := t17.size; (try simp at this); omega
  have c_w17_1_0 := t17.cell (p := ⟨w6.heap.size, 0, none⟩) (u := .int .i64 bf) (by first | assumption | simp [go_sem] | simp [go_sem, *]) (by simp only []; omega)
  have c_w17_1_1 := t17.cell (p := ⟨w6.heap.size, 1, none⟩) (u := .slice X6 nf Y6) (by first | assumption | simp [go_sem] | simp [go_sem, *]) (by simp only []; omega)
  have ew17 : Ext w w17 := Ext.touched (by (repeat (first | with_reducible exact Ext.refl _ | with_reducible assumption | ((with_reducible refine Ext.setCell ?_ ?_ _); rotate_left; focus (first | omega | (simp <;> omega))) | with_reducible refine Ext.alloc ?_ _ | with_reducible refine Ext.drewN ?_ _ | with_reducible refine Ext.drew ?_ | with_reducible refine Ext.trans ?_ (by with_reducible assumption)))) t17 (by omega)
  have ho5_0_14_15_17 := (ho5_0_14_15.ext (by (repeat (first | with_reducible exact Ext.refl _ | with_reducible assumption | ((with_reducible refine Ext.setCell ?_ ?_ _); rotate_left; focus (first | omega | (simp <;> omega))) | with_reducible refine Ext.alloc ?_ _ | with_reducible refine Ext.drewN ?_ _ | with_reducible refine Ext.drew ?_ | with_reducible refine Ext.trans ?_ (by with_reducible assumption))))).touch t17 (by omega)
  have hm14_15_17 := (hm14_15.ext (by (repeat (first | with_reducible exact Ext.refl _ | with_reducible assumption | ((with_reducible refine Ext.setCell ?_ ?_ _); rotate_left; focus (first | omega | (simp <;> omega))) | with_reducible refine Ext.alloc ?_ _ | with_reducible refine Ext.drewN ?_ _ | with_reducible refine Ext.drew ?_ | with_reducible refine Ext.trans ?_ (by with_reducible assumption))))).touch t17 (by omega)
  have hm15_17 := (hm15.ext (by (repeat (first | with_reducible exact Ext.refl _ | with_reducible assumption | ((with_reducible refine Ext.setCell ?_ ?_ _); rotate_left; focus (first | omega | (simp <;> omega))) | with_reducible refine Ext.alloc ?_ _ | with_reducible refine Ext.drewN ?_ _ | with_reducible refine Ext.drew ?_ | with_reducible refine Ext.trans ?_ (by with_reducible assumption))))).touch t17 (by omega)
  go_wp2_with fail
  refine (heldIntSS_o _ _ _ _ _ _ F _ (hm17.ext (by (repeat (first | with_reducible exact Ext.refl _ | with_reducible assumption | ((with_reducible refine Ext.setCell ?_ ?_ _); rotate_left; focus (first | omega | (simp <;> omega))) | with_reducible refine Ext.alloc ?_ _ | with_reducible refine Ext.drewN ?_ _ | with_reducible refine Ext.drew ?_ | with_reducible refine Ext.trans ?_ (by with_reducible assumption))))) (by omega)).mono ?_
  rintro e w18 ⟨rfl, he18⟩
  have s_w18 : w17.heap.size ≤ w18.heap.size := by have := he18.size; (try simp at this); omega
  have z_w18_0 : w.heap.size < w18.heap.size := by have := he18.size; (try simp at this); omega
  have c_w18_0_0 := he18.cell (p := ⟨w.heap.size, 0, none⟩) (u := .int .i64 bf) (by first | assumption | simp [go_sem] | simp [go_sem, *])
  have c_w18_0_1 := he18.cell (p := ⟨w.heap.size, 1, none⟩) (u := .slice Af nf df) (by first | assumption | simp [go_sem] | simp [go_sem, *])
  have z_w18_1 : w6.heap.size < w18.heap.size := by have := he18.size; (try simp at this); omega
  have c_w18_1_0 := he18.cell (p := ⟨w6.heap.size, 0, none⟩) (u := .int .i64 bf) (by first | assumption | simp [go_sem] | simp [go_sem, *])
  have c_w18_1_1 := he18.cell (p := ⟨w6.heap.size, 1, none⟩) (u := .slice X6 nf Y6) (by first | assumption | simp [go_sem] | simp [go_sem, *])
  go_wp2_with fail
  refine (toCnf_o _ _ _ bf xsf _ (hf.ext (by (repeat (first | with_reducible exact Ext.refl _ | with_reducible assumption | ((with_reducible refine Ext.setCell ?_ ?_ _); rotate_left; focus (first | omega | (simp <;> omega))) | with_reducible refine Ext.alloc ?_ _ | with_reducible refine Ext.drewN ?_ _ | with_reducible refine Ext.drew ?_ | with_reducible refine Ext.trans ?_ (by with_reducible assumption))))) (by omega)).mono ?_
  rintro e w19 ⟨X19, Y19, rfl, ho19, he19⟩
  have s_w19 : w18.heap.size ≤ w19.heap.size := by have := he19.size; (try simp at this); omega
  have z_w19_0 : w.heap.size < w19.heap.size := by have := he19.size; (try simp at this); omega
  have c_w19_0_0 := he19.cell (p := ⟨w.heap.size, 0, none⟩) (u := .int .i64 bf) (by first | assumption | simp [go_sem] | simp [go_sem, *])
  have c_w19_0_1 := he19.cell (p := ⟨w.heap.size, 1, none⟩) (u := .slice Af nf df) (by first | assumption | simp [go_sem] | simp [go_sem, *])
  have z_w19_1 : w6.heap.size < w19.heap.size := by have := he19.size; (try simp at this); omega
  have c_w19_1_0 := he19.cell (p := ⟨w6.heap.size, 0, none⟩) (u := .int .i64 bf) (by first | assumption | simp [go_sem] | simp [go_sem, *])
  have c_w19_1_1 := he19.cell (p := ⟨w6.heap.size, 1, none⟩) (u := .slice X6 nf Y6) (by first | assumption | simp [go_sem] | simp [go_sem, *])
  have ho19 : ObR 22 3 w19 (w18.heap.size) w19.heap.size X19 nf Y19 xsf := by simpa using ho19
  have q_ho19 := rowsTotal_small ho19.small
  go_wp2_with fail
  refine (toIntSS_o _ _ _ xsl _ (hl.ext (by (repeat (first | with_reducible exact Ext.refl _ | with_reducible assumption | ((with_reducible refine Ext.setCell ?_ ?_ _); rotate_left; focus (first | omega | (simp <;> omega))) | with_reducible refine Ext.alloc ?_ _ | with_reducible refine Ext.drewN ?_ _ | with_reducible refine Ext.drew ?_ | with_reducible refine Ext.trans ?_ (by with_reducible assumption))))) (by omega)).mono ?_
  rintro e w20 ⟨X20, Y20, rfl, ho20, he20⟩
  have s_w20 : w19.heap.size ≤ w20.heap.size := by have := he20.size; (try simp at this); omega
  have z_w20_0 : w.heap.size < w20.heap.size := by have := he20.size; (try simp at this); omega
  have c_w20_0_0 := he20.cell (p := ⟨w.heap.size, 0, none⟩) (u := .int .i64 bf) (by first | assumption | simp [go_sem] | simp [go_sem, *])
  have c_w20_0_1 := he20.cell (p := ⟨w.heap.size, 1, none⟩) (u := .slice Af nf df) (by first | assumption | simp [go_sem] | simp [go_sem, *])
  have z_w20_1 : w6.heap.size < w20.heap.size := by have := he20.size; (try simp at this); omega
  have c_w20_1_0 := he20.cell (p := ⟨w6.heap.size, 0, none⟩) (u := .int .i64 bf) (by first | assumption | simp [go_sem] | simp [go_sem, *])
  have c_w20_1_1 := he20.cell (p := ⟨w6.heap.size, 1, none⟩) (u := .slice X6 nf Y6) (by first | assumption | simp [go_sem] | simp [go_sem, *])
  have ho20 : ObR 22 3 w20 (w19.heap.size) w20.heap.size X20 nl Y20 xsl := by simpa using ho20
  have q_ho20 := rowsTotal_small ho20.small
  go_wp2_with fail
  refine (HI.out _ _ _ _ ((ho19.intss).ext (by (repeat (first | with_reducible exact Ext.refl _ | with_reducible assumption | ((with_reducible refine Ext.setCell ?_ ?_ _); rotate_left; focus (first | omega | (simp <;> omega))) | with_reducible refine Ext.alloc ?_ _ | with_reducible refine Ext.drewN ?_ _ | with_reducible refine Ext.drew ?_ | with_reducible refine Ext.trans ?_ (by with_reducible assumption))))) _ _ _ ((ho20.intssC).ext (by (repeat (first | with_reducible exact Ext.refl _ | with_reducible assumption | ((with_reducible refine Ext.setCell ?_ ?_ _); rotate_left; focus (first | omega | (simp <;> omega))) | with_reducible refine Ext.alloc ?_ _ | with_reducible refine Ext.drewN ?_ _ | with_reducible refine Ext.drew ?_ | with_reducible refine Ext.trans ?_ (by with_reducible assumption)))))).mono ?_
  rintro e w21 ⟨A21_0, n21_0, c21_0, rfl, ho21_0, he21⟩
  have s_w21 : w20.heap.size ≤ w21.heap.size := by have := he21.size; (try simp at this); omega
  have z_w21_0 : w.heap.size < w21.heap.size := by have := he21.size; (try simp at this); omega
  have c_w21_0_0 := he21.cell (p := ⟨w.heap.size, 0, none⟩) (u := .int .i64 bf) (by first | assumption | simp [go_sem] | simp [go_sem, *])
  have c_w21_0_1 := he21.cell (p := ⟨w.heap.size, 1, none⟩) (u := .slice Af nf df) (by first | assumption | simp [go_sem] | simp [go_sem, *])
  have z_w21_1 : w6.heap.size < w21.heap.size := by have := he21.size; (try simp at this); omega
  have c_w21_1_0 := he21.cell (p := ⟨w6.heap.size, 0, none⟩) (u := .int .i64 bf) (by first | assumption | simp [go_sem] | simp [go_sem, *])
  have c_w21_1_1 := he21.cell (p := ⟨w6.heap.size, 1, none⟩) (u := .slice X6 nf Y6) (by first | assumption | simp [go_sem] | simp [go_sem, *])
  have ho21_0 : ObR 22 3 w21 (w20.heap.size) w21.heap.size A21_0 n21_0 c21_0 F := by simpa using ho21_0
  have q_ho21_0 := rowsTotal_small ho21_0.small
  go_wp2_with fail
  refine (eqIntSS_same _ _ _ _ _ _ F _ ((ho21_0.intss).ext (by (repeat (first | with_reducible exact Ext.refl _ | with_reducible assumption | ((with_reducible refine Ext.setCell ?_ ?_ _); rotate_left; focus (first | omega | (simp <;> omega))) | with_reducible refine Ext.alloc ?_ _ | with_reducible refine Ext.drewN ?_ _ | with_reducible refine Ext.drew ?_ | with_reducible refine Ext.trans ?_ (by with_reducible assumption))))) ((ho5_0_14_15_17.intss).ext (by (repeat (first | with_reducible exact Ext.refl _ | with_reducible assumption | ((with_reducible refine Ext.setCell ?_ ?_ _); rotate_left; focus (first | omega | (simp <;> omega))) | with_reducible refine Ext.alloc ?_ _ | with_reducible refine Ext.drewN ?_ _ | with_reducible refine Ext.drew ?_ | with_reducible refine Ext.trans ?_ (by with_reducible assumption)))))).mono ?_
  rintro e w22 ⟨rfl, he22⟩
  have s_w22 : w21.heap.size ≤ w22.heap.size := by have := he22.size; (try simp at this); omega
  have z_w22_0 : w.heap.size < w22.heap.size := by have := he22.size; (try simp at this); omega
  have c_w22_0_0 := he22.cell (p := ⟨w.heap.size, 0, none⟩) (u := .int .i64 bf) (by first | assumption | simp [go_sem] | simp [go_sem, *])
  have c_w22_0_1 := he22.cell (p := ⟨w.heap.size, 1, none⟩) (u := .slice Af nf df) (by first | assumption | simp [go_sem] | simp [go_sem, *])
  have z_w22_1 : w6.heap.size < w22.heap.size := by have := he22.size; (try simp at this); omega
  have c_w22_1_0 := he22.cell (p := ⟨w6.heap.size, 0, none⟩) (u := .int .i64 bf) (by first | assumption | simp [go_sem] | simp [go_sem, *])
  have c_w22_1_1 := he22.cell (p := ⟨w6.heap.size, 1, none⟩) (u := .slice X6 nf Y6) (by first | assumption | simp [go_sem] | simp [go_sem, *])
  go_wp2_with fail
  refine (heldIntSS_o _ _ _ _ _ _ F _ (hm17.ext (by (repeat (first | with_reducible exact Ext.refl _ | with_reducible assumption | ((with_reducible refine Ext.setCell ?_ ?_ _); rotate_left; focus (first | omega | (simp <;> omega))) | with_reducible refine Ext.alloc ?_ _ | with_reducible refine Ext.drewN ?_ _ | with_reducible refine Ext.drew ?_ | with_reducible refine Ext.trans ?_ (by with_reducible assumption))))) (by omega)).mono ?_
  rintro e w23 ⟨rfl, he23⟩
  have s_w23 : w22.heap.size ≤ w23.heap.size := by have := he23.size; (try simp at this); omega
  have z_w23_0 : w.heap.size < w23.heap.size := by have := he23.size; (try simp at this); omega
  have c_w23_0_0 := he23.cell (p := ⟨w.heap.size, 0, none⟩) (u := .int .i64 bf) (by first | assumption | simp [go_sem] | simp [go_sem, *])
  have c_w23_0_1 := he23.cell (p := ⟨w.heap.size, 1, none⟩) (u := .slice Af nf df) (by first | assumption | simp [go_sem] | simp [go_sem, *])
  have z_w23_1 : w6.heap.size < w23.heap.size := by have := he23.size; (try simp at this); omega
  have c_w23_1_0 := he23.cell (p := ⟨w6.heap.size, 0, none⟩) (u := .int .i64 bf) (by first | assumption | simp [go_sem] | simp [go_sem, *])
  have c_w23_1_1 := he23.cell (p := ⟨w6.heap.size, 1, none⟩) (u := .slice X6 nf Y6) (by first | assumption | simp [go_sem] | simp [go_sem, *])
  go_wp2_with fail
  go_ret
  exact ⟨rfl, by (repeat (first | with_reducible exact Ext.refl _ | with_reducible assumption | ((with_reducible refine Ext.setCell ?_ ?_ _); rotate_left; focus (first | omega | (simp <;> omega))) | with_reducible refine Ext.alloc ?_ _ | with_reducible refine Ext.drewN ?_ _ | with_reducible refine Ext.drew ?_ | with_reducible refine Ext.trans ?_ (by with_reducible assumption)))⟩
end Go.Proofs.Ytebklankehkmhaa
