/-
  PROVED: the walk of the law FnExactRoundTaken: it returns true for every input.
-/
import Derived.Test.YtaigjmbhgpcalaaF32
import Derived.Test.YtaigjmbhgpcalaaC32

namespace Go.Proofs.Ytaigjmbhgpcalaa
set_option linter.unusedSimpArgs false
set_option linter.unusedVariables false
open Go.RowKit
set_option maxRecDepth 100000 in
set_option maxHeartbeats 8000000 in
theorem RoundTaken_law (Af : Option Addr) (nf df : Nat) (bf : Int) (xsf : List (List Int)) (wd : Int) (Aa : Option Addr) (na da : Nat) (xsa : List Int) (w : World) (hf : Intss w Af nf xsf) (ha : Ints w Aa na xsa) :
    Calls Try.prog 4 #[.agg #[.int .i64 bf, .slice Af nf df], .int .i64 wd, .slice Aa na da] w fun e w' => e = .returned (.bool true) ∧ Ext w w' := by
  have hbf := hf.bound
  have hba := ha.bound
  have hs := fun w A n c (h : Intss w A n xsf) B m d (k : Ints w B m xsa) => spec_RoundTaken_c bf wd A n c xsf B m d xsa w h k
  have hi := fun w A n c (h : Intss w A n xsf) B m d (k : Ints w B m xsa) => impl_RoundTaken_c bf wd A n c xsf B m d xsa w h k
  generalize rtR bf wd xsf xsa = F at hs hi
  generalize rtOk bf wd xsf xsa = ok at hs hi
  have HS := hide hs
  have HI := hide hi
  clear hs hi
  by_cases hsa : na ≤ 1048576
  rotate_left
  · go_enter Try.func4, Try.ntmps4
    go_wp2
    go_ret
    exact ⟨rfl, by (repeat (first | with_reducible exact Ext.refl _ | with_reducible assumption | ((with_reducible refine Ext.setCell ?_ ?_ _); rotate_left; focus (first | omega | (simp <;> omega))) | with_reducible refine Ext.alloc ?_ _ | with_reducible refine Ext.drewN ?_ _ | with_reducible refine Ext.drew ?_ | with_reducible refine Ext.trans ?_ (by with_reducible assumption)))⟩
  by_cases hsf : rowsSize xsf ≤ 1048576
  rotate_left
  · skip
    go_enter Try.func4, Try.ntmps4
    go_wp2_with fail
    refine (szCnf_no _ _ _ _ bf xsf _ (hf.ext (by (repeat (first | with_reducible exact Ext.refl _ | with_reducible assumption | ((with_reducible refine Ext.setCell ?_ ?_ _); rotate_left; focus (first | omega | (simp <;> omega))) | with_reducible refine Ext.alloc ?_ _ | with_reducible refine Ext.drewN ?_ _ | with_reducible refine Ext.drew ?_ | with_reducible refine Ext.trans ?_ (by with_reducible assumption))))) (by omega) (by omega)).mono ?_
    rintro e w1 ⟨rfl, he1⟩
    have s_w1 : w.heap.size ≤ w1.heap.size := by have := he1.size; (try simp at this); omega
    have z_w1_0 : w.heap.size < w1.heap.size := by have := he1.size; (try simp at this); omega
    have c_w1_0_0 := he1.cell (p := ⟨w.heap.size, 0, none⟩) (u := .int .i64 bf) (by first | assumption | simp [go_sem] | simp [go_sem, *])
    have c_w1_0_1 := he1.cell (p := ⟨w.heap.size, 1, none⟩) (u := .slice Af nf df) (by first | assumption | simp [go_sem] | simp [go_sem, *])
    go_wp2_with fail
    go_ret
    exact ⟨rfl, by (repeat (first | with_reducible exact Ext.refl _ | with_reducible assumption | ((with_reducible refine Ext.setCell ?_ ?_ _); rotate_left; focus (first | omega | (simp <;> omega))) | with_reducible refine Ext.alloc ?_ _ | with_reducible refine Ext.drewN ?_ _ | with_reducible refine Ext.drew ?_ | with_reducible refine Ext.trans ?_ (by with_reducible assumption)))⟩
  go_enter Try.func4, Try.ntmps4
  go_wp2_with fail
  refine (szCnf_fit _ _ _ _ bf xsf _ (hf.ext (by (repeat (first | with_reducible exact Ext.refl _ | with_reducible assumption | ((with_reducible refine Ext.setCell ?_ ?_ _); rotate_left; focus (first | omega | (simp <;> omega))) | with_reducible refine Ext.alloc ?_ _ | with_reducible refine Ext.drewN ?_ _ | with_reducible refine Ext.drew ?_ | with_reducible refine Ext.trans ?_ (by with_reducible assumption))))) (by omega) (by omega)).mono ?_
  rintro e w1 ⟨rfl, he1⟩
  have s_w1 : w.heap.size ≤ w1.heap.size := by have := he1.size; (try simp at this); omega
  have z_w1_0 : w.heap.size < w1.heap.size := by have := he1.size; (try simp at this); omega
  have c_w1_0_0 := he1.cell (p := ⟨w.heap.size, 0, none⟩) (u := .int .i64 bf) (by first | assumption | simp [go_sem] | simp [go_sem, *])
  have c_w1_0_1 := he1.cell (p := ⟨w.heap.size, 1, none⟩) (u := .slice Af nf df) (by first | assumption | simp [go_sem] | simp [go_sem, *])
  go_wp2_with fail
  have hnf := rowsSize_len hf.len (t := 1048576) (by omega)
  refine (toCnf_o _ _ _ bf xsf _ (hf.ext (by (repeat (first | with_reducible exact Ext.refl _ | with_reducible assumption | ((with_reducible refine Ext.setCell ?_ ?_ _); rotate_left; focus (first | omega | (simp <;> omega))) | with_reducible refine Ext.alloc ?_ _ | with_reducible refine Ext.drewN ?_ _ | with_reducible refine Ext.drew ?_ | with_reducible refine Ext.trans ?_ (by with_reducible assumption))))) (by omega)).mono ?_
  rintro e w2 ⟨X2, Y2, rfl, ho2, he2⟩
  have s_w2 : w1.heap.size ≤ w2.heap.size := by have := he2.size; (try simp at this); omega
  have z_w2_0 : w.heap.size < w2.heap.size := by have := he2.size; (try simp at this); omega
  have c_w2_0_0 := he2.cell (p := ⟨w.heap.size, 0, none⟩) (u := .int .i64 bf) (by first | assumption | simp [go_sem] | simp [go_sem, *])
  have c_w2_0_1 := he2.cell (p := ⟨w.heap.size, 1, none⟩) (u := .slice Af nf df) (by first | assumption | simp [go_sem] | simp [go_sem, *])
  have ho2 : ObR 35 3 w2 (w1.heap.size) w2.heap.size X2 nf Y2 xsf := by simpa using ho2
  have q_ho2 := rowsTotal_small ho2.small
  go_wp2_with fail
  refine (toIntS_o _ _ _ xsa _ (ha.ext (by (repeat (first | with_reducible exact Ext.refl _ | with_reducible assumption | ((with_reducible refine Ext.setCell ?_ ?_ _); rotate_left; focus (first | omega | (simp <;> omega))) | with_reducible refine Ext.alloc ?_ _ | with_reducible refine Ext.drewN ?_ _ | with_reducible refine Ext.drew ?_ | with_reducible refine Ext.trans ?_ (by with_reducible assumption))))) (by omega)).mono ?_
  rintro e w3 ⟨X3, Y3, rfl, ho3, he3⟩
  have s_w3 : w2.heap.size ≤ w3.heap.size := by have := he3.size; (try simp at this); omega
  have z_w3_0 : w.heap.size < w3.heap.size := by have := he3.size; (try simp at this); omega
  have c_w3_0_0 := he3.cell (p := ⟨w.heap.size, 0, none⟩) (u := .int .i64 bf) (by first | assumption | simp [go_sem] | simp [go_sem, *])
  have c_w3_0_1 := he3.cell (p := ⟨w.heap.size, 1, none⟩) (u := .slice Af nf df) (by first | assumption | simp [go_sem] | simp [go_sem, *])
  have ho3 : ObI 3 w3 (w2.heap.size) w3.heap.size X3 na Y3 xsa := by simpa using ho3
  have q_ho3 := ho3.small
  go_wp2_with fail
  refine (HS.out _ _ _ _ ((ho2.intss).ext (by (repeat (first | with_reducible exact Ext.refl _ | with_reducible assumption | ((with_reducible refine Ext.setCell ?_ ?_ _); rotate_left; focus (first | omega | (simp <;> omega))) | with_reducible refine Ext.alloc ?_ _ | with_reducible refine Ext.drewN ?_ _ | with_reducible refine Ext.drew ?_ | with_reducible refine Ext.trans ?_ (by with_reducible assumption))))) _ _ _ ((ho3.ints).ext (by (repeat (first | with_reducible exact Ext.refl _ | with_reducible assumption | ((with_reducible refine Ext.setCell ?_ ?_ _); rotate_left; focus (first | omega | (simp <;> omega))) | with_reducible refine Ext.alloc ?_ _ | with_reducible refine Ext.drewN ?_ _ | with_reducible refine Ext.drew ?_ | with_reducible refine Ext.trans ?_ (by with_reducible assumption)))))).mono ?_
  rintro e w4 ⟨rfl, he4⟩
  have s_w4 : w3.heap.size ≤ w4.heap.size := by have := he4.size; (try simp at this); omega
  have z_w4_0 : w.heap.size < w4.heap.size := by have := he4.size; (try simp at this); omega
  have c_w4_0_0 := he4.cell (p := ⟨w.heap.size, 0, none⟩) (u := .int .i64 bf) (by first | assumption | simp [go_sem] | simp [go_sem, *])
  have c_w4_0_1 := he4.cell (p := ⟨w.heap.size, 1, none⟩) (u := .slice Af nf df) (by first | assumption | simp [go_sem] | simp [go_sem, *])
  go_wp2_with fail
  refine (toCnf_o _ _ _ bf xsf _ (hf.ext (by (repeat (first | with_reducible exact Ext.refl _ | with_reducible assumption | ((with_reducible refine Ext.setCell ?_ ?_ _); rotate_left; focus (first | omega | (simp <;> omega))) | with_reducible refine Ext.alloc ?_ _ | with_reducible refine Ext.drewN ?_ _ | with_reducible refine Ext.drew ?_ | with_reducible refine Ext.trans ?_ (by with_reducible assumption))))) (by omega)).mono ?_
  rintro e w5 ⟨X5, Y5, rfl, ho5, he5⟩
  have s_w5 : w4.heap.size ≤ w5.heap.size := by have := he5.size; (try simp at this); omega
  have z_w5_0 : w.heap.size < w5.heap.size := by have := he5.size; (try simp at this); omega
  have c_w5_0_0 := he5.cell (p := ⟨w.heap.size, 0, none⟩) (u := .int .i64 bf) (by first | assumption | simp [go_sem] | simp [go_sem, *])
  have c_w5_0_1 := he5.cell (p := ⟨w.heap.size, 1, none⟩) (u := .slice Af nf df) (by first | assumption | simp [go_sem] | simp [go_sem, *])
  have ho5 : ObR 35 3 w5 (w4.heap.size) w5.heap.size X5 nf Y5 xsf := by simpa using ho5
  have q_ho5 := rowsTotal_small ho5.small
  go_wp2_with fail
  refine (toIntS_o _ _ _ xsa _ (ha.ext (by (repeat (first | with_reducible exact Ext.refl _ | with_reducible assumption | ((with_reducible refine Ext.setCell ?_ ?_ _); rotate_left; focus (first | omega | (simp <;> omega))) | with_reducible refine Ext.alloc ?_ _ | with_reducible refine Ext.drewN ?_ _ | with_reducible refine Ext.drew ?_ | with_reducible refine Ext.trans ?_ (by with_reducible assumption))))) (by omega)).mono ?_
  rintro e w6 ⟨X6, Y6, rfl, ho6, he6⟩
  have s_w6 : w5.heap.size ≤ w6.heap.size := by have := he6.size; (try simp at this); omega
  have z_w6_0 : w.heap.size < w6.heap.size := by have := he6.size; (try simp at this); omega
  have c_w6_0_0 := he6.cell (p := ⟨w.heap.size, 0, none⟩) (u := .int .i64 bf) (by first | assumption | simp [go_sem] | simp [go_sem, *])
  have c_w6_0_1 := he6.cell (p := ⟨w.heap.size, 1, none⟩) (u := .slice Af nf df) (by first | assumption | simp [go_sem] | simp [go_sem, *])
  have z_w6_1 : w5.heap.size < w6.heap.size := by have := he6.size; (try simp at this); omega
  have c_w6_1_0 := he6.cell (p := ⟨w5.heap.size, 0, none⟩) (u := .int .i64 bf) (by first | assumption | simp [go_sem] | simp [go_sem, *])
  have c_w6_1_1 := he6.cell (p := ⟨w5.heap.size, 1, none⟩) (u := .slice X5 nf Y5) (by first | assumption | simp [go_sem] | simp [go_sem, *])
  have ho6 : ObI 3 w6 (w5.heap.size + 1) w6.heap.size X6 na Y6 xsa := by simpa using ho6
  have q_ho6 := ho6.small
  go_wp2_with fail
  refine (HI.out _ _ _ _ ((ho5.intss).ext (by (repeat (first | with_reducible exact Ext.refl _ | with_reducible assumption | ((with_reducible refine Ext.setCell ?_ ?_ _); rotate_left; focus (first | omega | (simp <;> omega))) | with_reducible refine Ext.alloc ?_ _ | with_reducible refine Ext.drewN ?_ _ | with_reducible refine Ext.drew ?_ | with_reducible refine Ext.trans ?_ (by with_reducible assumption))))) _ _ _ ((ho6.ints).ext (by (repeat (first | with_reducible exact Ext.refl _ | with_reducible assumption | ((with_reducible refine Ext.setCell ?_ ?_ _); rotate_left; focus (first | omega | (simp <;> omega))) | with_reducible refine Ext.alloc ?_ _ | with_reducible refine Ext.drewN ?_ _ | with_reducible refine Ext.drew ?_ | with_reducible refine Ext.trans ?_ (by with_reducible assumption)))))).mono ?_
  rintro e w7 ⟨rfl, he7⟩
  have s_w7 : w6.heap.size ≤ w7.heap.size := by have := he7.size; (try simp at this); omega
  have z_w7_0 : w.heap.size < w7.heap.size := by have := he7.size; (try simp at this); omega
  have c_w7_0_0 := he7.cell (p := ⟨w.heap.size, 0, none⟩) (u := .int .i64 bf) (by first | assumption | simp [go_sem] | simp [go_sem, *])
  have c_w7_0_1 := he7.cell (p := ⟨w.heap.size, 1, none⟩) (u := .slice Af nf df) (by first | assumption | simp [go_sem] | simp [go_sem, *])
  have z_w7_1 : w5.heap.size < w7.heap.size := by have := he7.size; (try simp at this); omega
  have c_w7_1_0 := he7.cell (p := ⟨w5.heap.size, 0, none⟩) (u := .int .i64 bf) (by first | assumption | simp [go_sem] | simp [go_sem, *])
  have c_w7_1_1 := he7.cell (p := ⟨w5.heap.size, 1, none⟩) (u := .slice X5 nf Y5) (by first | assumption | simp [go_sem] | simp [go_sem, *])
  go_wp2_with fail
  have eg7 : Ext w7 w7.drew := (Ext.refl _).drew
  go_region_held3 (fun w' => w'.cell? ⟨w.heap.size, 0, none⟩ = some (.int .i64 bf) ∧ w'.cell? ⟨w.heap.size, 1, none⟩ = some (.slice Af nf df) ∧ w'.cell? ⟨w5.heap.size, 0, none⟩ = some (.int .i64 bf) ∧ w'.cell? ⟨w5.heap.size, 1, none⟩ = some (.slice X5 nf Y5) ∧ Ext w7 w') (simp [go_sem, *]) (first | (go_at_call 8; (with_reducible refine (toCnf_o _ _ _ bf xsf _ (hf.ext (by (repeat (first | with_reducible exact Ext.refl _ | with_reducible assumption | ((with_reducible refine Ext.setCell ?_ ?_ _); rotate_left; focus (first | omega | (simp <;> omega))) | with_reducible refine Ext.alloc ?_ _ | with_reducible refine Ext.drewN ?_ _ | with_reducible refine Ext.drew ?_ | with_reducible refine Ext.trans ?_ (by with_reducible assumption))))) (by omega)).mono ?_); rintro e w8 ⟨X8, Y8, rfl, ho8, he8⟩; have c_w8_0_0 := he8.cell (p := ⟨w.heap.size, 0, none⟩) (u := .int .i64 bf) (by simp [go_sem, *]); have c_w8_0_1 := he8.cell (p := ⟨w.heap.size, 1, none⟩) (u := .slice Af nf df) (by simp [go_sem, *]); have c_w8_1_0 := he8.cell (p := ⟨w5.heap.size, 0, none⟩) (u := .int .i64 bf) (by simp [go_sem, *]); have c_w8_1_1 := he8.cell (p := ⟨w5.heap.size, 1, none⟩) (u := .slice X5 nf Y5) (by simp [go_sem, *]); have ew8 : Ext w7 w8 := Ext.trans (by (repeat (first | with_reducible exact Ext.refl _ | with_reducible assumption | ((with_reducible refine Ext.setCell ?_ ?_ _); rotate_left; focus (first | omega | (simp <;> omega))) | with_reducible refine Ext.alloc ?_ _ | with_reducible refine Ext.drewN ?_ _ | with_reducible refine Ext.drew ?_ | with_reducible refine Ext.trans ?_ (by with_reducible assumption)))) he8; have s_w8 : w7.heap.size ≤ w8.heap.size := (by have := ew8.size; (try simp at this); omega)) | (go_at_call 11; (with_reducible refine (eqCnf_same _ _ _ _ _ _ _ xsf _ ((ho5.intss).ext (by (repeat (first | with_reducible exact Ext.refl _ | with_reducible assumption | ((with_reducible refine Ext.setCell ?_ ?_ _); rotate_left; focus (first | omega | (simp <;> omega))) | with_reducible refine Ext.alloc ?_ _ | with_reducible refine Ext.drewN ?_ _ | with_reducible refine Ext.drew ?_ | with_reducible refine Ext.trans ?_ (by with_reducible assumption))))) ((ho8.intss).ext (by (repeat (first | with_reducible exact Ext.refl _ | with_reducible assumption | ((with_reducible refine Ext.setCell ?_ ?_ _); rotate_left; focus (first | omega | (simp <;> omega))) | with_reducible refine Ext.alloc ?_ _ | with_reducible refine Ext.drewN ?_ _ | with_reducible refine Ext.drew ?_ | with_reducible refine Ext.trans ?_ (by with_reducible assumption)))))).mono ?_); rintro e w9 ⟨rfl, he9⟩; have c_w9_0_0 := he9.cell (p := ⟨w.heap.size, 0, none⟩) (u := .int .i64 bf) (by simp [go_sem, *]); have c_w9_0_1 := he9.cell (p := ⟨w.heap.size, 1, none⟩) (u := .slice Af nf df) (by simp [go_sem, *]); have c_w9_1_0 := he9.cell (p := ⟨w5.heap.size, 0, none⟩) (u := .int .i64 bf) (by simp [go_sem, *]); have c_w9_1_1 := he9.cell (p := ⟨w5.heap.size, 1, none⟩) (u := .slice X5 nf Y5) (by simp [go_sem, *]); have ew9 : Ext w7 w9 := Ext.trans (by (repeat (first | with_reducible exact Ext.refl _ | with_reducible assumption | ((with_reducible refine Ext.setCell ?_ ?_ _); rotate_left; focus (first | omega | (simp <;> omega))) | with_reducible refine Ext.alloc ?_ _ | with_reducible refine Ext.drewN ?_ _ | with_reducible refine Ext.drew ?_ | with_reducible refine Ext.trans ?_ (by with_reducible assumption)))) he9; have s_w9 : w7.heap.size ≤ w9.heap.size := (by have := ew9.size; (try simp at this); omega)))
  have z_w9_0 : w.heap.size < w9.heap.size := by have := ew9.size; omega
  have z_w9_1 : w5.heap.size < w9.heap.size := by have := ew9.size; omega
  go_wp2_with fail
  refine (toIntS_o _ _ _ xsa _ (ha.ext (by (repeat (first | with_reducible exact Ext.refl _ | with_reducible assumption | ((with_reducible refine Ext.setCell ?_ ?_ _); rotate_left; focus (first | omega | (simp <;> omega))) | with_reducible refine Ext.alloc ?_ _ | with_reducible refine Ext.drewN ?_ _ | with_reducible refine Ext.drew ?_ | with_reducible refine Ext.trans ?_ (by with_reducible assumption))))) (by omega)).mono ?_
  rintro e w10 ⟨X10, Y10, rfl, ho10, he10⟩
  have s_w10 : w9.heap.size ≤ w10.heap.size := by have := he10.size; (try simp at this); omega
  have z_w10_0 : w.heap.size < w10.heap.size := by have := he10.size; (try simp at this); omega
  have c_w10_0_0 := he10.cell (p := ⟨w.heap.size, 0, none⟩) (u := .int .i64 bf) (by first | assumption | simp [go_sem] | simp [go_sem, *])
  have c_w10_0_1 := he10.cell (p := ⟨w.heap.size, 1, none⟩) (u := .slice Af nf df) (by first | assumption | simp [go_sem] | simp [go_sem, *])
  have z_w10_1 : w5.heap.size < w10.heap.size := by have := he10.size; (try simp at this); omega
  have c_w10_1_0 := he10.cell (p := ⟨w5.heap.size, 0, none⟩) (u := .int .i64 bf) (by first | assumption | simp [go_sem] | simp [go_sem, *])
  have c_w10_1_1 := he10.cell (p := ⟨w5.heap.size, 1, none⟩) (u := .slice X5 nf Y5) (by first | assumption | simp [go_sem] | simp [go_sem, *])
  have ho10 : ObI 3 w10 (w9.heap.size) w10.heap.size X10 na Y10 xsa := by simpa using ho10
  have q_ho10 := ho10.small
  go_wp2_with fail
  refine (eqIntS_same _ _ _ _ _ _ xsa _ ((ho6.ints).ext (by (repeat (first | with_reducible exact Ext.refl _ | with_reducible assumption | ((with_reducible refine Ext.setCell ?_ ?_ _); rotate_left; focus (first | omega | (simp <;> omega))) | with_reducible refine Ext.alloc ?_ _ | with_reducible refine Ext.drewN ?_ _ | with_reducible refine Ext.drew ?_ | with_reducible refine Ext.trans ?_ (by with_reducible assumption))))) ((ho10.ints).ext (by (repeat (first | with_reducible exact Ext.refl _ | with_reducible assumption | ((with_reducible refine Ext.setCell ?_ ?_ _); rotate_left; focus (first | omega | (simp <;> omega))) | with_reducible refine Ext.alloc ?_ _ | with_reducible refine Ext.drewN ?_ _ | with_reducible refine Ext.drew ?_ | with_reducible refine Ext.trans ?_ (by with_reducible assumption)))))).mono ?_
  rintro e w11 ⟨rfl, he11⟩
  have s_w11 : w10.heap.size ≤ w11.heap.size := by have := he11.size; (try simp at this); omega
  have z_w11_0 : w.heap.size < w11.heap.size := by have := he11.size; (try simp at this); omega
  have c_w11_0_0 := he11.cell (p := ⟨w.heap.size, 0, none⟩) (u := .int .i64 bf) (by first | assumption | simp [go_sem] | simp [go_sem, *])
  have c_w11_0_1 := he11.cell (p := ⟨w.heap.size, 1, none⟩) (u := .slice Af nf df) (by first | assumption | simp [go_sem] | simp [go_sem, *])
  have z_w11_1 : w5.heap.size < w11.heap.size := by have := he11.size; (try simp at this); omega
  have c_w11_1_0 := he11.cell (p := ⟨w5.heap.size, 0, none⟩) (u := .int .i64 bf) (by first | assumption | simp [go_sem] | simp [go_sem, *])
  have c_w11_1_1 := he11.cell (p := ⟨w5.heap.size, 1, none⟩) (u := .slice X5 nf Y5) (by first | assumption | simp [go_sem] | simp [go_sem, *])
  go_wp2_with fail
  go_ret
  exact ⟨rfl, by (repeat (first | with_reducible exact Ext.refl _ | with_reducible assumption | ((with_reducible refine Ext.setCell ?_ ?_ _); rotate_left; focus (first | omega | (simp <;> omega))) | with_reducible refine Ext.alloc ?_ _ | with_reducible refine Ext.drewN ?_ _ | with_reducible refine Ext.drew ?_ | with_reducible refine Ext.trans ?_ (by with_reducible assumption)))⟩
end Go.Proofs.Ytaigjmbhgpcalaa
