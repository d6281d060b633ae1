/-
  PROVED: the walk of the law FnExactGameNumbers: it returns true for every input.
-/
import Derived.Test.YtmpfhibncnamnaaC46
namespace Go.Proofs.Ytmpfhibncnamnaa
set_option linter.unusedSimpArgs false
set_option linter.unusedVariables false
open Go.RowKit
set_option maxRecDepth 100000 in
set_option maxHeartbeats 8000000 in
theorem GameNumbers_law (Af : Option Addr) (nf df : Nat) (bf : Int) (xsf : List (List Int)) (w : World) (hf : Intss w Af nf xsf) :
    Calls Try.prog 3 #[.agg #[.int .i64 bf, .slice Af nf df]] w fun e w' => e = .returned (.bool true) ∧ Ext w w' := by
  have hbf := hf.bound
  have hs := fun w A n c (h : Intss w A n xsf) => spec_GameNumbers_c bf A n c xsf w h
  have hi := fun w A n c (h : Intss w A n xsf) => impl_GameNumbers_c bf A n c xsf w h
  generalize (gameNums bf xsf) = r1 at hs hi
  generalize (takes bf xsf) = r2 at hs hi
  have HS := hide hs
  have HI := hide hi
  clear hs hi
  by_cases hsf : rowsSize xsf ≤ 1048576
  rotate_left
  · skip
    go_enter Try.func3, Try.ntmps3
    go_wp2_with fail
    refine (szCnf_no _ _ _ _ bf xsf _ (hf.ext (by (repeat (first | with_reducible exact Ext.refl _ | with_reducible assumption | ((with_reducible refine Ext.setCell ?_ ?_ _); rotate_left; focus (first | omega | (simp <;> omega))) | with_reducible refine Ext.alloc ?_ _ | with_reducible refine Ext.drewN ?_ _ | with_reducible refine Ext.drew ?_ | with_reducible refine Ext.trans ?_ (by with_reducible assumption))))) (by omega) (by omega)).mono ?_
    rintro e w1 ⟨rfl, he1⟩
    have s_w1 : w.heap.size ≤ w1.heap.size := by have := he1.size; (try simp at this); omega
    have z_w1_0 : w.heap.size < w1.heap.size := by have := he1.size; (try simp at this); omega
    have c_w1_0_0 := he1.cell (p := ⟨w.heap.size, 0, none⟩) (u := .int .i64 bf) (by first | assumption | simp [go_sem] | simp [go_sem, *])
    have c_w1_0_1 := he1.cell (p := ⟨w.heap.size, 1, none⟩) (u := .slice Af nf df) (by first | assumption | simp [go_sem] | simp [go_sem, *])
    go_wp2_with fail
    go_ret
    exact ⟨rfl, by (repeat (first | with_reducible exact Ext.refl _ | with_reducible assumption | ((with_reducible refine Ext.setCell ?_ ?_ _); rotate_left; focus (first | omega | (simp <;> omega))) | with_reducible refine Ext.alloc ?_ _ | with_reducible refine Ext.drewN ?_ _ | with_reducible refine Ext.drew ?_ | with_reducible refine Ext.trans ?_ (by with_reducible assumption)))⟩
  go_enter Try.func3, Try.ntmps3
  go_wp2_with fail
  refine (szCnf_fit _ _ _ _ bf xsf _ (hf.ext (by (repeat (first | with_reducible exact Ext.refl _ | with_reducible assumption | ((with_reducible refine Ext.setCell ?_ ?_ _); rotate_left; focus (first | omega | (simp <;> omega))) | with_reducible refine Ext.alloc ?_ _ | with_reducible refine Ext.drewN ?_ _ | with_reducible refine Ext.drew ?_ | with_reducible refine Ext.trans ?_ (by with_reducible assumption))))) (by omega) (by omega)).mono ?_
  rintro e w1 ⟨rfl, he1⟩
  have s_w1 : w.heap.size ≤ w1.heap.size := by have := he1.size; (try simp at this); omega
  have z_w1_0 : w.heap.size < w1.heap.size := by have := he1.size; (try simp at this); omega
  have c_w1_0_0 := he1.cell (p := ⟨w.heap.size, 0, none⟩) (u := .int .i64 bf) (by first | assumption | simp [go_sem] | simp [go_sem, *])
  have c_w1_0_1 := he1.cell (p := ⟨w.heap.size, 1, none⟩) (u := .slice Af nf df) (by first | assumption | simp [go_sem] | simp [go_sem, *])
  go_wp2_with fail
  have hnf := rowsSize_len hf.len (t := 1048576) (by omega)
  refine (toCnf_o _ _ _ bf xsf _ (hf.ext (by (repeat (first | with_reducible exact Ext.refl _ | with_reducible assumption | ((with_reducible refine Ext.setCell ?_ ?_ _); rotate_left; focus (first | omega | (simp <;> omega))) | with_reducible refine Ext.alloc ?_ _ | with_reducible refine Ext.drewN ?_ _ | with_reducible refine Ext.drew ?_ | with_reducible refine Ext.trans ?_ (by with_reducible assumption))))) (by omega)).mono ?_
  rintro e w2 ⟨X2, Y2, rfl, ho2, he2⟩
  have s_w2 : w1.heap.size ≤ w2.heap.size := by have := he2.size; (try simp at this); omega
  have z_w2_0 : w.heap.size < w2.heap.size := by have := he2.size; (try simp at this); omega
  have c_w2_0_0 := he2.cell (p := ⟨w.heap.size, 0, none⟩) (u := .int .i64 bf) (by first | assumption | simp [go_sem] | simp [go_sem, *])
  have c_w2_0_1 := he2.cell (p := ⟨w.heap.size, 1, none⟩) (u := .slice Af nf df) (by first | assumption | simp [go_sem] | simp [go_sem, *])
  have ho2 : ObR 32 3 w2 (w1.heap.size) w2.heap.size X2 nf Y2 xsf := by simpa using ho2
  have q_ho2 := rowsTotal_small ho2.small
  go_wp2_with fail
  refine (HS.out _ _ _ _ ((ho2.intss).ext (by (repeat (first | with_reducible exact Ext.refl _ | with_reducible assumption | ((with_reducible refine Ext.setCell ?_ ?_ _); rotate_left; focus (first | omega | (simp <;> omega))) | with_reducible refine Ext.alloc ?_ _ | with_reducible refine Ext.drewN ?_ _ | with_reducible refine Ext.drew ?_ | with_reducible refine Ext.trans ?_ (by with_reducible assumption)))))).mono ?_
  rintro e w3 ⟨rfl, he3⟩
  have s_w3 : w2.heap.size ≤ w3.heap.size := by have := he3.size; (try simp at this); omega
  have z_w3_0 : w.heap.size < w3.heap.size := by have := he3.size; (try simp at this); omega
  have c_w3_0_0 := he3.cell (p := ⟨w.heap.size, 0, none⟩) (u := .int .i64 bf) (by first | assumption | simp [go_sem] | simp [go_sem, *])
  have c_w3_0_1 := he3.cell (p := ⟨w.heap.size, 1, none⟩) (u := .slice Af nf df) (by first | assumption | simp [go_sem] | simp [go_sem, *])
  go_wp2_with fail
  refine (toCnf_o _ _ _ bf xsf _ (hf.ext (by (repeat (first | with_reducible exact Ext.refl _ | with_reducible assumption | ((with_reducible refine Ext.setCell ?_ ?_ _); rotate_left; focus (first | omega | (simp <;> omega))) | with_reducible refine Ext.alloc ?_ _ | with_reducible refine Ext.drewN ?_ _ | with_reducible refine Ext.drew ?_ | with_reducible refine Ext.trans ?_ (by with_reducible assumption))))) (by omega)).mono ?_
  rintro e w4 ⟨X4, Y4, rfl, ho4, he4⟩
  have s_w4 : w3.heap.size ≤ w4.heap.size := by have := he4.size; (try simp at this); omega
  have z_w4_0 : w.heap.size < w4.heap.size := by have := he4.size; (try simp at this); omega
  have c_w4_0_0 := he4.cell (p := ⟨w.heap.size, 0, none⟩) (u := .int .i64 bf) (by first | assumption | simp [go_sem] | simp [go_sem, *])
  have c_w4_0_1 := he4.cell (p := ⟨w.heap.size, 1, none⟩) (u := .slice Af nf df) (by first | assumption | simp [go_sem] | simp [go_sem, *])
  have ho4 : ObR 32 3 w4 (w3.heap.size) w4.heap.size X4 nf Y4 xsf := by simpa using ho4
  have q_ho4 := rowsTotal_small ho4.small
  go_wp2_with fail
  refine (HI.out _ _ _ _ ((ho4.intss).ext (by (repeat (first | with_reducible exact Ext.refl _ | with_reducible assumption | ((with_reducible refine Ext.setCell ?_ ?_ _); rotate_left; focus (first | omega | (simp <;> omega))) | with_reducible refine Ext.alloc ?_ _ | with_reducible refine Ext.drewN ?_ _ | with_reducible refine Ext.drew ?_ | with_reducible refine Ext.trans ?_ (by with_reducible assumption)))))).mono ?_
  rintro e w5 ⟨rfl, he5⟩
  have s_w5 : w4.heap.size ≤ w5.heap.size := by have := he5.size; (try simp at this); omega
  have z_w5_0 : w.heap.size < w5.heap.size := by have := he5.size; (try simp at this); omega
  have c_w5_0_0 := he5.cell (p := ⟨w.heap.size, 0, none⟩) (u := .int .i64 bf) (by first | assumption | simp [go_sem] | simp [go_sem, *])
  have c_w5_0_1 := he5.cell (p := ⟨w.heap.size, 1, none⟩) (u := .slice Af nf df) (by first | assumption | simp [go_sem] | simp [go_sem, *])
  have z_w5_1 : w4.heap.size < w5.heap.size := by have := he5.size; (try simp at this); omega
  have c_w5_1_0 := he5.cell (p := ⟨w4.heap.size, 0, none⟩) (u := .int .i64 bf) (by first | assumption | simp [go_sem] | simp [go_sem, *])
  have c_w5_1_1 := he5.cell (p := ⟨w4.heap.size, 1, none⟩) (u := .slice X4 nf Y4) (by first | assumption | simp [go_sem] | simp [go_sem, *])
  go_wp2_with fail
  have eg5 : Ext w5 w5.drew := (Ext.refl _).drew
  go_region_held3 (fun w' => w'.cell? ⟨w.heap.size, 0, none⟩ = some (.int .i64 bf) ∧ w'.cell? ⟨w.heap.size, 1, none⟩ = some (.slice Af nf df) ∧ w'.cell? ⟨w4.heap.size, 0, none⟩ = some (.int .i64 bf) ∧ w'.cell? ⟨w4.heap.size, 1, none⟩ = some (.slice X4 nf Y4) ∧ Ext w5 w') (simp [go_sem, *]) (first | (go_at_call 17; (with_reducible refine (toCnf_o _ _ _ bf xsf _ (hf.ext (by (repeat (first | with_reducible exact Ext.refl _ | with_reducible assumption | ((with_reducible refine Ext.setCell ?_ ?_ _); rotate_left; focus (first | omega | (simp <;> omega))) | with_reducible refine Ext.alloc ?_ _ | with_reducible refine Ext.drewN ?_ _ | with_reducible refine Ext.drew ?_ | with_reducible refine Ext.trans ?_ (by with_reducible assumption))))) (by omega)).mono ?_); rintro e w6 ⟨X6, Y6, rfl, ho6, he6⟩; have c_w6_0_0 := he6.cell (p := ⟨w.heap.size, 0, none⟩) (u := .int .i64 bf) (by simp [go_sem, *]); have c_w6_0_1 := he6.cell (p := ⟨w.heap.size, 1, none⟩) (u := .slice Af nf df) (by simp [go_sem, *]); have c_w6_1_0 := he6.cell (p := ⟨w4.heap.size, 0, none⟩) (u := .int .i64 bf) (by simp [go_sem, *]); have c_w6_1_1 := he6.cell (p := ⟨w4.heap.size, 1, none⟩) (u := .slice X4 nf Y4) (by simp [go_sem, *]); have ew6 : Ext w5 w6 := Ext.trans (by (repeat (first | with_reducible exact Ext.refl _ | with_reducible assumption | ((with_reducible refine Ext.setCell ?_ ?_ _); rotate_left; focus (first | omega | (simp <;> omega))) | with_reducible refine Ext.alloc ?_ _ | with_reducible refine Ext.drewN ?_ _ | with_reducible refine Ext.drew ?_ | with_reducible refine Ext.trans ?_ (by with_reducible assumption)))) he6; have s_w6 : w5.heap.size ≤ w6.heap.size := (by have := ew6.size; (try simp at this); omega)) | (go_at_call 19; (with_reducible refine (eqCnf_same _ _ _ _ _ _ _ xsf _ ((ho4.intss).ext (by (repeat (first | with_reducible exact Ext.refl _ | with_reducible assumption | ((with_reducible refine Ext.setCell ?_ ?_ _); rotate_left; focus (first | omega | (simp <;> omega))) | with_reducible refine Ext.alloc ?_ _ | with_reducible refine Ext.drewN ?_ _ | with_reducible refine Ext.drew ?_ | with_reducible refine Ext.trans ?_ (by with_reducible assumption))))) ((ho6.intss).ext (by (repeat (first | with_reducible exact Ext.refl _ | with_reducible assumption | ((with_reducible refine Ext.setCell ?_ ?_ _); rotate_left; focus (first | omega | (simp <;> omega))) | with_reducible refine Ext.alloc ?_ _ | with_reducible refine Ext.drewN ?_ _ | with_reducible refine Ext.drew ?_ | with_reducible refine Ext.trans ?_ (by with_reducible assumption)))))).mono ?_); rintro e w7 ⟨rfl, he7⟩; have c_w7_0_0 := he7.cell (p := ⟨w.heap.size, 0, none⟩) (u := .int .i64 bf) (by simp [go_sem, *]); have c_w7_0_1 := he7.cell (p := ⟨w.heap.size, 1, none⟩) (u := .slice Af nf df) (by simp [go_sem, *]); have c_w7_1_0 := he7.cell (p := ⟨w4.heap.size, 0, none⟩) (u := .int .i64 bf) (by simp [go_sem, *]); have c_w7_1_1 := he7.cell (p := ⟨w4.heap.size, 1, none⟩) (u := .slice X4 nf Y4) (by simp [go_sem, *]); have ew7 : Ext w5 w7 := Ext.trans (by (repeat (first | with_reducible exact Ext.refl _ | with_reducible assumption | ((with_reducible refine Ext.setCell ?_ ?_ _); rotate_left; focus (first | omega | (simp <;> omega))) | with_reducible refine Ext.alloc ?_ _ | with_reducible refine Ext.drewN ?_ _ | with_reducible refine Ext.drew ?_ | with_reducible refine Ext.trans ?_ (by with_reducible assumption)))) he7; have s_w7 : w5.heap.size ≤ w7.heap.size := (by have := ew7.size; (try simp at this); omega)))
  have z_w7_0 : w.heap.size < w7.heap.size := by have := ew7.size; omega
  have z_w7_1 : w4.heap.size < w7.heap.size := by have := ew7.size; omega
  go_wp2_with fail
  go_ret
  exact ⟨rfl, by (repeat (first | with_reducible exact Ext.refl _ | with_reducible assumption | ((with_reducible refine Ext.setCell ?_ ?_ _); rotate_left; focus (first | omega | (simp <;> omega))) | with_reducible refine Ext.alloc ?_ _ | with_reducible refine Ext.drewN ?_ _ | with_reducible refine Ext.drew ?_ | with_reducible refine Ext.trans ?_ (by with_reducible assumption)))⟩
end Go.Proofs.Ytmpfhibncnamnaa
