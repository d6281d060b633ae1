/-
  PROVED: the walk of the law FnExactPlaneImplies: it returns true for every input.
-/
import Derived.Test.YtmpfhibncnamnaaC34
namespace Go.Proofs.Ytmpfhibncnamnaa
set_option linter.unusedSimpArgs false
set_option linter.unusedVariables false
open Go.RowKit
set_option maxRecDepth 100000 in
set_option maxHeartbeats 8000000 in
theorem PlaneImplies_law (Af : Option Addr) (nf df : Nat) (bf : Int) (xsf : List (List Int)) (Aq : Option Addr) (nq dq : Nat) (bq : Int) (xsq : List Int) (w : World) (hf : Intss w Af nf xsf) (hq : Ints w Aq nq xsq) :
    Calls Try.prog 14 #[.agg #[.int .i64 bf, .slice Af nf df], .agg #[.slice Aq nq dq, .int .i64 bq]] w fun e w' => e = .returned (.bool true) ∧ Ext w w' := by
  have hbf := hf.bound
  have hbq := hq.bound
  have hs := fun w A n c (h : Intss w A n xsf) B m d (k : Ints w B m xsq) => spec_PlaneImplies_c bf A n c xsf B m d bq xsq w h k
  have hi := fun w A n c (h : Intss w A n xsf) B m d (k : Ints w B m xsq) => impl_PlaneImplies_c bf A n c xsf B m d bq xsq w h k
  generalize impB bf xsf bq xsq = r1 at hs hi
  generalize impOk bf xsf bq xsq = r2 at hs hi
  have HS := hide hs
  have HI := hide hi
  clear hs hi
  by_cases hsf : rowsSize xsf ≤ 1048576
  rotate_left
  · skip
    go_enter Try.func14, Try.ntmps14
    go_wp2_with fail
    refine (szCnf_no _ _ _ _ bf xsf _ (hf.ext (by (repeat (first | with_reducible exact Ext.refl _ | with_reducible assumption | ((with_reducible refine Ext.setCell ?_ ?_ _); rotate_left; focus (first | omega | (simp <;> omega))) | with_reducible refine Ext.alloc ?_ _ | with_reducible refine Ext.drewN ?_ _ | with_reducible refine Ext.drew ?_ | with_reducible refine Ext.trans ?_ (by with_reducible assumption))))) (by omega) (by omega)).mono ?_
    rintro e w1 ⟨rfl, he1⟩
    have s_w1 : w.heap.size ≤ w1.heap.size := by have := he1.size; (try simp at this); omega
    have z_w1_0 : w.heap.size < w1.heap.size := by have := he1.size; (try simp at this); omega
    have c_w1_0_0 := he1.cell (p := ⟨w.heap.size, 0, none⟩) (u := .int .i64 bf) (by first | assumption | simp [go_sem] | simp [go_sem, *])
    have c_w1_0_1 := he1.cell (p := ⟨w.heap.size, 1, none⟩) (u := .slice Af nf df) (by first | assumption | simp [go_sem] | simp [go_sem, *])
    have z_w1_1 : w.heap.size + 1 < w1.heap.size := by have := he1.size; (try simp at this); omega
    have c_w1_1_0 := he1.cell (p := ⟨w.heap.size + 1, 0, none⟩) (u := .slice Aq nq dq) (by first | assumption | simp [go_sem] | simp [go_sem, *])
    have c_w1_1_1 := he1.cell (p := ⟨w.heap.size + 1, 1, none⟩) (u := .int .i64 bq) (by first | assumption | simp [go_sem] | simp [go_sem, *])
    go_wp2_with fail
    go_ret
    exact ⟨rfl, by (repeat (first | with_reducible exact Ext.refl _ | with_reducible assumption | ((with_reducible refine Ext.setCell ?_ ?_ _); rotate_left; focus (first | omega | (simp <;> omega))) | with_reducible refine Ext.alloc ?_ _ | with_reducible refine Ext.drewN ?_ _ | with_reducible refine Ext.drew ?_ | with_reducible refine Ext.trans ?_ (by with_reducible assumption)))⟩
  by_cases hsq : rowsSize xsf + nq ≤ 1048576
  rotate_left
  · skip
    go_enter Try.func14, Try.ntmps14
    go_wp2_with fail
    refine (szCnf_fit _ _ _ _ bf xsf _ (hf.ext (by (repeat (first | with_reducible exact Ext.refl _ | with_reducible assumption | ((with_reducible refine Ext.setCell ?_ ?_ _); rotate_left; focus (first | omega | (simp <;> omega))) | with_reducible refine Ext.alloc ?_ _ | with_reducible refine Ext.drewN ?_ _ | with_reducible refine Ext.drew ?_ | with_reducible refine Ext.trans ?_ (by with_reducible assumption))))) (by omega) (by omega)).mono ?_
    rintro e w1 ⟨rfl, he1⟩
    have s_w1 : w.heap.size ≤ w1.heap.size := by have := he1.size; (try simp at this); omega
    have z_w1_0 : w.heap.size < w1.heap.size := by have := he1.size; (try simp at this); omega
    have c_w1_0_0 := he1.cell (p := ⟨w.heap.size, 0, none⟩) (u := .int .i64 bf) (by first | assumption | simp [go_sem] | simp [go_sem, *])
    have c_w1_0_1 := he1.cell (p := ⟨w.heap.size, 1, none⟩) (u := .slice Af nf df) (by first | assumption | simp [go_sem] | simp [go_sem, *])
    have z_w1_1 : w.heap.size + 1 < w1.heap.size := by have := he1.size; (try simp at this); omega
    have c_w1_1_0 := he1.cell (p := ⟨w.heap.size + 1, 0, none⟩) (u := .slice Aq nq dq) (by first | assumption | simp [go_sem] | simp [go_sem, *])
    have c_w1_1_1 := he1.cell (p := ⟨w.heap.size + 1, 1, none⟩) (u := .int .i64 bq) (by first | assumption | simp [go_sem] | simp [go_sem, *])
    go_wp2_with fail
    refine (szInequality_no _ _ _ _ bq _ hbq (by omega) (by omega)).mono ?_
    rintro e w2 ⟨rfl, he2⟩
    have s_w2 : w1.heap.size ≤ w2.heap.size := by have := he2.size; (try simp at this); omega
    have z_w2_0 : w.heap.size < w2.heap.size := by have := he2.size; (try simp at this); omega
    have c_w2_0_0 := he2.cell (p := ⟨w.heap.size, 0, none⟩) (u := .int .i64 bf) (by first | assumption | simp [go_sem] | simp [go_sem, *])
    have c_w2_0_1 := he2.cell (p := ⟨w.heap.size, 1, none⟩) (u := .slice Af nf df) (by first | assumption | simp [go_sem] | simp [go_sem, *])
    have z_w2_1 : w.heap.size + 1 < w2.heap.size := by have := he2.size; (try simp at this); omega
    have c_w2_1_0 := he2.cell (p := ⟨w.heap.size + 1, 0, none⟩) (u := .slice Aq nq dq) (by first | assumption | simp [go_sem] | simp [go_sem, *])
    have c_w2_1_1 := he2.cell (p := ⟨w.heap.size + 1, 1, none⟩) (u := .int .i64 bq) (by first | assumption | simp [go_sem] | simp [go_sem, *])
    go_wp2_with fail
    go_ret
    exact ⟨rfl, by (repeat (first | with_reducible exact Ext.refl _ | with_reducible assumption | ((with_reducible refine Ext.setCell ?_ ?_ _); rotate_left; focus (first | omega | (simp <;> omega))) | with_reducible refine Ext.alloc ?_ _ | with_reducible refine Ext.drewN ?_ _ | with_reducible refine Ext.drew ?_ | with_reducible refine Ext.trans ?_ (by with_reducible assumption)))⟩
  go_enter Try.func14, Try.ntmps14
  go_wp2_with fail
  refine (szCnf_fit _ _ _ _ bf xsf _ (hf.ext (by (repeat (first | with_reducible exact Ext.refl _ | with_reducible assumption | ((with_reducible refine Ext.setCell ?_ ?_ _); rotate_left; focus (first | omega | (simp <;> omega))) | with_reducible refine Ext.alloc ?_ _ | with_reducible refine Ext.drewN ?_ _ | with_reducible refine Ext.drew ?_ | with_reducible refine Ext.trans ?_ (by with_reducible assumption))))) (by omega) (by omega)).mono ?_
  rintro e w1 ⟨rfl, he1⟩
  have s_w1 : w.heap.size ≤ w1.heap.size := by have := he1.size; (try simp at this); omega
  have z_w1_0 : w.heap.size < w1.heap.size := by have := he1.size; (try simp at this); omega
  have c_w1_0_0 := he1.cell (p := ⟨w.heap.size, 0, none⟩) (u := .int .i64 bf) (by first | assumption | simp [go_sem] | simp [go_sem, *])
  have c_w1_0_1 := he1.cell (p := ⟨w.heap.size, 1, none⟩) (u := .slice Af nf df) (by first | assumption | simp [go_sem] | simp [go_sem, *])
  have z_w1_1 : w.heap.size + 1 < w1.heap.size := by have := he1.size; (try simp at this); omega
  have c_w1_1_0 := he1.cell (p := ⟨w.heap.size + 1, 0, none⟩) (u := .slice Aq nq dq) (by first | assumption | simp [go_sem] | simp [go_sem, *])
  have c_w1_1_1 := he1.cell (p := ⟨w.heap.size + 1, 1, none⟩) (u := .int .i64 bq) (by first | assumption | simp [go_sem] | simp [go_sem, *])
  go_wp2_with fail
  refine (szInequality_fit _ _ _ _ bq _ hbq (by omega) (by omega)).mono ?_
  rintro e w2 ⟨rfl, he2⟩
  have s_w2 : w1.heap.size ≤ w2.heap.size := by have := he2.size; (try simp at this); omega
  have z_w2_0 : w.heap.size < w2.heap.size := by have := he2.size; (try simp at this); omega
  have c_w2_0_0 := he2.cell (p := ⟨w.heap.size, 0, none⟩) (u := .int .i64 bf) (by first | assumption | simp [go_sem] | simp [go_sem, *])
  have c_w2_0_1 := he2.cell (p := ⟨w.heap.size, 1, none⟩) (u := .slice Af nf df) (by first | assumption | simp [go_sem] | simp [go_sem, *])
  have z_w2_1 : w.heap.size + 1 < w2.heap.size := by have := he2.size; (try simp at this); omega
  have c_w2_1_0 := he2.cell (p := ⟨w.heap.size + 1, 0, none⟩) (u := .slice Aq nq dq) (by first | assumption | simp [go_sem] | simp [go_sem, *])
  have c_w2_1_1 := he2.cell (p := ⟨w.heap.size + 1, 1, none⟩) (u := .int .i64 bq) (by first | assumption | simp [go_sem] | simp [go_sem, *])
  go_wp2_with fail
  have hnf := rowsSize_len hf.len (t := 1048576) (by omega)
  have eg2 : Ext w2 w2.drew := (Ext.refl _).drew
  go_region_held3 (fun w' => w'.cell? ⟨w.heap.size, 0, none⟩ = some (.int .i64 bf) ∧ w'.cell? ⟨w.heap.size, 1, none⟩ = some (.slice Af nf df) ∧ w'.cell? ⟨w.heap.size + 1, 0, none⟩ = some (.slice Aq nq dq) ∧ w'.cell? ⟨w.heap.size + 1, 1, none⟩ = some (.int .i64 bq) ∧ Ext w2 w') (simp [go_sem, *]) (first | (go_at_call 17; (with_reducible refine (toCnf_o _ _ _ bf xsf _ (hf.ext (by (repeat (first | with_reducible exact Ext.refl _ | with_reducible assumption | ((with_reducible refine Ext.setCell ?_ ?_ _); rotate_left; focus (first | omega | (simp <;> omega))) | with_reducible refine Ext.alloc ?_ _ | with_reducible refine Ext.drewN ?_ _ | with_reducible refine Ext.drew ?_ | with_reducible refine Ext.trans ?_ (by with_reducible assumption))))) (by omega)).mono ?_); rintro e w3 ⟨X3, Y3, rfl, ho3, he3⟩; have c_w3_0_0 := he3.cell (p := ⟨w.heap.size, 0, none⟩) (u := .int .i64 bf) (by simp [go_sem, *]); have c_w3_0_1 := he3.cell (p := ⟨w.heap.size, 1, none⟩) (u := .slice Af nf df) (by simp [go_sem, *]); have c_w3_1_0 := he3.cell (p := ⟨w.heap.size + 1, 0, none⟩) (u := .slice Aq nq dq) (by simp [go_sem, *]); have c_w3_1_1 := he3.cell (p := ⟨w.heap.size + 1, 1, none⟩) (u := .int .i64 bq) (by simp [go_sem, *]); have ew3 : Ext w2 w3 := Ext.trans (by (repeat (first | with_reducible exact Ext.refl _ | with_reducible assumption | ((with_reducible refine Ext.setCell ?_ ?_ _); rotate_left; focus (first | omega | (simp <;> omega))) | with_reducible refine Ext.alloc ?_ _ | with_reducible refine Ext.drewN ?_ _ | with_reducible refine Ext.drew ?_ | with_reducible refine Ext.trans ?_ (by with_reducible assumption)))) he3; have s_w3 : w2.heap.size ≤ w3.heap.size := (by have := ew3.size; (try simp at this); omega)) | (go_at_call 50; (with_reducible refine (toInequality_o _ _ _ bq xsq _ (hq.ext (by (repeat (first | with_reducible exact Ext.refl _ | with_reducible assumption | ((with_reducible refine Ext.setCell ?_ ?_ _); rotate_left; focus (first | omega | (simp <;> omega))) | with_reducible refine Ext.alloc ?_ _ | with_reducible refine Ext.drewN ?_ _ | with_reducible refine Ext.drew ?_ | with_reducible refine Ext.trans ?_ (by with_reducible assumption))))) (by omega)).mono ?_); rintro e w4 ⟨X4, Y4, rfl, ho4, he4⟩; have c_w4_0_0 := he4.cell (p := ⟨w.heap.size, 0, none⟩) (u := .int .i64 bf) (by simp [go_sem, *]); have c_w4_0_1 := he4.cell (p := ⟨w.heap.size, 1, none⟩) (u := .slice Af nf df) (by simp [go_sem, *]); have c_w4_1_0 := he4.cell (p := ⟨w.heap.size + 1, 0, none⟩) (u := .slice Aq nq dq) (by simp [go_sem, *]); have c_w4_1_1 := he4.cell (p := ⟨w.heap.size + 1, 1, none⟩) (u := .int .i64 bq) (by simp [go_sem, *]); have ew4 : Ext w2 w4 := Ext.trans (by (repeat (first | with_reducible exact Ext.refl _ | with_reducible assumption | ((with_reducible refine Ext.setCell ?_ ?_ _); rotate_left; focus (first | omega | (simp <;> omega))) | with_reducible refine Ext.alloc ?_ _ | with_reducible refine Ext.drewN ?_ _ | with_reducible refine Ext.drew ?_ | with_reducible refine Ext.trans ?_ (by with_reducible assumption)))) he4; have s_w4 : w2.heap.size ≤ w4.heap.size := (by have := ew4.size; (try simp at this); omega)) | (go_at_call 49; (with_reducible refine (HS.out _ _ _ _ ((ho3.intss).ext (by (repeat (first | with_reducible exact Ext.refl _ | with_reducible assumption | ((with_reducible refine Ext.setCell ?_ ?_ _); rotate_left; focus (first | omega | (simp <;> omega))) | with_reducible refine Ext.alloc ?_ _ | with_reducible refine Ext.drewN ?_ _ | with_reducible refine Ext.drew ?_ | with_reducible refine Ext.trans ?_ (by with_reducible assumption))))) _ _ _ ((ho4.ints).ext (by (repeat (first | with_reducible exact Ext.refl _ | with_reducible assumption | ((with_reducible refine Ext.setCell ?_ ?_ _); rotate_left; focus (first | omega | (simp <;> omega))) | with_reducible refine Ext.alloc ?_ _ | with_reducible refine Ext.drewN ?_ _ | with_reducible refine Ext.drew ?_ | with_reducible refine Ext.trans ?_ (by with_reducible assumption)))))).mono ?_); rintro e w5 ⟨rfl, he5⟩; have c_w5_0_0 := he5.cell (p := ⟨w.heap.size, 0, none⟩) (u := .int .i64 bf) (by simp [go_sem, *]); have c_w5_0_1 := he5.cell (p := ⟨w.heap.size, 1, none⟩) (u := .slice Af nf df) (by simp [go_sem, *]); have c_w5_1_0 := he5.cell (p := ⟨w.heap.size + 1, 0, none⟩) (u := .slice Aq nq dq) (by simp [go_sem, *]); have c_w5_1_1 := he5.cell (p := ⟨w.heap.size + 1, 1, none⟩) (u := .int .i64 bq) (by simp [go_sem, *]); have ew5 : Ext w2 w5 := Ext.trans (by (repeat (first | with_reducible exact Ext.refl _ | with_reducible assumption | ((with_reducible refine Ext.setCell ?_ ?_ _); rotate_left; focus (first | omega | (simp <;> omega))) | with_reducible refine Ext.alloc ?_ _ | with_reducible refine Ext.drewN ?_ _ | with_reducible refine Ext.drew ?_ | with_reducible refine Ext.trans ?_ (by with_reducible assumption)))) he5; have s_w5 : w2.heap.size ≤ w5.heap.size := (by have := ew5.size; (try simp at this); omega)))
  have z_w5_0 : w.heap.size < w5.heap.size := by have := ew5.size; omega
  have z_w5_1 : w.heap.size + 1 < w5.heap.size := by have := ew5.size; omega
  go_wp2_with fail
  refine (toCnf_o _ _ _ bf xsf _ (hf.ext (by (repeat (first | with_reducible exact Ext.refl _ | with_reducible assumption | ((with_reducible refine Ext.setCell ?_ ?_ _); rotate_left; focus (first | omega | (simp <;> omega))) | with_reducible refine Ext.alloc ?_ _ | with_reducible refine Ext.drewN ?_ _ | with_reducible refine Ext.drew ?_ | with_reducible refine Ext.trans ?_ (by with_reducible assumption))))) (by omega)).mono ?_
  rintro e w6 ⟨X6, Y6, rfl, ho6, he6⟩
  have s_w6 : w5.heap.size ≤ w6.heap.size := by have := he6.size; (try simp at this); omega
  have z_w6_0 : w.heap.size < w6.heap.size := by have := he6.size; (try simp at this); omega
  have c_w6_0_0 := he6.cell (p := ⟨w.heap.size, 0, none⟩) (u := .int .i64 bf) (by first | assumption | simp [go_sem] | simp [go_sem, *])
  have c_w6_0_1 := he6.cell (p := ⟨w.heap.size, 1, none⟩) (u := .slice Af nf df) (by first | assumption | simp [go_sem] | simp [go_sem, *])
  have z_w6_1 : w.heap.size + 1 < w6.heap.size := by have := he6.size; (try simp at this); omega
  have c_w6_1_0 := he6.cell (p := ⟨w.heap.size + 1, 0, none⟩) (u := .slice Aq nq dq) (by first | assumption | simp [go_sem] | simp [go_sem, *])
  have c_w6_1_1 := he6.cell (p := ⟨w.heap.size + 1, 1, none⟩) (u := .int .i64 bq) (by first | assumption | simp [go_sem] | simp [go_sem, *])
  have ho6 : ObR 32 3 w6 (w5.heap.size) w6.heap.size X6 nf Y6 xsf := by simpa using ho6
  have q_ho6 := rowsTotal_small ho6.small
  go_wp2_with fail
  refine (toInequality_o _ _ _ bq xsq _ (hq.ext (by (repeat (first | with_reducible exact Ext.refl _ | with_reducible assumption | ((with_reducible refine Ext.setCell ?_ ?_ _); rotate_left; focus (first | omega | (simp <;> omega))) | with_reducible refine Ext.alloc ?_ _ | with_reducible refine Ext.drewN ?_ _ | with_reducible refine Ext.drew ?_ | with_reducible refine Ext.trans ?_ (by with_reducible assumption))))) (by omega)).mono ?_
  rintro e w7 ⟨X7, Y7, rfl, ho7, he7⟩
  have s_w7 : w6.heap.size ≤ w7.heap.size := by have := he7.size; (try simp at this); omega
  have z_w7_0 : w.heap.size < w7.heap.size := by have := he7.size; (try simp at this); omega
  have c_w7_0_0 := he7.cell (p := ⟨w.heap.size, 0, none⟩) (u := .int .i64 bf) (by first | assumption | simp [go_sem] | simp [go_sem, *])
  have c_w7_0_1 := he7.cell (p := ⟨w.heap.size, 1, none⟩) (u := .slice Af nf df) (by first | assumption | simp [go_sem] | simp [go_sem, *])
  have z_w7_1 : w.heap.size + 1 < w7.heap.size := by have := he7.size; (try simp at this); omega
  have c_w7_1_0 := he7.cell (p := ⟨w.heap.size + 1, 0, none⟩) (u := .slice Aq nq dq) (by first | assumption | simp [go_sem] | simp [go_sem, *])
  have c_w7_1_1 := he7.cell (p := ⟨w.heap.size + 1, 1, none⟩) (u := .int .i64 bq) (by first | assumption | simp [go_sem] | simp [go_sem, *])
  have z_w7_2 : w6.heap.size < w7.heap.size := by have := he7.size; (try simp at this); omega
  have c_w7_2_0 := he7.cell (p := ⟨w6.heap.size, 0, none⟩) (u := .int .i64 bf) (by first | assumption | simp [go_sem] | simp [go_sem, *])
  have c_w7_2_1 := he7.cell (p := ⟨w6.heap.size, 1, none⟩) (u := .slice X6 nf Y6) (by first | assumption | simp [go_sem] | simp [go_sem, *])
  have ho7 : ObI 3 w7 (w6.heap.size + 1) w7.heap.size X7 nq Y7 xsq := by simpa using ho7
  have q_ho7 := ho7.small
  go_wp2_with fail
  refine (HI.out _ _ _ _ ((ho6.intss).ext (by (repeat (first | with_reducible exact Ext.refl _ | with_reducible assumption | ((with_reducible refine Ext.setCell ?_ ?_ _); rotate_left; focus (first | omega | (simp <;> omega))) | with_reducible refine Ext.alloc ?_ _ | with_reducible refine Ext.drewN ?_ _ | with_reducible refine Ext.drew ?_ | with_reducible refine Ext.trans ?_ (by with_reducible assumption))))) _ _ _ ((ho7.ints).ext (by (repeat (first | with_reducible exact Ext.refl _ | with_reducible assumption | ((with_reducible refine Ext.setCell ?_ ?_ _); rotate_left; focus (first | omega | (simp <;> omega))) | with_reducible refine Ext.alloc ?_ _ | with_reducible refine Ext.drewN ?_ _ | with_reducible refine Ext.drew ?_ | with_reducible refine Ext.trans ?_ (by with_reducible assumption)))))).mono ?_
  rintro e w8 ⟨rfl, he8⟩
  have s_w8 : w7.heap.size ≤ w8.heap.size := by have := he8.size; (try simp at this); omega
  have z_w8_0 : w.heap.size < w8.heap.size := by have := he8.size; (try simp at this); omega
  have c_w8_0_0 := he8.cell (p := ⟨w.heap.size, 0, none⟩) (u := .int .i64 bf) (by first | assumption | simp [go_sem] | simp [go_sem, *])
  have c_w8_0_1 := he8.cell (p := ⟨w.heap.size, 1, none⟩) (u := .slice Af nf df) (by first | assumption | simp [go_sem] | simp [go_sem, *])
  have z_w8_1 : w.heap.size + 1 < w8.heap.size := by have := he8.size; (try simp at this); omega
  have c_w8_1_0 := he8.cell (p := ⟨w.heap.size + 1, 0, none⟩) (u := .slice Aq nq dq) (by first | assumption | simp [go_sem] | simp [go_sem, *])
  have c_w8_1_1 := he8.cell (p := ⟨w.heap.size + 1, 1, none⟩) (u := .int .i64 bq) (by first | assumption | simp [go_sem] | simp [go_sem, *])
  have z_w8_2 : w6.heap.size < w8.heap.size := by have := he8.size; (try simp at this); omega
  have c_w8_2_0 := he8.cell (p := ⟨w6.heap.size, 0, none⟩) (u := .int .i64 bf) (by first | assumption | simp [go_sem] | simp [go_sem, *])
  have c_w8_2_1 := he8.cell (p := ⟨w6.heap.size, 1, none⟩) (u := .slice X6 nf Y6) (by first | assumption | simp [go_sem] | simp [go_sem, *])
  have z_w8_3 : w7.heap.size < w8.heap.size := by have := he8.size; (try simp at this); omega
  have c_w8_3_0 := he8.cell (p := ⟨w7.heap.size, 0, none⟩) (u := .slice X7 nq Y7) (by first | assumption | simp [go_sem] | simp [go_sem, *])
  have c_w8_3_1 := he8.cell (p := ⟨w7.heap.size, 1, none⟩) (u := .int .i64 bq) (by first | assumption | simp [go_sem] | simp [go_sem, *])
  go_wp2_with fail
  have eg8 : Ext w8 w8.drew := (Ext.refl _).drew
  go_region_held3 (fun w' => w'.cell? ⟨w.heap.size, 0, none⟩ = some (.int .i64 bf) ∧ w'.cell? ⟨w.heap.size, 1, none⟩ = some (.slice Af nf df) ∧ w'.cell? ⟨w6.heap.size, 0, none⟩ = some (.int .i64 bf) ∧ w'.cell? ⟨w6.heap.size, 1, none⟩ = some (.slice X6 nf Y6) ∧ Ext w8 w') (simp [go_sem, *]) (first | (go_at_call 17; (with_reducible refine (toCnf_o _ _ _ bf xsf _ (hf.ext (by (repeat (first | with_reducible exact Ext.refl _ | with_reducible assumption | ((with_reducible refine Ext.setCell ?_ ?_ _); rotate_left; focus (first | omega | (simp <;> omega))) | with_reducible refine Ext.alloc ?_ _ | with_reducible refine Ext.drewN ?_ _ | with_reducible refine Ext.drew ?_ | with_reducible refine Ext.trans ?_ (by with_reducible assumption))))) (by omega)).mono ?_); rintro e w9 ⟨X9, Y9, rfl, ho9, he9⟩; have c_w9_0_0 := he9.cell (p := ⟨w.heap.size, 0, none⟩) (u := .int .i64 bf) (by simp [go_sem, *]); have c_w9_0_1 := he9.cell (p := ⟨w.heap.size, 1, none⟩) (u := .slice Af nf df) (by simp [go_sem, *]); have c_w9_1_0 := he9.cell (p := ⟨w.heap.size + 1, 0, none⟩) (u := .slice Aq nq dq) (by simp [go_sem, *]); have c_w9_1_1 := he9.cell (p := ⟨w.heap.size + 1, 1, none⟩) (u := .int .i64 bq) (by simp [go_sem, *]); have c_w9_2_0 := he9.cell (p := ⟨w6.heap.size, 0, none⟩) (u := .int .i64 bf) (by simp [go_sem, *]); have c_w9_2_1 := he9.cell (p := ⟨w6.heap.size, 1, none⟩) (u := .slice X6 nf Y6) (by simp [go_sem, *]); have c_w9_3_0 := he9.cell (p := ⟨w7.heap.size, 0, none⟩) (u := .slice X7 nq Y7) (by simp [go_sem, *]); have c_w9_3_1 := he9.cell (p := ⟨w7.heap.size, 1, none⟩) (u := .int .i64 bq) (by simp [go_sem, *]); have ew9 : Ext w8 w9 := Ext.trans (by (repeat (first | with_reducible exact Ext.refl _ | with_reducible assumption | ((with_reducible refine Ext.setCell ?_ ?_ _); rotate_left; focus (first | omega | (simp <;> omega))) | with_reducible refine Ext.alloc ?_ _ | with_reducible refine Ext.drewN ?_ _ | with_reducible refine Ext.drew ?_ | with_reducible refine Ext.trans ?_ (by with_reducible assumption)))) he9; have s_w9 : w8.heap.size ≤ w9.heap.size := (by have := ew9.size; (try simp at this); omega)) | (go_at_call 19; (with_reducible refine (eqCnf_same _ _ _ _ _ _ _ xsf _ ((ho6.intss).ext (by (repeat (first | with_reducible exact Ext.refl _ | with_reducible assumption | ((with_reducible refine Ext.setCell ?_ ?_ _); rotate_left; focus (first | omega | (simp <;> omega))) | with_reducible refine Ext.alloc ?_ _ | with_reducible refine Ext.drewN ?_ _ | with_reducible refine Ext.drew ?_ | with_reducible refine Ext.trans ?_ (by with_reducible assumption))))) ((ho9.intss).ext (by (repeat (first | with_reducible exact Ext.refl _ | with_reducible assumption | ((with_reducible refine Ext.setCell ?_ ?_ _); rotate_left; focus (first | omega | (simp <;> omega))) | with_reducible refine Ext.alloc ?_ _ | with_reducible refine Ext.drewN ?_ _ | with_reducible refine Ext.drew ?_ | with_reducible refine Ext.trans ?_ (by with_reducible assumption)))))).mono ?_); rintro e w10 ⟨rfl, he10⟩; have c_w10_0_0 := he10.cell (p := ⟨w.heap.size, 0, none⟩) (u := .int .i64 bf) (by simp [go_sem, *]); have c_w10_0_1 := he10.cell (p := ⟨w.heap.size, 1, none⟩) (u := .slice Af nf df) (by simp [go_sem, *]); have c_w10_1_0 := he10.cell (p := ⟨w.heap.size + 1, 0, none⟩) (u := .slice Aq nq dq) (by simp [go_sem, *]); have c_w10_1_1 := he10.cell (p := ⟨w.heap.size + 1, 1, none⟩) (u := .int .i64 bq) (by simp [go_sem, *]); have c_w10_2_0 := he10.cell (p := ⟨w6.heap.size, 0, none⟩) (u := .int .i64 bf) (by simp [go_sem, *]); have c_w10_2_1 := he10.cell (p := ⟨w6.heap.size, 1, none⟩) (u := .slice X6 nf Y6) (by simp [go_sem, *]); have c_w10_3_0 := he10.cell (p := ⟨w7.heap.size, 0, none⟩) (u := .slice X7 nq Y7) (by simp [go_sem, *]); have c_w10_3_1 := he10.cell (p := ⟨w7.heap.size, 1, none⟩) (u := .int .i64 bq) (by simp [go_sem, *]); have ew10 : Ext w8 w10 := Ext.trans (by (repeat (first | with_reducible exact Ext.refl _ | with_reducible assumption | ((with_reducible refine Ext.setCell ?_ ?_ _); rotate_left; focus (first | omega | (simp <;> omega))) | with_reducible refine Ext.alloc ?_ _ | with_reducible refine Ext.drewN ?_ _ | with_reducible refine Ext.drew ?_ | with_reducible refine Ext.trans ?_ (by with_reducible assumption)))) he10; have s_w10 : w8.heap.size ≤ w10.heap.size := (by have := ew10.size; (try simp at this); omega)))
  have z_w10_0 : w.heap.size < w10.heap.size := by have := ew10.size; omega
  have z_w10_1 : w.heap.size + 1 < w10.heap.size := by have := ew10.size; omega
  have z_w10_2 : w6.heap.size < w10.heap.size := by have := ew10.size; omega
  have z_w10_3 : w7.heap.size < w10.heap.size := by have := ew10.size; omega
  go_wp2_with fail
  have eg10 : Ext w10 w10.drew := (Ext.refl _).drew
  go_region_held3 (fun w' => w'.cell? ⟨w.heap.size + 1, 0, none⟩ = some (.slice Aq nq dq) ∧ w'.cell? ⟨w.heap.size + 1, 1, none⟩ = some (.int .i64 bq) ∧ w'.cell? ⟨w7.heap.size, 0, none⟩ = some (.slice X7 nq Y7) ∧ w'.cell? ⟨w7.heap.size, 1, none⟩ = some (.int .i64 bq) ∧ Ext w10 w') (simp [go_sem, *]) (first | (go_at_call 50; (with_reducible refine (toInequality_o _ _ _ bq xsq _ (hq.ext (by (repeat (first | with_reducible exact Ext.refl _ | with_reducible assumption | ((with_reducible refine Ext.setCell ?_ ?_ _); rotate_left; focus (first | omega | (simp <;> omega))) | with_reducible refine Ext.alloc ?_ _ | with_reducible refine Ext.drewN ?_ _ | with_reducible refine Ext.drew ?_ | with_reducible refine Ext.trans ?_ (by with_reducible assumption))))) (by omega)).mono ?_); rintro e w11 ⟨X11, Y11, rfl, ho11, he11⟩; have c_w11_0_0 := he11.cell (p := ⟨w.heap.size, 0, none⟩) (u := .int .i64 bf) (by simp [go_sem, *]); have c_w11_0_1 := he11.cell (p := ⟨w.heap.size, 1, none⟩) (u := .slice Af nf df) (by simp [go_sem, *]); have c_w11_1_0 := he11.cell (p := ⟨w.heap.size + 1, 0, none⟩) (u := .slice Aq nq dq) (by simp [go_sem, *]); have c_w11_1_1 := he11.cell (p := ⟨w.heap.size + 1, 1, none⟩) (u := .int .i64 bq) (by simp [go_sem, *]); have c_w11_2_0 := he11.cell (p := ⟨w6.heap.size, 0, none⟩) (u := .int .i64 bf) (by simp [go_sem, *]); have c_w11_2_1 := he11.cell (p := ⟨w6.heap.size, 1, none⟩) (u := .slice X6 nf Y6) (by simp [go_sem, *]); have c_w11_3_0 := he11.cell (p := ⟨w7.heap.size, 0, none⟩) (u := .slice X7 nq Y7) (by simp [go_sem, *]); have c_w11_3_1 := he11.cell (p := ⟨w7.heap.size, 1, none⟩) (u := .int .i64 bq) (by simp [go_sem, *]); have ew11 : Ext w10 w11 := Ext.trans (by (repeat (first | with_reducible exact Ext.refl _ | with_reducible assumption | ((with_reducible refine Ext.setCell ?_ ?_ _); rotate_left; focus (first | omega | (simp <;> omega))) | with_reducible refine Ext.alloc ?_ _ | with_reducible refine Ext.drewN ?_ _ | with_reducible refine Ext.drew ?_ | with_reducible refine Ext.trans ?_ (by with_reducible assumption)))) he11; have s_w11 : w10.heap.size ≤ w11.heap.size := (by have := ew11.size; (try simp at this); omega)) | (go_at_call 52; (with_reducible refine (eqInequality_same _ _ _ _ _ _ _ xsq _ ((ho7.ints).ext (by (repeat (first | with_reducible exact Ext.refl _ | with_reducible assumption | ((with_reducible refine Ext.setCell ?_ ?_ _); rotate_left; focus (first | omega | (simp <;> omega))) | with_reducible refine Ext.alloc ?_ _ | with_reducible refine Ext.drewN ?_ _ | with_reducible refine Ext.drew ?_ | with_reducible refine Ext.trans ?_ (by with_reducible assumption))))) ((ho11.ints).ext (by (repeat (first | with_reducible exact Ext.refl _ | with_reducible assumption | ((with_reducible refine Ext.setCell ?_ ?_ _); rotate_left; focus (first | omega | (simp <;> omega))) | with_reducible refine Ext.alloc ?_ _ | with_reducible refine Ext.drewN ?_ _ | with_reducible refine Ext.drew ?_ | with_reducible refine Ext.trans ?_ (by with_reducible assumption)))))).mono ?_); rintro e w12 ⟨rfl, he12⟩; have c_w12_0_0 := he12.cell (p := ⟨w.heap.size, 0, none⟩) (u := .int .i64 bf) (by simp [go_sem, *]); have c_w12_0_1 := he12.cell (p := ⟨w.heap.size, 1, none⟩) (u := .slice Af nf df) (by simp [go_sem, *]); have c_w12_1_0 := he12.cell (p := ⟨w.heap.size + 1, 0, none⟩) (u := .slice Aq nq dq) (by simp [go_sem, *]); have c_w12_1_1 := he12.cell (p := ⟨w.heap.size + 1, 1, none⟩) (u := .int .i64 bq) (by simp [go_sem, *]); have c_w12_2_0 := he12.cell (p := ⟨w6.heap.size, 0, none⟩) (u := .int .i64 bf) (by simp [go_sem, *]); have c_w12_2_1 := he12.cell (p := ⟨w6.heap.size, 1, none⟩) (u := .slice X6 nf Y6) (by simp [go_sem, *]); have c_w12_3_0 := he12.cell (p := ⟨w7.heap.size, 0, none⟩) (u := .slice X7 nq Y7) (by simp [go_sem, *]); have c_w12_3_1 := he12.cell (p := ⟨w7.heap.size, 1, none⟩) (u := .int .i64 bq) (by simp [go_sem, *]); have ew12 : Ext w10 w12 := Ext.trans (by (repeat (first | with_reducible exact Ext.refl _ | with_reducible assumption | ((with_reducible refine Ext.setCell ?_ ?_ _); rotate_left; focus (first | omega | (simp <;> omega))) | with_reducible refine Ext.alloc ?_ _ | with_reducible refine Ext.drewN ?_ _ | with_reducible refine Ext.drew ?_ | with_reducible refine Ext.trans ?_ (by with_reducible assumption)))) he12; have s_w12 : w10.heap.size ≤ w12.heap.size := (by have := ew12.size; (try simp at this); omega)))
  have z_w12_0 : w.heap.size < w12.heap.size := by have := ew12.size; omega
  have z_w12_1 : w.heap.size + 1 < w12.heap.size := by have := ew12.size; omega
  have z_w12_2 : w6.heap.size < w12.heap.size := by have := ew12.size; omega
  have z_w12_3 : w7.heap.size < w12.heap.size := by have := ew12.size; omega
  go_wp2_with fail
  go_ret
  exact ⟨rfl, by (repeat (first | with_reducible exact Ext.refl _ | with_reducible assumption | ((with_reducible refine Ext.setCell ?_ ?_ _); rotate_left; focus (first | omega | (simp <;> omega))) | with_reducible refine Ext.alloc ?_ _ | with_reducible refine Ext.drewN ?_ _ | with_reducible refine Ext.drew ?_ | with_reducible refine Ext.trans ?_ (by with_reducible assumption)))⟩
end Go.Proofs.Ytmpfhibncnamnaa
