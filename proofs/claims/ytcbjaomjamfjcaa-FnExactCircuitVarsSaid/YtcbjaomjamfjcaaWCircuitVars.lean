/-
  PROVED: the walk of the law FnExactCircuitVars: it returns true for every input.
-/
import Derived.Test.YtcbjaomjamfjcaaK32
namespace Go.Proofs.Ytcbjaomjamfjcaa
set_option linter.unusedSimpArgs false
set_option linter.unusedVariables false
open Go.RowKit
set_option maxRecDepth 100000 in
set_option maxHeartbeats 8000000 in
theorem CircuitVars_law (v : Int) (Aq : Option Addr) (nq dq : Nat) (xsq : List Gt) (w : World) (hq : FlatA 3 w Aq nq (fl xsq)) :
    Calls Try.prog 10 #[.int .i64 v, .slice Aq nq dq] w fun e w' => e = .returned (.bool true) ∧ Ext w w' := by
  have hbq := hq.bound
  have hs := fun w A n c (h : Gates w A n xsq) => spec_CircuitVars_o v A n c xsq w h
  have hi := fun w A n c (h : Gates w A n xsq) => impl_CircuitVars_o v A n c xsq w h
  generalize (if circB v xsq then cvarsG xsq else []) = F at hs hi
  generalize circB v xsq = ok at hs hi
  have HS := hide hs
  have HI := hide hi
  clear hs hi
  by_cases hsq : nq ≤ 1048576
  rotate_left
  · skip
    go_enter Try.func10, Try.ntmps10
    go_wp2_with fail
    refine (szGateS_no _ _ _ _ _ hbq (by omega) (by omega)).mono ?_
    rintro e w1 ⟨rfl, he1⟩
    have s_w1 : w.heap.size ≤ w1.heap.size := by have := he1.size; (try simp at this); omega
    go_wp2_with fail
    go_ret
    exact ⟨rfl, by (repeat (first | with_reducible exact Ext.refl _ | with_reducible assumption | ((with_reducible refine Ext.setCell ?_ ?_ _); rotate_left; focus (first | omega | (simp <;> omega))) | with_reducible refine Ext.alloc ?_ _ | with_reducible refine Ext.drewN ?_ _ | with_reducible refine Ext.drew ?_ | with_reducible refine Ext.trans ?_ (by with_reducible assumption)))⟩
  go_enter Try.func10, Try.ntmps10
  go_wp2_with fail
  refine (szGateS_fit _ _ _ _ _ hbq (by omega) (by omega)).mono ?_
  rintro e w1 ⟨rfl, he1⟩
  have s_w1 : w.heap.size ≤ w1.heap.size := by have := he1.size; (try simp at this); omega
  go_wp2_with fail
  refine (toGateS_o _ _ _ (fl xsq) _ (hq.ext (by (repeat (first | with_reducible exact Ext.refl _ | with_reducible assumption | ((with_reducible refine Ext.setCell ?_ ?_ _); rotate_left; focus (first | omega | (simp <;> omega))) | with_reducible refine Ext.alloc ?_ _ | with_reducible refine Ext.drewN ?_ _ | with_reducible refine Ext.drew ?_ | with_reducible refine Ext.trans ?_ (by with_reducible assumption))))) (by omega)).mono ?_
  rintro e w2 ⟨X2, Y2, rfl, ho2, he2⟩
  have s_w2 : w1.heap.size ≤ w2.heap.size := by have := he2.size; (try simp at this); omega
  have ho2 : ObF 86 3 w2 (w1.heap.size) w2.heap.size X2 nq Y2 (fl xsq) := by simpa using ho2
  have q_ho2 := ho2.small
  go_wp2_with fail
  refine (HS.out _ _ _ _ ((ho2.gates).ext (by (repeat (first | with_reducible exact Ext.refl _ | with_reducible assumption | ((with_reducible refine Ext.setCell ?_ ?_ _); rotate_left; focus (first | omega | (simp <;> omega))) | with_reducible refine Ext.alloc ?_ _ | with_reducible refine Ext.drewN ?_ _ | with_reducible refine Ext.drew ?_ | with_reducible refine Ext.trans ?_ (by with_reducible assumption)))))).mono ?_
  rintro e w3 ⟨A3_0, n3_0, c3_0, rfl, ho3_0, he3⟩
  have s_w3 : w2.heap.size ≤ w3.heap.size := by have := he3.size; (try simp at this); omega
  have ho3_0 : ObI 3 w3 (w2.heap.size) w3.heap.size A3_0 n3_0 c3_0 F := by simpa using ho3_0
  have q_ho3_0 := ho3_0.small
  go_wp2_with fail
  refine (toGateS_o _ _ _ (fl xsq) _ (hq.ext (by (repeat (first | with_reducible exact Ext.refl _ | with_reducible assumption | ((with_reducible refine Ext.setCell ?_ ?_ _); rotate_left; focus (first | omega | (simp <;> omega))) | with_reducible refine Ext.alloc ?_ _ | with_reducible refine Ext.drewN ?_ _ | with_reducible refine Ext.drew ?_ | with_reducible refine Ext.trans ?_ (by with_reducible assumption))))) (by omega)).mono ?_
  rintro e w4 ⟨X4, Y4, rfl, ho4, he4⟩
  have s_w4 : w3.heap.size ≤ w4.heap.size := by have := he4.size; (try simp at this); omega
  have ho4 : ObF 86 3 w4 (w3.heap.size) w4.heap.size X4 nq Y4 (fl xsq) := by simpa using ho4
  have q_ho4 := ho4.small
  go_wp2_with fail
  refine (HI.out _ _ _ _ ((ho4.gates).ext (by (repeat (first | with_reducible exact Ext.refl _ | with_reducible assumption | ((with_reducible refine Ext.setCell ?_ ?_ _); rotate_left; focus (first | omega | (simp <;> omega))) | with_reducible refine Ext.alloc ?_ _ | with_reducible refine Ext.drewN ?_ _ | with_reducible refine Ext.drew ?_ | with_reducible refine Ext.trans ?_ (by with_reducible assumption)))))).mono ?_
  rintro e w5 ⟨A5_0, n5_0, c5_0, rfl, ho5_0, he5⟩
  have s_w5 : w4.heap.size ≤ w5.heap.size := by have := he5.size; (try simp at this); omega
  have ho5_0 : ObI 3 w5 (w4.heap.size) w5.heap.size A5_0 n5_0 c5_0 F := by simpa using ho5_0
  have q_ho5_0 := ho5_0.small
  go_wp2_with fail
  refine (eqIntS_same _ _ _ _ _ _ F _ ((ho5_0.ints).ext (by (repeat (first | with_reducible exact Ext.refl _ | with_reducible assumption | ((with_reducible refine Ext.setCell ?_ ?_ _); rotate_left; focus (first | omega | (simp <;> omega))) | with_reducible refine Ext.alloc ?_ _ | with_reducible refine Ext.drewN ?_ _ | with_reducible refine Ext.drew ?_ | with_reducible refine Ext.trans ?_ (by with_reducible assumption))))) ((ho3_0.ints).ext (by (repeat (first | with_reducible exact Ext.refl _ | with_reducible assumption | ((with_reducible refine Ext.setCell ?_ ?_ _); rotate_left; focus (first | omega | (simp <;> omega))) | with_reducible refine Ext.alloc ?_ _ | with_reducible refine Ext.drewN ?_ _ | with_reducible refine Ext.drew ?_ | with_reducible refine Ext.trans ?_ (by with_reducible assumption)))))).mono ?_
  rintro e w6 ⟨rfl, he6⟩
  have s_w6 : w5.heap.size ≤ w6.heap.size := by have := he6.size; (try simp at this); omega
  go_wp2_with fail
  refine (toGateS_o _ _ _ (fl xsq) _ (hq.ext (by (repeat (first | with_reducible exact Ext.refl _ | with_reducible assumption | ((with_reducible refine Ext.setCell ?_ ?_ _); rotate_left; focus (first | omega | (simp <;> omega))) | with_reducible refine Ext.alloc ?_ _ | with_reducible refine Ext.drewN ?_ _ | with_reducible refine Ext.drew ?_ | with_reducible refine Ext.trans ?_ (by with_reducible assumption))))) (by omega)).mono ?_
  rintro e w7 ⟨X7, Y7, rfl, ho7, he7⟩
  have s_w7 : w6.heap.size ≤ w7.heap.size := by have := he7.size; (try simp at this); omega
  have ho7 : ObF 86 3 w7 (w6.heap.size) w7.heap.size X7 nq Y7 (fl xsq) := by simpa using ho7
  have q_ho7 := ho7.small
  go_wp2_with fail
  refine (eqGateS_same _ _ _ _ _ _ (fl xsq) _ ((ho4.flat).ext (by (repeat (first | with_reducible exact Ext.refl _ | with_reducible assumption | ((with_reducible refine Ext.setCell ?_ ?_ _); rotate_left; focus (first | omega | (simp <;> omega))) | with_reducible refine Ext.alloc ?_ _ | with_reducible refine Ext.drewN ?_ _ | with_reducible refine Ext.drew ?_ | with_reducible refine Ext.trans ?_ (by with_reducible assumption))))) ((ho7.flat).ext (by (repeat (first | with_reducible exact Ext.refl _ | with_reducible assumption | ((with_reducible refine Ext.setCell ?_ ?_ _); rotate_left; focus (first | omega | (simp <;> omega))) | with_reducible refine Ext.alloc ?_ _ | with_reducible refine Ext.drewN ?_ _ | with_reducible refine Ext.drew ?_ | with_reducible refine Ext.trans ?_ (by with_reducible assumption)))))).mono ?_
  rintro e w8 ⟨rfl, he8⟩
  have s_w8 : w7.heap.size ≤ w8.heap.size := by have := he8.size; (try simp at this); omega
  go_wp2_with fail
  refine (markGateS_o _ _ _ _ _ _ (fl xsq) _ (ho4.ext (by (repeat (first | with_reducible exact Ext.refl _ | with_reducible assumption | ((with_reducible refine Ext.setCell ?_ ?_ _); rotate_left; focus (first | omega | (simp <;> omega))) | with_reducible refine Ext.alloc ?_ _ | with_reducible refine Ext.drewN ?_ _ | with_reducible refine Ext.drew ?_ | with_reducible refine Ext.trans ?_ (by with_reducible assumption))))) (by omega)).mono ?_
  rintro e w9 ⟨rfl, hm9, t9⟩
  have s_w9 : w8.heap.size ≤ w9.heap.size := by have := t9.size; (try simp at this); omega
  have ew9 : Ext w w9 := Ext.touched (by (repeat (first | with_reducible exact Ext.refl _ | with_reducible assumption | ((with_reducible refine Ext.setCell ?_ ?_ _); rotate_left; focus (first | omega | (simp <;> omega))) | with_reducible refine Ext.alloc ?_ _ | with_reducible refine Ext.drewN ?_ _ | with_reducible refine Ext.drew ?_ | with_reducible refine Ext.trans ?_ (by with_reducible assumption)))) t9 (by omega)
  have ho3_0_9 := (ho3_0.ext (by (repeat (first | with_reducible exact Ext.refl _ | with_reducible assumption | ((with_reducible refine Ext.setCell ?_ ?_ _); rotate_left; focus (first | omega | (simp <;> omega))) | with_reducible refine Ext.alloc ?_ _ | with_reducible refine Ext.drewN ?_ _ | with_reducible refine Ext.drew ?_ | with_reducible refine Ext.trans ?_ (by with_reducible assumption))))).touch t9 (by omega)
  have ho5_0_9 := (ho5_0.ext (by (repeat (first | with_reducible exact Ext.refl _ | with_reducible assumption | ((with_reducible refine Ext.setCell ?_ ?_ _); rotate_left; focus (first | omega | (simp <;> omega))) | with_reducible refine Ext.alloc ?_ _ | with_reducible refine Ext.drewN ?_ _ | with_reducible refine Ext.drew ?_ | with_reducible refine Ext.trans ?_ (by with_reducible assumption))))).touch t9 (by omega)
  go_wp2_with fail
  refine (eqIntS_same _ _ _ _ _ _ F _ ((ho5_0_9.ints).ext (by (repeat (first | with_reducible exact Ext.refl _ | with_reducible assumption | ((with_reducible refine Ext.setCell ?_ ?_ _); rotate_left; focus (first | omega | (simp <;> omega))) | with_reducible refine Ext.alloc ?_ _ | with_reducible refine Ext.drewN ?_ _ | with_reducible refine Ext.drew ?_ | with_reducible refine Ext.trans ?_ (by with_reducible assumption))))) ((ho3_0_9.ints).ext (by (repeat (first | with_reducible exact Ext.refl _ | with_reducible assumption | ((with_reducible refine Ext.setCell ?_ ?_ _); rotate_left; focus (first | omega | (simp <;> omega))) | with_reducible refine Ext.alloc ?_ _ | with_reducible refine Ext.drewN ?_ _ | with_reducible refine Ext.drew ?_ | with_reducible refine Ext.trans ?_ (by with_reducible assumption)))))).mono ?_
  rintro e w10 ⟨rfl, he10⟩
  have s_w10 : w9.heap.size ≤ w10.heap.size := by have := he10.size; (try simp at this); omega
  go_wp2_with fail
  refine (markIntS_o _ _ _ _ _ _ F _ (ho5_0_9.ext (by (repeat (first | with_reducible exact Ext.refl _ | with_reducible assumption | ((with_reducible refine Ext.setCell ?_ ?_ _); rotate_left; focus (first | omega | (simp <;> omega))) | with_reducible refine Ext.alloc ?_ _ | with_reducible refine Ext.drewN ?_ _ | with_reducible refine Ext.drew ?_ | with_reducible refine Ext.trans ?_ (by with_reducible assumption))))) (by omega)).mono ?_
  rintro e w11 ⟨rfl, hm11, t11⟩
  have s_w11 : w10.heap.size ≤ w11.heap.size := by have := t11.size; (try simp at this); omega
  have ew11 : Ext w w11 := Ext.touched (by (repeat (first | with_reducible exact Ext.refl _ | with_reducible assumption | ((with_reducible refine Ext.setCell ?_ ?_ _); rotate_left; focus (first | omega | (simp <;> omega))) | with_reducible refine Ext.alloc ?_ _ | with_reducible refine Ext.drewN ?_ _ | with_reducible refine Ext.drew ?_ | with_reducible refine Ext.trans ?_ (by with_reducible assumption)))) t11 (by omega)
  have ho3_0_9_11 := (ho3_0_9.ext (by (repeat (first | with_reducible exact Ext.refl _ | with_reducible assumption | ((with_reducible refine Ext.setCell ?_ ?_ _); rotate_left; focus (first | omega | (simp <;> omega))) | with_reducible refine Ext.alloc ?_ _ | with_reducible refine Ext.drewN ?_ _ | with_reducible refine Ext.drew ?_ | with_reducible refine Ext.trans ?_ (by with_reducible assumption))))).touch t11 (by omega)
  have hm9_11 := (hm9.ext (by (repeat (first | with_reducible exact Ext.refl _ | with_reducible assumption | ((with_reducible refine Ext.setCell ?_ ?_ _); rotate_left; focus (first | omega | (simp <;> omega))) | with_reducible refine Ext.alloc ?_ _ | with_reducible refine Ext.drewN ?_ _ | with_reducible refine Ext.drew ?_ | with_reducible refine Ext.trans ?_ (by with_reducible assumption))))).touch t11 (by omega)
  go_wp2_with fail
  refine (heldIntS_o _ _ _ _ _ _ _ (hm11.ext (by (repeat (first | with_reducible exact Ext.refl _ | with_reducible assumption | ((with_reducible refine Ext.setCell ?_ ?_ _); rotate_left; focus (first | omega | (simp <;> omega))) | with_reducible refine Ext.alloc ?_ _ | with_reducible refine Ext.drewN ?_ _ | with_reducible refine Ext.drew ?_ | with_reducible refine Ext.trans ?_ (by with_reducible assumption))))) (by omega)).mono ?_
  rintro e w12 ⟨rfl, he12⟩
  have s_w12 : w11.heap.size ≤ w12.heap.size := by have := he12.size; (try simp at this); omega
  go_wp2_with fail
  refine (toGateS_o _ _ _ (fl xsq) _ (hq.ext (by (repeat (first | with_reducible exact Ext.refl _ | with_reducible assumption | ((with_reducible refine Ext.setCell ?_ ?_ _); rotate_left; focus (first | omega | (simp <;> omega))) | with_reducible refine Ext.alloc ?_ _ | with_reducible refine Ext.drewN ?_ _ | with_reducible refine Ext.drew ?_ | with_reducible refine Ext.trans ?_ (by with_reducible assumption))))) (by omega)).mono ?_
  rintro e w13 ⟨X13, Y13, rfl, ho13, he13⟩
  have s_w13 : w12.heap.size ≤ w13.heap.size := by have := he13.size; (try simp at this); omega
  have ho13 : ObF 86 3 w13 (w12.heap.size) w13.heap.size X13 nq Y13 (fl xsq) := by simpa using ho13
  have q_ho13 := ho13.small
  go_wp2_with fail
  refine (HI.out _ _ _ _ ((ho13.gates).ext (by (repeat (first | with_reducible exact Ext.refl _ | with_reducible assumption | ((with_reducible refine Ext.setCell ?_ ?_ _); rotate_left; focus (first | omega | (simp <;> omega))) | with_reducible refine Ext.alloc ?_ _ | with_reducible refine Ext.drewN ?_ _ | with_reducible refine Ext.drew ?_ | with_reducible refine Ext.trans ?_ (by with_reducible assumption)))))).mono ?_
  rintro e w14 ⟨A14_0, n14_0, c14_0, rfl, ho14_0, he14⟩
  have s_w14 : w13.heap.size ≤ w14.heap.size := by have := he14.size; (try simp at this); omega
  have ho14_0 : ObI 3 w14 (w13.heap.size) w14.heap.size A14_0 n14_0 c14_0 F := by simpa using ho14_0
  have q_ho14_0 := ho14_0.small
  go_wp2_with fail
  refine (eqIntS_same _ _ _ _ _ _ F _ ((ho14_0.ints).ext (by (repeat (first | with_reducible exact Ext.refl _ | with_reducible assumption | ((with_reducible refine Ext.setCell ?_ ?_ _); rotate_left; focus (first | omega | (simp <;> omega))) | with_reducible refine Ext.alloc ?_ _ | with_reducible refine Ext.drewN ?_ _ | with_reducible refine Ext.drew ?_ | with_reducible refine Ext.trans ?_ (by with_reducible assumption))))) ((ho3_0_9_11.ints).ext (by (repeat (first | with_reducible exact Ext.refl _ | with_reducible assumption | ((with_reducible refine Ext.setCell ?_ ?_ _); rotate_left; focus (first | omega | (simp <;> omega))) | with_reducible refine Ext.alloc ?_ _ | with_reducible refine Ext.drewN ?_ _ | with_reducible refine Ext.drew ?_ | with_reducible refine Ext.trans ?_ (by with_reducible assumption)))))).mono ?_
  rintro e w15 ⟨rfl, he15⟩
  have s_w15 : w14.heap.size ≤ w15.heap.size := by have := he15.size; (try simp at this); omega
  go_wp2_with fail
  refine (heldIntS_o _ _ _ _ _ _ _ (hm11.ext (by (repeat (first | with_reducible exact Ext.refl _ | with_reducible assumption | ((with_reducible refine Ext.setCell ?_ ?_ _); rotate_left; focus (first | omega | (simp <;> omega))) | with_reducible refine Ext.alloc ?_ _ | with_reducible refine Ext.drewN ?_ _ | with_reducible refine Ext.drew ?_ | with_reducible refine Ext.trans ?_ (by with_reducible assumption))))) (by omega)).mono ?_
  rintro e w16 ⟨rfl, he16⟩
  have s_w16 : w15.heap.size ≤ w16.heap.size := by have := he16.size; (try simp at this); omega
  go_wp2_with fail
  go_ret
  exact ⟨rfl, by (repeat (first | with_reducible exact Ext.refl _ | with_reducible assumption | ((with_reducible refine Ext.setCell ?_ ?_ _); rotate_left; focus (first | omega | (simp <;> omega))) | with_reducible refine Ext.alloc ?_ _ | with_reducible refine Ext.drewN ?_ _ | with_reducible refine Ext.drew ?_ | with_reducible refine Ext.trans ?_ (by with_reducible assumption)))⟩
end Go.Proofs.Ytcbjaomjamfjcaa
