/-
  FoldCircuit: both answers; no condition.
-/
import Derived.Test.YtcbjaomjamfjcaaK23
import Derived.Test.YtcbjaomjamfjcaaK24
namespace Go.Proofs.Ytcbjaomjamfjcaa
set_option linter.unusedSimpArgs false
set_option linter.unusedVariables false
open Go.RowKit

theorem foldG_le {gs : List Gt} (hg : GoodG gs) : (foldG gs).length ≤ gs.length := by
  unfold foldG trimG
  rw [trimTo_length]
  have h1 := countB_le (mark ((foldTo gs gs.length).1.take (((foldTo gs gs.length).2.getD (gs.length - 1) 0).toNat + 1))) ((foldTo gs gs.length).1.take (((foldTo gs gs.length).2.getD (gs.length - 1) 0).toNat + 1)).length
  have h2 := (foldTo_ok hg gs.length (Nat.le_refl _)).le
  simp only [List.length_take] at h1 ⊢
  omega
set_option maxHeartbeats 800000 in
theorem spec_FoldCircuit_o (v : Int) (A : Option Addr) (n d : Nat) (gs : List Gt) (w : World) (h : Gates w A n gs) :
    Calls Try.prog 42 #[.int .i64 v, .slice A n d] w fun e w' =>
      ∃ A' n' c', e = .returned (.tuple #[.slice A' n' c', .bool (circB v gs)]) ∧ ObF 86 3 w' w.heap.size w'.heap.size A' n' c' (fl (if circB v gs then foldG gs else [])) ∧ Ext w w' := by
  have hl := hide h.len
  cases h1 : circB v gs
  · simp only [Bool.false_eq_true, if_false, fl]
    have H1 := hide h1
    clear h1
    go_enter Try.func42, Try.ntmps42
    go_wp2_with (go_at_call 66; refine (l6Good_c _ _ _ _ gs _ (h.ext (by (repeat (first | with_reducible exact Ext.refl _ | with_reducible assumption | ((with_reducible refine Ext.setCell ?_ ?_ _); rotate_left; focus (first | omega | (simp <;> omega))) | with_reducible refine Ext.alloc ?_ _ | with_reducible refine Ext.drewN ?_ _ | with_reducible refine Ext.drew ?_ | with_reducible refine Ext.trans ?_ (by with_reducible assumption)))))).mono ?_; rw [H1.out]; rintro e w1 ⟨rfl, he1⟩)
    go_ret2
    exact ⟨_, _, _, rfl, by simpa using ObF.empty (W := w1) (lo := w.heap.size) he1.size, by (repeat (first | with_reducible exact Ext.refl _ | with_reducible assumption | ((with_reducible refine Ext.setCell ?_ ?_ _); rotate_left; focus (first | omega | (simp <;> omega))) | with_reducible refine Ext.alloc ?_ _ | with_reducible refine Ext.drewN ?_ _ | with_reducible refine Ext.drew ?_ | with_reducible refine Ext.trans ?_ (by with_reducible assumption)))⟩
  · simp only [if_true]
    obtain ⟨-, hc2, hc3⟩ := circ_facts h1
    have hn : n ≤ 200 := by rw [hl.out]; exact hc2.2
    have hn1 : 1 ≤ n := by rw [hl.out]; exact hc2.1
    have HC := hide hc3
    have H1 := hide h1
    have HLe : Hid ((foldG gs).length ≤ 200) := hide (by have := foldG_le HC.out; omega)
    clear h1 hc2 hc3
    go_enter Try.func42, Try.ntmps42
    go_wp2_with fail
    refine (l6Good_c _ _ _ _ gs _ (h.ext (by (repeat (first | with_reducible exact Ext.refl _ | with_reducible assumption | ((with_reducible refine Ext.setCell ?_ ?_ _); rotate_left; focus (first | omega | (simp <;> omega))) | with_reducible refine Ext.alloc ?_ _ | with_reducible refine Ext.drewN ?_ _ | with_reducible refine Ext.drew ?_ | with_reducible refine Ext.trans ?_ (by with_reducible assumption)))))).mono ?_; rw [H1.out]; rintro e w1 ⟨rfl, he1⟩
    go_wp2_with fail
    refine (l6Fold_c _ _ _ gs _ (h.ext he1) HC.out hn hn1).mono ?_
    rintro e w2 ⟨X, N, y, rfl, hN, ho, he2⟩
    have hN2 : N ≤ 200 := by have := hN.out; have := HLe.out; omega
    go_wp2_with fail
    go_ret2
    exact ⟨_, _, _, rfl, ObF.of (ho.lower he1.size) (by omega), he1.trans he2⟩
set_option maxHeartbeats 800000 in
theorem impl_FoldCircuit_o (v : Int) (A : Option Addr) (n d : Nat) (gs : List Gt) (w : World) (h : Gates w A n gs) :
    Calls Try.prog 43 #[.int .i64 v, .slice A n d] w fun e w' =>
      ∃ A' n' c', e = .returned (.tuple #[.slice A' n' c', .bool (circB v gs)]) ∧ ObF 86 3 w' w.heap.size w'.heap.size A' n' c' (fl (if circB v gs then foldG gs else [])) ∧ Ext w w' := by
  have hl := hide h.len
  cases h1 : circB v gs
  · simp only [Bool.false_eq_true, if_false, fl]
    have H1 := hide h1
    clear h1
    go_enter Try.func43, Try.ntmps43
    go_wp2_with (go_at_call 69; refine (impl_IsCircuit_c _ _ _ _ gs _ (h.ext (by (repeat (first | with_reducible exact Ext.refl _ | with_reducible assumption | ((with_reducible refine Ext.setCell ?_ ?_ _); rotate_left; focus (first | omega | (simp <;> omega))) | with_reducible refine Ext.alloc ?_ _ | with_reducible refine Ext.drewN ?_ _ | with_reducible refine Ext.drew ?_ | with_reducible refine Ext.trans ?_ (by with_reducible assumption)))))).mono ?_; rw [H1.out]; rintro e w1 ⟨rfl, he1⟩)
    go_ret2
    exact ⟨_, _, _, rfl, ObF.nil, by (repeat (first | with_reducible exact Ext.refl _ | with_reducible assumption | ((with_reducible refine Ext.setCell ?_ ?_ _); rotate_left; focus (first | omega | (simp <;> omega))) | with_reducible refine Ext.alloc ?_ _ | with_reducible refine Ext.drewN ?_ _ | with_reducible refine Ext.drew ?_ | with_reducible refine Ext.trans ?_ (by with_reducible assumption)))⟩
  · simp only [if_true]
    obtain ⟨-, hc2, hc3⟩ := circ_facts h1
    have hn : n ≤ 200 := by rw [hl.out]; exact hc2.2
    have hn1 : 1 ≤ n := by rw [hl.out]; exact hc2.1
    have HC := hide hc3
    have H1 := hide h1
    have HLe : Hid ((foldG gs).length ≤ 200) := hide (by have := foldG_le HC.out; omega)
    clear h1 hc2 hc3
    go_enter Try.func43, Try.ntmps43
    go_wp2_with fail
    refine (impl_IsCircuit_c _ _ _ _ gs _ (h.ext (by (repeat (first | with_reducible exact Ext.refl _ | with_reducible assumption | ((with_reducible refine Ext.setCell ?_ ?_ _); rotate_left; focus (first | omega | (simp <;> omega))) | with_reducible refine Ext.alloc ?_ _ | with_reducible refine Ext.drewN ?_ _ | with_reducible refine Ext.drew ?_ | with_reducible refine Ext.trans ?_ (by with_reducible assumption)))))).mono ?_; rw [H1.out]; rintro e w1 ⟨rfl, he1⟩
    go_wp2_with fail
    refine (foldCircuit_c _ _ _ gs _ (h.ext he1) HC.out hn hn1).mono ?_
    rintro e w2 ⟨X, N, y, rfl, hN, ho, he2⟩
    have hN2 : N ≤ 200 := by have := hN.out; have := HLe.out; omega
    go_wp2_with fail
    go_ret2
    exact ⟨_, _, _, rfl, ObF.of (ho.lower he1.size) (by omega), he1.trans he2⟩
end Go.Proofs.Ytcbjaomjamfjcaa
