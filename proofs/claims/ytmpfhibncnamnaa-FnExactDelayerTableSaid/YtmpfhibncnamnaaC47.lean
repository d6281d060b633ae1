/-
  DelayerTable: the scores of a game.
-/
import Derived.Test.YtmpfhibncnamnaaC46
import Derived.Test.YtmpfhibncnamnaaC14
namespace Go.Proofs.Ytmpfhibncnamnaa
set_option linter.unusedSimpArgs false
set_option linter.unusedVariables false
open Go.RowKit

def tabOf (v : Int) (cls : List (List Int)) : List Int := if takes v cls then (gAll v.toNat cls).sc else []
set_option maxRecDepth 100000 in
theorem spec_DelayerTable_o (v : Int) (A : Option Addr) (n d : Nat) (cls : List (List Int)) (w : World) (h : Intss w A n cls) :
    Calls Try.prog 28 #[.agg #[.int .i64 v, .slice A n d]] w fun e w' =>
      ∃ A' n' c', e = .returned (.tuple #[.slice A' n' c', .bool (takes v cls)]) ∧ ObI 3 w' w.heap.size w'.heap.size A' n' c' (tabOf v cls) ∧ Ext w w' := by
  unfold tabOf
  cases h1 : takes v cls
  · simp only [Bool.false_eq_true, if_false]
    go_enter Try.func28, Try.ntmps28
    go_wp2_with fail
    refine (l12Takes_c _ _ _ _ cls _ (h.ext (by (repeat (first | with_reducible exact Ext.refl _ | with_reducible assumption | ((with_reducible refine Ext.setCell ?_ ?_ _); rotate_left; focus (first | omega | (simp <;> omega))) | with_reducible refine Ext.alloc ?_ _ | with_reducible refine Ext.drewN ?_ _ | with_reducible refine Ext.drew ?_ | with_reducible refine Ext.trans ?_ (by with_reducible assumption)))))).mono ?_
    rw [h1]
    rintro e w1 ⟨rfl, he⟩
    have hsz : w.heap.size ≤ w1.heap.size := by have := he.size; (try simp at this); omega
    go_wp2
    go_ret2
    exact ⟨_, _, _, rfl, by simpa using ObI.empty (e := 3) hsz, by (repeat (first | with_reducible exact Ext.refl _ | with_reducible assumption | ((with_reducible refine Ext.setCell ?_ ?_ _); rotate_left; focus (first | omega | (simp <;> omega))) | with_reducible refine Ext.alloc ?_ _ | with_reducible refine Ext.drewN ?_ _ | with_reducible refine Ext.drew ?_ | with_reducible refine Ext.trans ?_ (by with_reducible assumption)))⟩
  · obtain ⟨hc, hv, _⟩ := takes_facts h1
    have HC := hide (fun c hcc => (cnf_lits hc c hcc).2)
    obtain ⟨u, rfl⟩ := int_nat hv.1
    rw [show ((u : Int)).toNat = u by omega]
    have H1 := hide h1
    clear h1 hc
    simp only [if_true]
    have hfd := field_game0
    have hfull := (gTab_full u cls (pow3 u)).sc
    have hN6 : pow3 u ≤ 729 := by have := pow3_mono (show u ≤ 6 by omega); have h6 : pow3 6 = 729 := rfl; omega
    go_enter Try.func28, Try.ntmps28
    go_wp2_with fail
    refine (l12Takes_c _ _ _ _ cls _ (h.ext (by (repeat (first | with_reducible exact Ext.refl _ | with_reducible assumption | ((with_reducible refine Ext.setCell ?_ ?_ _); rotate_left; focus (first | omega | (simp <;> omega))) | with_reducible refine Ext.alloc ?_ _ | with_reducible refine Ext.drewN ?_ _ | with_reducible refine Ext.drew ?_ | with_reducible refine Ext.trans ?_ (by with_reducible assumption)))))).mono ?_
    rw [H1.out]
    rintro e w1 ⟨rfl, he⟩
    have c0 := he.box 0 (.int .i64 u) rfl
    have c1 := he.box 1 (.slice A n d) rfl
    have hsz : w.heap.size ≤ w1.heap.size := by have := he.size; (try simp at this); omega
    go_wp2_with fail
    refine (l12Play_c u A n d cls _ (h.ext (by (repeat (first | with_reducible exact Ext.refl _ | with_reducible assumption | ((with_reducible refine Ext.setCell ?_ ?_ _); rotate_left; focus (first | omega | (simp <;> omega))) | with_reducible refine Ext.alloc ?_ _ | with_reducible refine Ext.drewN ?_ _ | with_reducible refine Ext.drew ?_ | with_reducible refine Ext.trans ?_ (by with_reducible assumption))))) (by omega) HC.out).mono ?_
    rintro e w2 ⟨g1, g2, g3, rfl, hT, he2⟩
    have HO := hide (Own.of_box (lo := w.heap.size) hT.o1 (by have := hT.lo; omega) rfl (by simpa [gAll] using hfull) (by omega))
    clear hfull
    go_wp2
    go_ret2
    exact ⟨_, _, _, rfl, ObI.of HO.out (by omega), by (repeat (first | with_reducible exact Ext.refl _ | with_reducible assumption | ((with_reducible refine Ext.setCell ?_ ?_ _); rotate_left; focus (first | omega | (simp <;> omega))) | with_reducible refine Ext.alloc ?_ _ | with_reducible refine Ext.drewN ?_ _ | with_reducible refine Ext.drew ?_ | with_reducible refine Ext.trans ?_ (by with_reducible assumption)))⟩
set_option maxRecDepth 100000 in
theorem impl_DelayerTable_o (v : Int) (A : Option Addr) (n d : Nat) (cls : List (List Int)) (w : World) (h : Intss w A n cls) :
    Calls Try.prog 29 #[.agg #[.int .i64 v, .slice A n d]] w fun e w' =>
      ∃ A' n' c', e = .returned (.tuple #[.slice A' n' c', .bool (takes v cls)]) ∧ ObI 3 w' w.heap.size w'.heap.size A' n' c' (tabOf v cls) ∧ Ext w w' := by
  unfold tabOf
  cases h1 : takes v cls
  · simp only [Bool.false_eq_true, if_false]
    go_enter Try.func29, Try.ntmps29
    go_wp2_with fail
    refine (newGame_no _ _ _ _ cls _ (h.ext (by (repeat (first | with_reducible exact Ext.refl _ | with_reducible assumption | ((with_reducible refine Ext.setCell ?_ ?_ _); rotate_left; focus (first | omega | (simp <;> omega))) | with_reducible refine Ext.alloc ?_ _ | with_reducible refine Ext.drewN ?_ _ | with_reducible refine Ext.drew ?_ | with_reducible refine Ext.trans ?_ (by with_reducible assumption))))) h1).mono ?_
    rintro e w1 ⟨rfl, he⟩
    go_wp2
    go_ret2
    exact ⟨_, _, _, rfl, ObI.nil, by (repeat (first | with_reducible exact Ext.refl _ | with_reducible assumption | ((with_reducible refine Ext.setCell ?_ ?_ _); rotate_left; focus (first | omega | (simp <;> omega))) | with_reducible refine Ext.alloc ?_ _ | with_reducible refine Ext.drewN ?_ _ | with_reducible refine Ext.drew ?_ | with_reducible refine Ext.trans ?_ (by with_reducible assumption)))⟩
  · obtain ⟨hc, hv, _⟩ := takes_facts h1
    obtain ⟨u, rfl⟩ := int_nat hv.1
    rw [show ((u : Int)).toNat = u by omega]
    have H1 := hide h1
    clear h1 hc
    simp only [if_true]
    have hfull := (gTab_full u cls (pow3 u)).sc
    have hN6 : pow3 u ≤ 729 := by have := pow3_mono (show u ≤ 6 by omega); have h6 : pow3 6 = 729 := rfl; omega
    go_enter Try.func29, Try.ntmps29
    go_wp2_with fail
    refine (newGame_yes u A n d cls _ (h.ext (by (repeat (first | with_reducible exact Ext.refl _ | with_reducible assumption | ((with_reducible refine Ext.setCell ?_ ?_ _); rotate_left; focus (first | omega | (simp <;> omega))) | with_reducible refine Ext.alloc ?_ _ | with_reducible refine Ext.drewN ?_ _ | with_reducible refine Ext.drew ?_ | with_reducible refine Ext.trans ?_ (by with_reducible assumption))))) H1.out).mono ?_
    rintro e w1 ⟨b, g0, g1, g2, g3, ov, rfl, hG, hov, he⟩
    have hov := hide hov
    have e3 := hG.box.cell 3 (.slice (some ⟨g1, 0, none⟩) (pow3 u) (pow3 u)) rfl
    have HO := hide (Own.of_box (lo := w.heap.size) hG.tab.o1 (by have := hG.tab.lo; simp at this; omega) rfl (by simpa [gAll] using hfull) (by omega))
    clear hfull
    go_wp2
    go_ret2
    exact ⟨_, _, _, rfl, ObI.of HO.out (by omega), by (repeat (first | with_reducible exact Ext.refl _ | with_reducible assumption | ((with_reducible refine Ext.setCell ?_ ?_ _); rotate_left; focus (first | omega | (simp <;> omega))) | with_reducible refine Ext.alloc ?_ _ | with_reducible refine Ext.drewN ?_ _ | with_reducible refine Ext.drew ?_ | with_reducible refine Ext.trans ?_ (by with_reducible assumption)))⟩
end Go.Proofs.Ytmpfhibncnamnaa
