/-
  Inequalities: what the program's and the reference's small functions on them compute.
-/
import Derived.Test.YtaigjmbhgpcalaaDoorC2
namespace Go.Proofs.YtaigjmbhgpcalaaDoor
set_option linter.unusedSimpArgs false
set_option linter.unusedVariables false
open Go.RowKit

theorem eqInequality_same (A B : Option Addr) (n c m d : Nat) (bd : Int) (xs : List Int) (w : World) (h : Ints w A n xs) (k : Ints w B m xs) :
    Calls Tryd.prog 9 #[.agg #[.slice A n c, .int .i64 bd], .agg #[.slice B m d, .int .i64 bd]] w fun e w' => e = .returned (.bool true) ∧ Ext w w' := by
  go_enter Tryd.func9, Tryd.ntmps9
  go_wp2_with (go_at_call 25; refine (eqIntS_same _ _ _ _ _ _ xs _ ?_ ?_).mono ?_; exact h.ext (by (repeat (first | with_reducible exact Ext.refl _ | with_reducible assumption | ((with_reducible refine Ext.setCell ?_ ?_ _); rotate_left; focus (first | omega | (simp <;> omega))) | with_reducible refine Ext.alloc ?_ _ | with_reducible refine Ext.drewN ?_ _ | with_reducible refine Ext.drew ?_ | with_reducible refine Ext.trans ?_ (by with_reducible assumption)))); exact k.ext (by (repeat (first | with_reducible exact Ext.refl _ | with_reducible assumption | ((with_reducible refine Ext.setCell ?_ ?_ _); rotate_left; focus (first | omega | (simp <;> omega))) | with_reducible refine Ext.alloc ?_ _ | with_reducible refine Ext.drewN ?_ _ | with_reducible refine Ext.drew ?_ | with_reducible refine Ext.trans ?_ (by with_reducible assumption)))); rintro e w1 ⟨rfl, he⟩; have b1 := he.cell (p := ⟨w.heap.size, 1, none⟩) (u := .int .i64 bd) (by simp [go_sem]); have b2 := he.cell (p := ⟨w.heap.size + 1, 1, none⟩) (u := .int .i64 bd) (by simp [go_sem]))
  go_ret
  exact ⟨rfl, by (repeat (first | with_reducible exact Ext.refl _ | with_reducible assumption | ((with_reducible refine Ext.setCell ?_ ?_ _); rotate_left; focus (first | omega | (simp <;> omega))) | with_reducible refine Ext.alloc ?_ _ | with_reducible refine Ext.drewN ?_ _ | with_reducible refine Ext.drew ?_ | with_reducible refine Ext.trans ?_ (by with_reducible assumption)))⟩
theorem szInequality_c (A : Option Addr) (n c : Nat) (left bd : Int) (w : World) (hn : n ≤ 9223372036854775807) (hl : 0 ≤ left ∧ left ≤ 1048576) :
    Calls Tryd.prog 5 #[.agg #[.slice A n c, .int .i64 bd], .int .i64 left] w fun e w' => e = .returned (.int .i64 (if (n : Int) ≤ left then left - n else -1)) ∧ Ext w w' := by
  by_cases h : (n : Int) ≤ left
  · rw [if_pos h]
    go_enter Tryd.func5, Tryd.ntmps5
    go_wp2_with (go_at_call 18; refine (szIntS_c _ _ _ _ _ ?_ ?_).mono ?_; omega; omega; rw [if_pos h]; rintro e w1 ⟨rfl, rfl⟩)
    go_ret
    exact ⟨rfl, by (repeat (first | with_reducible exact Ext.refl _ | with_reducible assumption | ((with_reducible refine Ext.setCell ?_ ?_ _); rotate_left; focus (first | omega | (simp <;> omega))) | with_reducible refine Ext.alloc ?_ _ | with_reducible refine Ext.drewN ?_ _ | with_reducible refine Ext.drew ?_ | with_reducible refine Ext.trans ?_ (by with_reducible assumption)))⟩
  · rw [if_neg h]
    go_enter Tryd.func5, Tryd.ntmps5
    go_wp2_with (go_at_call 18; refine (szIntS_c _ _ _ _ _ ?_ ?_).mono ?_; omega; omega; rw [if_neg h]; rintro e w1 ⟨rfl, rfl⟩)
    go_ret
    exact ⟨rfl, by (repeat (first | with_reducible exact Ext.refl _ | with_reducible assumption | ((with_reducible refine Ext.setCell ?_ ?_ _); rotate_left; focus (first | omega | (simp <;> omega))) | with_reducible refine Ext.alloc ?_ _ | with_reducible refine Ext.drewN ?_ _ | with_reducible refine Ext.drew ?_ | with_reducible refine Ext.trans ?_ (by with_reducible assumption)))⟩
theorem toInequality_c (A : Option Addr) (n c : Nat) (bd : Int) (xs : List Int) (w : World) (h : Ints w A n xs) (hn : n ≤ 1048576) :
    Calls Tryd.prog 7 #[.agg #[.slice A n c, .int .i64 bd]] w fun e w' =>
      ∃ A' c', e = .returned (.agg #[.slice A' n c', .int .i64 bd]) ∧ Own w' w.heap.size 3 1 A' n c' (xs.map (Value.int .i64)) ∧ Ext w w' := by
  go_enter Tryd.func7, Tryd.ntmps7
  go_wp2_with (go_at_call 21; refine (toIntS_c _ _ _ xs _ ?_ ?_).mono ?_; exact h.ext (by (repeat (first | with_reducible exact Ext.refl _ | with_reducible assumption | ((with_reducible refine Ext.setCell ?_ ?_ _); rotate_left; focus (first | omega | (simp <;> omega))) | with_reducible refine Ext.alloc ?_ _ | with_reducible refine Ext.drewN ?_ _ | with_reducible refine Ext.drew ?_ | with_reducible refine Ext.trans ?_ (by with_reducible assumption)))); omega; rintro e w1 ⟨A', c', rfl, ho, he⟩; have b1 := he.cell (p := ⟨w.heap.size, 1, none⟩) (u := .int .i64 bd) (by simp [go_sem]); have bc0 := he.cell (p := ⟨w.heap.size + 1, 0, none⟩) (u := .slice none 0 0) (by first | simp [go_sem] | simp [go_sem, *]); have bf0 := he.frozen (p := ⟨w.heap.size + 1, 0, none⟩) (by first | omega | (simp <;> omega)) (by first | simp [go_sem] | simp [go_sem, *]); have bc1 := he.cell (p := ⟨w.heap.size + 1, 1, none⟩) (u := .int .i64 0) (by first | simp [go_sem] | simp [go_sem, *]); have bf1 := he.frozen (p := ⟨w.heap.size + 1, 1, none⟩) (by first | omega | (simp <;> omega)) (by first | simp [go_sem] | simp [go_sem, *]); have bc2 := he.cell (p := ⟨w.heap.size + 1 + 1, 0, none⟩) (u := .slice none 0 0) (by first | simp [go_sem] | simp [go_sem, *]); have bf2 := he.frozen (p := ⟨w.heap.size + 1 + 1, 0, none⟩) (by first | omega | (simp <;> omega)) (by first | simp [go_sem] | simp [go_sem, *]); have bc3 := he.cell (p := ⟨w.heap.size + 1 + 1, 1, none⟩) (u := .int .i64 0) (by first | simp [go_sem] | simp [go_sem, *]); have bf3 := he.frozen (p := ⟨w.heap.size + 1 + 1, 1, none⟩) (by first | omega | (simp <;> omega)) (by first | simp [go_sem] | simp [go_sem, *]))
  refine bodyPost_ret (v := .agg #[.slice A' n c', .int .i64 bd]) (by simp [results, Tryd.results7, go_sem, *]) rfl ⟨_, _, rfl, ?_, ?_⟩
  · exact ((((ho.setLow (by first | omega | (simp <;> omega)) _).setLow (by first | omega | (simp <;> omega)) _).setLow (by first | omega | (simp <;> omega)) _).setLow (by first | omega | (simp <;> omega)) _).lower (by first | omega | (simp <;> omega))
  · exact Ext.setCell (Ext.setCell (Ext.setCell (Ext.setCell (Ext.trans (by (repeat (first | with_reducible exact Ext.refl _ | with_reducible assumption | ((with_reducible refine Ext.setCell ?_ ?_ _); rotate_left; focus (first | omega | (simp <;> omega))) | with_reducible refine Ext.alloc ?_ _ | with_reducible refine Ext.drewN ?_ _ | with_reducible refine Ext.drew ?_ | with_reducible refine Ext.trans ?_ (by with_reducible assumption)))) he) (by first | omega | (simp <;> omega)) _) (by first | omega | (simp <;> omega)) _) (by first | omega | (simp <;> omega)) _) (by first | omega | (simp <;> omega)) _
theorem szInequality_fit (A : Option Addr) (n c : Nat) (left bd : Int) (w : World) (hn : n ≤ 9223372036854775807) (hl : 0 ≤ left ∧ left ≤ 1048576) (h : (n : Int) ≤ left) :
    Calls Tryd.prog 5 #[.agg #[.slice A n c, .int .i64 bd], .int .i64 left] w fun e w' => e = .returned (.int .i64 (left - n)) ∧ Ext w w' := by
  have := szInequality_c A n c left bd w hn hl
  rwa [if_pos h] at this
theorem szInequality_no (A : Option Addr) (n c : Nat) (left bd : Int) (w : World) (hn : n ≤ 9223372036854775807) (hl : 0 ≤ left ∧ left ≤ 1048576) (h : left < (n : Int)) :
    Calls Tryd.prog 5 #[.agg #[.slice A n c, .int .i64 bd], .int .i64 left] w fun e w' => e = .returned (.int .i64 (-1)) ∧ Ext w w' := by
  have := szInequality_c A n c left bd w hn hl
  rwa [if_neg (by omega)] at this
end Go.Proofs.YtaigjmbhgpcalaaDoor
