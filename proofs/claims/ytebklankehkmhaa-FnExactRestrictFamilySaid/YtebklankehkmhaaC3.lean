/-
  Inequalities: what the program's and the reference's small functions on them compute.
-/
import Derived.Test.YtebklankehkmhaaC2
namespace Go.Proofs.Ytebklankehkmhaa
set_option linter.unusedSimpArgs false
set_option linter.unusedVariables false
open Go.RowKit

theorem l16Single_c (n v : Nat) (cf bd : Int) (w : World) (hn : n ≤ 100) (hv : 1 ≤ v ∧ v ≤ n) :
    Calls Try.prog 126 #[.int .i64 n, .int .i64 v, .int .i64 cf, .int .i64 bd] w fun e w' =>
      ∃ A c, e = .returned (.agg #[.slice A n c, .int .i64 bd]) ∧ Own w' w.heap.size 3 1 A n c (((List.replicate n 0).set (v - 1) cf).map (Value.int .i64)) ∧ Ext w w' := by
  have hmk := fun W => make_eq (P := Try.prog) 22 3 Try.underlying22 _ 8 info_int rfl n (by omega) (by omega) W
  obtain ⟨u, rfl⟩ : ∃ u, v = u + 1 := ⟨v - 1, by omega⟩
  have hget := made_get (.int .i64 0) n u (by omega)
  go_enter Try.func126, Try.ntmps126
  go_wp2
  refine bodyPost_ret (v := .agg #[.slice (some ⟨w.heap.size + 1, 0, none⟩) n n, .int .i64 bd]) (by simp [results, Try.results126, go_sem]) rfl ⟨_, _, rfl, ?_, by (repeat (first | with_reducible exact Ext.refl _ | with_reducible assumption | ((with_reducible refine Ext.setCell ?_ ?_ _); rotate_left; focus (first | omega | (simp <;> omega))) | with_reducible refine Ext.alloc ?_ _ | with_reducible refine Ext.drewN ?_ _ | with_reducible refine Ext.drew ?_ | with_reducible refine Ext.trans ?_ (by with_reducible assumption)))⟩
  refine Own.alloc (Own.arr_at _ n _ ?_ ?_ ?_ ?_ ?_) _
  · simp
  · simp
  · omega
  · simp
  · rw [toList_made_set]; simp [List.map_set]
theorem varPlane_c (n v : Nat) (cf bd : Int) (w : World) (hn : n ≤ 100) (hv : 1 ≤ v ∧ v ≤ n) :
    Calls Try.prog 163 #[.int .i64 n, .int .i64 v, .int .i64 cf, .int .i64 bd] w fun e w' =>
      ∃ A c, e = .returned (.agg #[.slice A n c, .int .i64 bd]) ∧ Own w' w.heap.size 3 1 A n c (((List.replicate n 0).set (v - 1) cf).map (Value.int .i64)) ∧ Ext w w' := by
  have hmk := fun W => make_eq (P := Try.prog) 22 3 Try.underlying22 _ 8 info_int rfl n (by omega) (by omega) W
  obtain ⟨u, rfl⟩ : ∃ u, v = u + 1 := ⟨v - 1, by omega⟩
  have hget := made_get (.int .i64 0) n u (by omega)
  go_enter Try.func163, Try.ntmps163
  go_wp2
  refine bodyPost_ret (v := .agg #[.slice (some ⟨w.heap.size + 1, 0, none⟩) n n, .int .i64 bd]) (by simp [results, Try.results163, go_sem]) rfl ⟨_, _, rfl, ?_, by (repeat (first | with_reducible exact Ext.refl _ | with_reducible assumption | ((with_reducible refine Ext.setCell ?_ ?_ _); rotate_left; focus (first | omega | (simp <;> omega))) | with_reducible refine Ext.alloc ?_ _ | with_reducible refine Ext.drewN ?_ _ | with_reducible refine Ext.drew ?_ | with_reducible refine Ext.trans ?_ (by with_reducible assumption)))⟩
  refine Own.alloc (Own.arr_at _ n _ ?_ ?_ ?_ ?_ ?_) _
  · simp
  · simp
  · omega
  · simp
  · rw [toList_made_set]; simp [List.map_set]
theorem eqInequality_same (A B : Option Addr) (n c m d : Nat) (bd : Int) (xs : List Int) (w : World) (h : Ints w A n xs) (k : Ints w B m xs) :
    Calls Try.prog 19 #[.agg #[.slice A n c, .int .i64 bd], .agg #[.slice B m d, .int .i64 bd]] w fun e w' => e = .returned (.bool true) ∧ Ext w w' := by
  go_enter Try.func19, Try.ntmps19
  go_wp2_with (go_at_call 41; refine (eqIntS_same _ _ _ _ _ _ xs _ ?_ ?_).mono ?_; exact h.ext (by (repeat (first | with_reducible exact Ext.refl _ | with_reducible assumption | ((with_reducible refine Ext.setCell ?_ ?_ _); rotate_left; focus (first | omega | (simp <;> omega))) | with_reducible refine Ext.alloc ?_ _ | with_reducible refine Ext.drewN ?_ _ | with_reducible refine Ext.drew ?_ | with_reducible refine Ext.trans ?_ (by with_reducible assumption)))); exact k.ext (by (repeat (first | with_reducible exact Ext.refl _ | with_reducible assumption | ((with_reducible refine Ext.setCell ?_ ?_ _); rotate_left; focus (first | omega | (simp <;> omega))) | with_reducible refine Ext.alloc ?_ _ | with_reducible refine Ext.drewN ?_ _ | with_reducible refine Ext.drew ?_ | with_reducible refine Ext.trans ?_ (by with_reducible assumption)))); rintro e w1 ⟨rfl, he⟩; have b1 := he.cell (p := ⟨w.heap.size, 1, none⟩) (u := .int .i64 bd) (by simp [go_sem]); have b2 := he.cell (p := ⟨w.heap.size + 1, 1, none⟩) (u := .int .i64 bd) (by simp [go_sem]))
  go_ret
  exact ⟨rfl, by (repeat (first | with_reducible exact Ext.refl _ | with_reducible assumption | ((with_reducible refine Ext.setCell ?_ ?_ _); rotate_left; focus (first | omega | (simp <;> omega))) | with_reducible refine Ext.alloc ?_ _ | with_reducible refine Ext.drewN ?_ _ | with_reducible refine Ext.drew ?_ | with_reducible refine Ext.trans ?_ (by with_reducible assumption)))⟩
theorem markInequality_c (A : Option Addr) (n c lo : Nat) (k bd : Int) (xs : List Int) (w : World) (h : Own w lo 3 1 A n c (xs.map (Value.int .i64))) (hn : n ≤ 140737488355328) (hk : 0 ≤ k ∧ k ≤ 140737488355328) :
    Calls Try.prog 20 #[.agg #[.slice A n c, .int .i64 bd], .int .i64 k] w fun e w' => e = .returned (.int .i64 (k + n)) ∧ Own w' lo 3 1 A n c ((upFrom k n).map (Value.int .i64)) ∧ w.grownBy w' (Value.slice A n c).ownBlock := by
  go_enter Try.func20, Try.ntmps20
  go_wp2_with (go_at_call 53; refine (markIntS_c _ _ _ lo _ xs _ ?_ ?_ ?_).mono ?_; exact h.alloc _; omega; omega; rintro e w1 ⟨rfl, ho, hg⟩)
  go_ret
  exact ⟨rfl, ho, (World.grownBy_alloc w _ _).trans hg⟩
theorem heldInequality_c (A : Option Addr) (n c : Nat) (k bd : Int) (w : World) (h : Ints w A n (upFrom k n)) (hn : n ≤ 140737488355328) (hk : 0 ≤ k ∧ k ≤ 140737488355328) :
    Calls Try.prog 21 #[.agg #[.slice A n c, .int .i64 bd], .int .i64 k] w fun e w' => e = .returned (.int .i64 (k + n)) ∧ Ext w w' := by
  go_enter Try.func21, Try.ntmps21
  go_wp2_with (go_at_call 54; refine (heldIntS_c _ _ _ _ _ ?_ ?_ ?_).mono ?_; exact h.ext (by (repeat (first | with_reducible exact Ext.refl _ | with_reducible assumption | ((with_reducible refine Ext.setCell ?_ ?_ _); rotate_left; focus (first | omega | (simp <;> omega))) | with_reducible refine Ext.alloc ?_ _ | with_reducible refine Ext.drewN ?_ _ | with_reducible refine Ext.drew ?_ | with_reducible refine Ext.trans ?_ (by with_reducible assumption)))); omega; omega; rintro e w1 ⟨rfl, he⟩)
  go_ret
  exact ⟨rfl, by (repeat (first | with_reducible exact Ext.refl _ | with_reducible assumption | ((with_reducible refine Ext.setCell ?_ ?_ _); rotate_left; focus (first | omega | (simp <;> omega))) | with_reducible refine Ext.alloc ?_ _ | with_reducible refine Ext.drewN ?_ _ | with_reducible refine Ext.drew ?_ | with_reducible refine Ext.trans ?_ (by with_reducible assumption)))⟩
theorem szInequality_c (A : Option Addr) (n c : Nat) (left bd : Int) (w : World) (hn : n ≤ 9223372036854775807) (hl : 0 ≤ left ∧ left ≤ 1048576) :
    Calls Try.prog 15 #[.agg #[.slice A n c, .int .i64 bd], .int .i64 left] w fun e w' => e = .returned (.int .i64 (if (n : Int) ≤ left then left - n else -1)) ∧ Ext w w' := by
  by_cases h : (n : Int) ≤ left
  · rw [if_pos h]
    go_enter Try.func15, Try.ntmps15
    go_wp2_with (go_at_call 60; refine (szIntS_c _ _ _ _ _ ?_ ?_).mono ?_; omega; omega; rw [if_pos h]; rintro e w1 ⟨rfl, rfl⟩)
    go_ret
    exact ⟨rfl, by (repeat (first | with_reducible exact Ext.refl _ | with_reducible assumption | ((with_reducible refine Ext.setCell ?_ ?_ _); rotate_left; focus (first | omega | (simp <;> omega))) | with_reducible refine Ext.alloc ?_ _ | with_reducible refine Ext.drewN ?_ _ | with_reducible refine Ext.drew ?_ | with_reducible refine Ext.trans ?_ (by with_reducible assumption)))⟩
  · rw [if_neg h]
    go_enter Try.func15, Try.ntmps15
    go_wp2_with (go_at_call 60; refine (szIntS_c _ _ _ _ _ ?_ ?_).mono ?_; omega; omega; rw [if_neg h]; rintro e w1 ⟨rfl, rfl⟩)
    go_ret
    exact ⟨rfl, by (repeat (first | with_reducible exact Ext.refl _ | with_reducible assumption | ((with_reducible refine Ext.setCell ?_ ?_ _); rotate_left; focus (first | omega | (simp <;> omega))) | with_reducible refine Ext.alloc ?_ _ | with_reducible refine Ext.drewN ?_ _ | with_reducible refine Ext.drew ?_ | with_reducible refine Ext.trans ?_ (by with_reducible assumption)))⟩
theorem toInequality_c (A : Option Addr) (n c : Nat) (bd : Int) (xs : List Int) (w : World) (h : Ints w A n xs) (hn : n ≤ 1048576) :
    Calls Try.prog 17 #[.agg #[.slice A n c, .int .i64 bd]] w fun e w' =>
      ∃ A' c', e = .returned (.agg #[.slice A' n c', .int .i64 bd]) ∧ Own w' w.heap.size 3 1 A' n c' (xs.map (Value.int .i64)) ∧ Ext w w' := by
  go_enter Try.func17, Try.ntmps17
  go_wp2_with (go_at_call 39; refine (toIntS_c _ _ _ xs _ ?_ ?_).mono ?_; exact h.ext (by (repeat (first | with_reducible exact Ext.refl _ | with_reducible assumption | ((with_reducible refine Ext.setCell ?_ ?_ _); rotate_left; focus (first | omega | (simp <;> omega))) | with_reducible refine Ext.alloc ?_ _ | with_reducible refine Ext.drewN ?_ _ | with_reducible refine Ext.drew ?_ | with_reducible refine Ext.trans ?_ (by with_reducible assumption)))); omega; rintro e w1 ⟨A', c', rfl, ho, he⟩; have b1 := he.cell (p := ⟨w.heap.size, 1, none⟩) (u := .int .i64 bd) (by simp [go_sem]); have bc0 := he.cell (p := ⟨w.heap.size + 1, 0, none⟩) (u := .slice none 0 0) (by first | simp [go_sem] | simp [go_sem, *]); have bf0 := he.frozen (p := ⟨w.heap.size + 1, 0, none⟩) (by first | omega | (simp <;> omega)) (by first | simp [go_sem] | simp [go_sem, *]); have bc1 := he.cell (p := ⟨w.heap.size + 1, 1, none⟩) (u := .int .i64 0) (by first | simp [go_sem] | simp [go_sem, *]); have bf1 := he.frozen (p := ⟨w.heap.size + 1, 1, none⟩) (by first | omega | (simp <;> omega)) (by first | simp [go_sem] | simp [go_sem, *]); have bc2 := he.cell (p := ⟨w.heap.size + 1 + 1, 0, none⟩) (u := .slice none 0 0) (by first | simp [go_sem] | simp [go_sem, *]); have bf2 := he.frozen (p := ⟨w.heap.size + 1 + 1, 0, none⟩) (by first | omega | (simp <;> omega)) (by first | simp [go_sem] | simp [go_sem, *]); have bc3 := he.cell (p := ⟨w.heap.size + 1 + 1, 1, none⟩) (u := .int .i64 0) (by first | simp [go_sem] | simp [go_sem, *]); have bf3 := he.frozen (p := ⟨w.heap.size + 1 + 1, 1, none⟩) (by first | omega | (simp <;> omega)) (by first | simp [go_sem] | simp [go_sem, *]))
  refine bodyPost_ret (v := .agg #[.slice A' n c', .int .i64 bd]) (by simp [results, Try.results17, go_sem, *]) rfl ⟨_, _, rfl, ?_, ?_⟩
  · exact ((((ho.setLow (by first | omega | (simp <;> omega)) _).setLow (by first | omega | (simp <;> omega)) _).setLow (by first | omega | (simp <;> omega)) _).setLow (by first | omega | (simp <;> omega)) _).lower (by first | omega | (simp <;> omega))
  · exact Ext.setCell (Ext.setCell (Ext.setCell (Ext.setCell (Ext.trans (by (repeat (first | with_reducible exact Ext.refl _ | with_reducible assumption | ((with_reducible refine Ext.setCell ?_ ?_ _); rotate_left; focus (first | omega | (simp <;> omega))) | with_reducible refine Ext.alloc ?_ _ | with_reducible refine Ext.drewN ?_ _ | with_reducible refine Ext.drew ?_ | with_reducible refine Ext.trans ?_ (by with_reducible assumption)))) he) (by first | omega | (simp <;> omega)) _) (by first | omega | (simp <;> omega)) _) (by first | omega | (simp <;> omega)) _) (by first | omega | (simp <;> omega)) _
theorem szInequality_fit (A : Option Addr) (n c : Nat) (left bd : Int) (w : World) (hn : n ≤ 9223372036854775807) (hl : 0 ≤ left ∧ left ≤ 1048576) (h : (n : Int) ≤ left) :
    Calls Try.prog 15 #[.agg #[.slice A n c, .int .i64 bd], .int .i64 left] w fun e w' => e = .returned (.int .i64 (left - n)) ∧ Ext w w' := by
  have := szInequality_c A n c left bd w hn hl
  rwa [if_pos h] at this
theorem szInequality_no (A : Option Addr) (n c : Nat) (left bd : Int) (w : World) (hn : n ≤ 9223372036854775807) (hl : 0 ≤ left ∧ left ≤ 1048576) (h : left < (n : Int)) :
    Calls Try.prog 15 #[.agg #[.slice A n c, .int .i64 bd], .int .i64 left] w fun e w' => e = .returned (.int .i64 (-1)) ∧ Ext w w' := by
  have := szInequality_c A n c left bd w hn hl
  rwa [if_neg (by omega)] at this
end Go.Proofs.Ytebklankehkmhaa
