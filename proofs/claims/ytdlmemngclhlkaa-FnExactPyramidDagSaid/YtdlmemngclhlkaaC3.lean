/-
  Inequalities: what the program's and the reference's small functions on them compute.
-/
import Derived.Test.YtdlmemngclhlkaaC2
namespace Go.Proofs.Ytdlmemngclhlkaa
open Go.RowKit

theorem l16Single_c (n v : Nat) (cf bd : Int) (w : World) (hn : n ≤ 100) (hv : 1 ≤ v ∧ v ≤ n) :
    Calls Try.prog 92 #[.int .i64 n, .int .i64 v, .int .i64 cf, .int .i64 bd] w fun e w' =>
      ∃ A c, e = .returned (.agg #[.slice A n c, .int .i64 bd]) ∧ Own w' w.heap.size 3 1 A n c (((List.replicate n 0).set (v - 1) cf).map (Value.int .i64)) ∧ Ext w w' := by
  have hmk := fun W => make_eq (P := Try.prog) 27 3 Try.underlying27 _ 8 info_int rfl n (by omega) (by omega) W
  obtain ⟨u, rfl⟩ : ∃ u, v = u + 1 := ⟨v - 1, by omega⟩
  have hget := made_get (.int .i64 0) n u (by omega)
  go_enter Try.func92, Try.ntmps92
  go_wp2
  refine bodyPost_ret (v := .agg #[.slice (some ⟨w.heap.size + 1, 0, none⟩) n n, .int .i64 bd]) (by simp [results, Try.results92, go_sem]) rfl ⟨_, _, rfl, ?_, by (repeat (first | exact Ext.refl _ | with_reducible assumption | refine Ext.setCell ?_ (by first | omega | (simp <;> omega)) _ | refine Ext.drewN ?_ _ | refine Ext.drew ?_ | refine Ext.alloc ?_ _ | refine Ext.trans ?_ (by with_reducible assumption)))⟩
  refine Own.alloc (Own.arr_at _ n _ ?_ ?_ ?_ ?_ ?_) _
  · simp
  · simp
  · omega
  · simp
  · rw [toList_made_set]; simp [List.map_set]
theorem varPlane_c (n v : Nat) (cf bd : Int) (w : World) (hn : n ≤ 100) (hv : 1 ≤ v ∧ v ≤ n) :
    Calls Try.prog 93 #[.int .i64 n, .int .i64 v, .int .i64 cf, .int .i64 bd] w fun e w' =>
      ∃ A c, e = .returned (.agg #[.slice A n c, .int .i64 bd]) ∧ Own w' w.heap.size 3 1 A n c (((List.replicate n 0).set (v - 1) cf).map (Value.int .i64)) ∧ Ext w w' := by
  have hmk := fun W => make_eq (P := Try.prog) 27 3 Try.underlying27 _ 8 info_int rfl n (by omega) (by omega) W
  obtain ⟨u, rfl⟩ : ∃ u, v = u + 1 := ⟨v - 1, by omega⟩
  have hget := made_get (.int .i64 0) n u (by omega)
  go_enter Try.func93, Try.ntmps93
  go_wp2
  refine bodyPost_ret (v := .agg #[.slice (some ⟨w.heap.size + 1, 0, none⟩) n n, .int .i64 bd]) (by simp [results, Try.results93, go_sem]) rfl ⟨_, _, rfl, ?_, by (repeat (first | exact Ext.refl _ | with_reducible assumption | refine Ext.setCell ?_ (by first | omega | (simp <;> omega)) _ | refine Ext.drewN ?_ _ | refine Ext.drew ?_ | refine Ext.alloc ?_ _ | refine Ext.trans ?_ (by with_reducible assumption)))⟩
  refine Own.alloc (Own.arr_at _ n _ ?_ ?_ ?_ ?_ ?_) _
  · simp
  · simp
  · omega
  · simp
  · rw [toList_made_set]; simp [List.map_set]
theorem l17Literal_c (n : Nat) (l : Int) (w : World) (hn : n ≤ 100) (hl : -(n : Int) ≤ l ∧ l ≤ n ∧ l ≠ 0) :
    Calls Try.prog 71 #[.int .i64 n, .int .i64 l] w fun e w' =>
      ∃ A c, e = .returned (.agg #[.slice A n c, .int .i64 (if l < 0 then -1 else 0)]) ∧ Own w' w.heap.size 3 1 A n c (((List.replicate n 0).set (l.natAbs - 1) (if l < 0 then -1 else 1)).map (Value.int .i64)) ∧ Ext w w' := by
  obtain ⟨h1, h2, h3⟩ := hl
  by_cases hneg : l < 0
  · obtain ⟨v, rfl⟩ : ∃ v : Nat, l = -(v : Int) := ⟨l.natAbs, by omega⟩
    have hz : ¬ (0 : Int) < -(v : Int) := by omega
    have hv : 1 ≤ v ∧ v ≤ n := by omega
    have hwr : IntKind.i64.wrap (- -(v : Int)) = v := by rw [IntWalk.i64_in _ (by omega)]; omega
    simp only [if_pos (show -(v : Int) < 0 by omega), show (-(v : Int)).natAbs = v by omega]
    clear h1 h2 h3 hneg
    go_enter Try.func71, Try.ntmps71
    go_wp2_with (go_at_call 92; refine (l16Single_c _ _ _ _ _ ?_ ?_).mono ?_; omega; omega; rintro e w1 ⟨A, c, rfl, ho, he⟩; have bc0 := he.cell (p := ⟨w.heap.size, 0, none⟩) (u := .slice none 0 0) (by first | simp [go_sem] | simp [go_sem, *]); have bf0 := he.frozen (p := ⟨w.heap.size, 0, none⟩) (by first | omega | (simp <;> omega)) (by first | simp [go_sem] | simp [go_sem, *]); have bc1 := he.cell (p := ⟨w.heap.size, 1, none⟩) (u := .int .i64 0) (by first | simp [go_sem] | simp [go_sem, *]); have bf1 := he.frozen (p := ⟨w.heap.size, 1, none⟩) (by first | omega | (simp <;> omega)) (by first | simp [go_sem] | simp [go_sem, *]))
    refine bodyPost_ret (v := .agg #[.slice A n c, .int .i64 (-1)]) (by simp [results, Try.results71, go_sem, *]) rfl ⟨_, _, rfl, ?_, ?_⟩
    · exact ((ho.setLow (by simp) _).setLow (by simp) _).lower (by simp)
    · exact ((Ext.refl _).alloc _ |>.trans he |>.setCell (by simp) _ |>.setCell (by simp) _)
  · obtain ⟨v, rfl⟩ : ∃ v : Nat, l = (v : Int) := ⟨l.natAbs, by omega⟩
    have hz : (0 : Int) < (v : Int) := by omega
    have hv : 1 ≤ v ∧ v ≤ n := by omega
    simp only [if_neg (show ¬ (v : Int) < 0 by omega), show ((v : Int)).natAbs = v by omega]
    clear h1 h2 h3 hneg
    go_enter Try.func71, Try.ntmps71
    go_wp2_with (go_at_call 92; refine (l16Single_c _ _ _ _ _ ?_ ?_).mono ?_; omega; omega; rintro e w1 ⟨A, c, rfl, ho, he⟩; have bc2 := he.cell (p := ⟨w.heap.size, 0, none⟩) (u := .slice none 0 0) (by first | simp [go_sem] | simp [go_sem, *]); have bf2 := he.frozen (p := ⟨w.heap.size, 0, none⟩) (by first | omega | (simp <;> omega)) (by first | simp [go_sem] | simp [go_sem, *]); have bc3 := he.cell (p := ⟨w.heap.size, 1, none⟩) (u := .int .i64 0) (by first | simp [go_sem] | simp [go_sem, *]); have bf3 := he.frozen (p := ⟨w.heap.size, 1, none⟩) (by first | omega | (simp <;> omega)) (by first | simp [go_sem] | simp [go_sem, *]))
    refine bodyPost_ret (v := .agg #[.slice A n c, .int .i64 0]) (by simp [results, Try.results71, go_sem, *]) rfl ⟨_, _, rfl, ?_, ?_⟩
    · exact ((ho.setLow (by simp) _).setLow (by simp) _).lower (by simp)
    · exact ((Ext.refl _).alloc _ |>.trans he |>.setCell (by simp) _ |>.setCell (by simp) _)
theorem planeOfLiteral_c (n : Nat) (l : Int) (w : World) (hn : n ≤ 100) (hl : -(n : Int) ≤ l ∧ l ≤ n ∧ l ≠ 0) :
    Calls Try.prog 73 #[.int .i64 n, .int .i64 l] w fun e w' =>
      ∃ A c, e = .returned (.agg #[.slice A n c, .int .i64 (if l < 0 then -1 else 0)]) ∧ Own w' w.heap.size 3 1 A n c (((List.replicate n 0).set (l.natAbs - 1) (if l < 0 then -1 else 1)).map (Value.int .i64)) ∧ Ext w w' := by
  obtain ⟨h1, h2, h3⟩ := hl
  by_cases hneg : l < 0
  · obtain ⟨v, rfl⟩ : ∃ v : Nat, l = -(v : Int) := ⟨l.natAbs, by omega⟩
    have hz : ¬ (0 : Int) < -(v : Int) := by omega
    have hv : 1 ≤ v ∧ v ≤ n := by omega
    have hwr : IntKind.i64.wrap (- -(v : Int)) = v := by rw [IntWalk.i64_in _ (by omega)]; omega
    simp only [if_pos (show -(v : Int) < 0 by omega), show (-(v : Int)).natAbs = v by omega]
    clear h1 h2 h3 hneg
    go_enter Try.func73, Try.ntmps73
    go_wp2_with (go_at_call 93; refine (varPlane_c _ _ _ _ _ ?_ ?_).mono ?_; omega; omega; rintro e w1 ⟨A, c, rfl, ho, he⟩; have bc4 := he.cell (p := ⟨w.heap.size, 0, none⟩) (u := .slice none 0 0) (by first | simp [go_sem] | simp [go_sem, *]); have bf4 := he.frozen (p := ⟨w.heap.size, 0, none⟩) (by first | omega | (simp <;> omega)) (by first | simp [go_sem] | simp [go_sem, *]); have bc5 := he.cell (p := ⟨w.heap.size, 1, none⟩) (u := .int .i64 0) (by first | simp [go_sem] | simp [go_sem, *]); have bf5 := he.frozen (p := ⟨w.heap.size, 1, none⟩) (by first | omega | (simp <;> omega)) (by first | simp [go_sem] | simp [go_sem, *]))
    refine bodyPost_ret (v := .agg #[.slice A n c, .int .i64 (-1)]) (by simp [results, Try.results73, go_sem, *]) rfl ⟨_, _, rfl, ?_, ?_⟩
    · exact ((ho.setLow (by simp) _).setLow (by simp) _).lower (by simp)
    · exact ((Ext.refl _).alloc _ |>.trans he |>.setCell (by simp) _ |>.setCell (by simp) _)
  · obtain ⟨v, rfl⟩ : ∃ v : Nat, l = (v : Int) := ⟨l.natAbs, by omega⟩
    have hz : (0 : Int) < (v : Int) := by omega
    have hv : 1 ≤ v ∧ v ≤ n := by omega
    simp only [if_neg (show ¬ (v : Int) < 0 by omega), show ((v : Int)).natAbs = v by omega]
    clear h1 h2 h3 hneg
    go_enter Try.func73, Try.ntmps73
    go_wp2_with (go_at_call 93; refine (varPlane_c _ _ _ _ _ ?_ ?_).mono ?_; omega; omega; rintro e w1 ⟨A, c, rfl, ho, he⟩; have bc6 := he.cell (p := ⟨w.heap.size, 0, none⟩) (u := .slice none 0 0) (by first | simp [go_sem] | simp [go_sem, *]); have bf6 := he.frozen (p := ⟨w.heap.size, 0, none⟩) (by first | omega | (simp <;> omega)) (by first | simp [go_sem] | simp [go_sem, *]); have bc7 := he.cell (p := ⟨w.heap.size, 1, none⟩) (u := .int .i64 0) (by first | simp [go_sem] | simp [go_sem, *]); have bf7 := he.frozen (p := ⟨w.heap.size, 1, none⟩) (by first | omega | (simp <;> omega)) (by first | simp [go_sem] | simp [go_sem, *]))
    refine bodyPost_ret (v := .agg #[.slice A n c, .int .i64 0]) (by simp [results, Try.results73, go_sem, *]) rfl ⟨_, _, rfl, ?_, ?_⟩
    · exact ((ho.setLow (by simp) _).setLow (by simp) _).lower (by simp)
    · exact ((Ext.refl _).alloc _ |>.trans he |>.setCell (by simp) _ |>.setCell (by simp) _)
theorem eqInequality_same (A B : Option Addr) (n c m d : Nat) (bd : Int) (xs : List Int) (w : World) (h : Ints w A n xs) (k : Ints w B m xs) :
    Calls Try.prog 21 #[.agg #[.slice A n c, .int .i64 bd], .agg #[.slice B m d, .int .i64 bd]] w fun e w' => e = .returned (.bool true) ∧ Ext w w' := by
  go_enter Try.func21, Try.ntmps21
  go_wp2_with (go_at_call 30; refine (eqIntS_same _ _ _ _ _ _ xs _ ?_ ?_).mono ?_; exact h.ext (by (repeat (first | exact Ext.refl _ | with_reducible assumption | refine Ext.setCell ?_ (by first | omega | (simp <;> omega)) _ | refine Ext.drewN ?_ _ | refine Ext.drew ?_ | refine Ext.alloc ?_ _ | refine Ext.trans ?_ (by with_reducible assumption)))); exact k.ext (by (repeat (first | exact Ext.refl _ | with_reducible assumption | refine Ext.setCell ?_ (by first | omega | (simp <;> omega)) _ | refine Ext.drewN ?_ _ | refine Ext.drew ?_ | refine Ext.alloc ?_ _ | refine Ext.trans ?_ (by with_reducible assumption)))); rintro e w1 ⟨rfl, he⟩; have b1 := he.cell (p := ⟨w.heap.size, 1, none⟩) (u := .int .i64 bd) (by simp [go_sem]); have b2 := he.cell (p := ⟨w.heap.size + 1, 1, none⟩) (u := .int .i64 bd) (by simp [go_sem]))
  go_ret
  exact ⟨rfl, by (repeat (first | exact Ext.refl _ | with_reducible assumption | refine Ext.setCell ?_ (by first | omega | (simp <;> omega)) _ | refine Ext.drewN ?_ _ | refine Ext.drew ?_ | refine Ext.alloc ?_ _ | refine Ext.trans ?_ (by with_reducible assumption)))⟩
theorem markInequality_c (A : Option Addr) (n c lo : Nat) (k bd : Int) (xs : List Int) (w : World) (h : Own w lo 3 1 A n c (xs.map (Value.int .i64))) (hn : n ≤ 140737488355328) (hk : 0 ≤ k ∧ k ≤ 140737488355328) :
    Calls Try.prog 22 #[.agg #[.slice A n c, .int .i64 bd], .int .i64 k] w fun e w' => e = .returned (.int .i64 (k + n)) ∧ Own w' lo 3 1 A n c ((upFrom k n).map (Value.int .i64)) ∧ w.grownBy w' (Value.slice A n c).ownBlock := by
  go_enter Try.func22, Try.ntmps22
  go_wp2_with (go_at_call 31; refine (markIntS_c _ _ _ lo _ xs _ ?_ ?_ ?_).mono ?_; exact h.alloc _; omega; omega; rintro e w1 ⟨rfl, ho, hg⟩)
  go_ret
  exact ⟨rfl, ho, (World.grownBy_alloc w _ _).trans hg⟩
theorem heldInequality_c (A : Option Addr) (n c : Nat) (k bd : Int) (w : World) (h : Ints w A n (upFrom k n)) (hn : n ≤ 140737488355328) (hk : 0 ≤ k ∧ k ≤ 140737488355328) :
    Calls Try.prog 23 #[.agg #[.slice A n c, .int .i64 bd], .int .i64 k] w fun e w' => e = .returned (.int .i64 (k + n)) ∧ Ext w w' := by
  go_enter Try.func23, Try.ntmps23
  go_wp2_with (go_at_call 32; refine (heldIntS_c _ _ _ _ _ ?_ ?_ ?_).mono ?_; exact h.ext (by (repeat (first | exact Ext.refl _ | with_reducible assumption | refine Ext.setCell ?_ (by first | omega | (simp <;> omega)) _ | refine Ext.drewN ?_ _ | refine Ext.drew ?_ | refine Ext.alloc ?_ _ | refine Ext.trans ?_ (by with_reducible assumption)))); omega; omega; rintro e w1 ⟨rfl, he⟩)
  go_ret
  exact ⟨rfl, by (repeat (first | exact Ext.refl _ | with_reducible assumption | refine Ext.setCell ?_ (by first | omega | (simp <;> omega)) _ | refine Ext.drewN ?_ _ | refine Ext.drew ?_ | refine Ext.alloc ?_ _ | refine Ext.trans ?_ (by with_reducible assumption)))⟩
theorem szInequality_c (A : Option Addr) (n c : Nat) (left bd : Int) (w : World) (hn : n ≤ 9223372036854775807) (hl : 0 ≤ left ∧ left ≤ 1048576) :
    Calls Try.prog 24 #[.agg #[.slice A n c, .int .i64 bd], .int .i64 left] w fun e w' => e = .returned (.int .i64 (if (n : Int) ≤ left then left - n else -1)) ∧ Ext w w' := by
  by_cases h : (n : Int) ≤ left
  · rw [if_pos h]
    go_enter Try.func24, Try.ntmps24
    go_wp2_with (go_at_call 60; refine (szIntS_c _ _ _ _ _ ?_ ?_).mono ?_; omega; omega; rw [if_pos h]; rintro e w1 ⟨rfl, rfl⟩)
    go_ret
    exact ⟨rfl, by (repeat (first | exact Ext.refl _ | with_reducible assumption | refine Ext.setCell ?_ (by first | omega | (simp <;> omega)) _ | refine Ext.drewN ?_ _ | refine Ext.drew ?_ | refine Ext.alloc ?_ _ | refine Ext.trans ?_ (by with_reducible assumption)))⟩
  · rw [if_neg h]
    go_enter Try.func24, Try.ntmps24
    go_wp2_with (go_at_call 60; refine (szIntS_c _ _ _ _ _ ?_ ?_).mono ?_; omega; omega; rw [if_neg h]; rintro e w1 ⟨rfl, rfl⟩)
    go_ret
    exact ⟨rfl, by (repeat (first | exact Ext.refl _ | with_reducible assumption | refine Ext.setCell ?_ (by first | omega | (simp <;> omega)) _ | refine Ext.drewN ?_ _ | refine Ext.drew ?_ | refine Ext.alloc ?_ _ | refine Ext.trans ?_ (by with_reducible assumption)))⟩
theorem toInequality_c (A : Option Addr) (n c : Nat) (bd : Int) (xs : List Int) (w : World) (h : Ints w A n xs) (hn : n ≤ 1048576) :
    Calls Try.prog 26 #[.agg #[.slice A n c, .int .i64 bd]] w fun e w' =>
      ∃ A' c', e = .returned (.agg #[.slice A' n c', .int .i64 bd]) ∧ Own w' w.heap.size 3 1 A' n c' (xs.map (Value.int .i64)) ∧ Ext w w' := by
  go_enter Try.func26, Try.ntmps26
  go_wp2_with (go_at_call 45; refine (toIntS_c _ _ _ xs _ ?_ ?_).mono ?_; exact h.ext (by (repeat (first | exact Ext.refl _ | with_reducible assumption | refine Ext.setCell ?_ (by first | omega | (simp <;> omega)) _ | refine Ext.drewN ?_ _ | refine Ext.drew ?_ | refine Ext.alloc ?_ _ | refine Ext.trans ?_ (by with_reducible assumption)))); omega; rintro e w1 ⟨A', c', rfl, ho, he⟩; have b1 := he.cell (p := ⟨w.heap.size, 1, none⟩) (u := .int .i64 bd) (by simp [go_sem]); have bc8 := he.cell (p := ⟨w.heap.size + 1, 0, none⟩) (u := .slice none 0 0) (by first | simp [go_sem] | simp [go_sem, *]); have bf8 := he.frozen (p := ⟨w.heap.size + 1, 0, none⟩) (by first | omega | (simp <;> omega)) (by first | simp [go_sem] | simp [go_sem, *]); have bc9 := he.cell (p := ⟨w.heap.size + 1, 1, none⟩) (u := .int .i64 0) (by first | simp [go_sem] | simp [go_sem, *]); have bf9 := he.frozen (p := ⟨w.heap.size + 1, 1, none⟩) (by first | omega | (simp <;> omega)) (by first | simp [go_sem] | simp [go_sem, *]); have bc10 := he.cell (p := ⟨w.heap.size + 1 + 1, 0, none⟩) (u := .slice none 0 0) (by first | simp [go_sem] | simp [go_sem, *]); have bf10 := he.frozen (p := ⟨w.heap.size + 1 + 1, 0, none⟩) (by first | omega | (simp <;> omega)) (by first | simp [go_sem] | simp [go_sem, *]); have bc11 := he.cell (p := ⟨w.heap.size + 1 + 1, 1, none⟩) (u := .int .i64 0) (by first | simp [go_sem] | simp [go_sem, *]); have bf11 := he.frozen (p := ⟨w.heap.size + 1 + 1, 1, none⟩) (by first | omega | (simp <;> omega)) (by first | simp [go_sem] | simp [go_sem, *]))
  refine bodyPost_ret (v := .agg #[.slice A' n c', .int .i64 bd]) (by simp [results, Try.results26, go_sem, *]) rfl ⟨_, _, rfl, ?_, ?_⟩
  · exact ((((ho.setLow (by first | omega | (simp <;> omega)) _).setLow (by first | omega | (simp <;> omega)) _).setLow (by first | omega | (simp <;> omega)) _).setLow (by first | omega | (simp <;> omega)) _).lower (by first | omega | (simp <;> omega))
  · exact Ext.setCell (Ext.setCell (Ext.setCell (Ext.setCell (Ext.trans (by (repeat (first | exact Ext.refl _ | with_reducible assumption | refine Ext.setCell ?_ (by first | omega | (simp <;> omega)) _ | refine Ext.drewN ?_ _ | refine Ext.drew ?_ | refine Ext.alloc ?_ _ | refine Ext.trans ?_ (by with_reducible assumption)))) he) (by first | omega | (simp <;> omega)) _) (by first | omega | (simp <;> omega)) _) (by first | omega | (simp <;> omega)) _) (by first | omega | (simp <;> omega)) _
theorem spec_PlaneOfLiteral_c (v l : Int) (w : World) :
    Calls Try.prog 33 #[.int .i64 v, .int .i64 l] w fun e w' =>
      ∃ A n c, e = .returned (.tuple #[.agg #[.slice A n c, .int .i64 (planeLit v l).2], .bool (planeLitOk v l)]) ∧ Own w' w.heap.size 3 1 A n c ((planeLit v l).1.map (Value.int .i64)) ∧ n ≤ 100 ∧ Ext w w' := by
  cases hp : planeLitOk v l
  · have hF : planeLit v l = ([], 0) := by simp [planeLit, hp]
    rw [hF]
    have HF := hide hF
    clear hF
    rcases and2_false hp with h1 | ⟨h1, h2⟩ <;> clear hp
    all_goals
      go_enter Try.func33, Try.ntmps33
      go_wp2_with (first | (go_at_call 61; refine (l2Vars_c _ _).mono ?_; rintro e w' ⟨rfl, rfl⟩) | (go_at_call 70; refine (l2Lit_c _ _ _).mono ?_; rintro e w' ⟨rfl, rfl⟩))
      refine bodyPost_ret (v := .tuple #[.agg #[.slice none 0 0, .int .i64 0], .bool false]) (by simp [results, Try.results33, go_sem, *]) rfl ⟨_, _, _, rfl, Own.nil _ _ _ _, by omega, by (repeat (first | exact Ext.refl _ | with_reducible assumption | refine Ext.setCell ?_ (by first | omega | (simp <;> omega)) _ | refine Ext.drewN ?_ _ | refine Ext.drew ?_ | refine Ext.alloc ?_ _ | refine Ext.trans ?_ (by with_reducible assumption)))⟩
  · obtain ⟨h1, h2⟩ := and2_true hp
    have h1' := within_true h1
    have h2' := isLit_true h1 h2
    obtain ⟨n, rfl⟩ := int_nat h1'.1
    have hF : planeLit n l = ((List.replicate n 0).set (l.natAbs - 1) (if l < 0 then -1 else 1), if l < 0 then -1 else 0) := by simp [planeLit, hp]
    rw [hF]
    have HF := hide hF
    clear hF hp
    obtain ⟨b, hb⟩ : ∃ b : Int, b = if l < 0 then -1 else 0 := ⟨_, rfl⟩
    have hc := l17Literal_c n l (w.alloc (.cells #[.slice none 0 0, .int .i64 0] 29)) (by omega) h2'
    obtain ⟨xs, hxs⟩ : ∃ xs : List Int, xs = (List.replicate n 0).set (l.natAbs - 1) (if l < 0 then -1 else 1) := ⟨_, rfl⟩
    rw [← hb, ← hxs] at hc ⊢
    clear hb hxs HF
    have HC := hide hc
    clear hc
    go_enter Try.func33, Try.ntmps33
    go_wp2_with (first | (go_at_call 61; refine (l2Vars_c _ _).mono ?_; rintro e w' ⟨rfl, rfl⟩) | (go_at_call 70; refine (l2Lit_c _ _ _).mono ?_; rintro e w' ⟨rfl, rfl⟩) | (go_at_call 71; refine HC.out.mono ?_; rintro e w1 ⟨A, c, rfl, ho, he⟩; have bc12 := he.cell (p := ⟨w.heap.size, 0, none⟩) (u := .slice none 0 0) (by first | simp [go_sem] | simp [go_sem, *]); have bf12 := he.frozen (p := ⟨w.heap.size, 0, none⟩) (by first | omega | (simp <;> omega)) (by first | simp [go_sem] | simp [go_sem, *]); have bc13 := he.cell (p := ⟨w.heap.size, 1, none⟩) (u := .int .i64 0) (by first | simp [go_sem] | simp [go_sem, *]); have bf13 := he.frozen (p := ⟨w.heap.size, 1, none⟩) (by first | omega | (simp <;> omega)) (by first | simp [go_sem] | simp [go_sem, *])))
    refine bodyPost_ret (v := .tuple #[.agg #[.slice A n c, .int .i64 b], .bool true]) (by simp [results, Try.results33, go_sem, *]) rfl ⟨_, _, _, rfl, ?_, by omega, ?_⟩
    · exact ((ho.setLow (by simp) _).setLow (by simp) _).lower (by simp)
    · exact ((Ext.refl _).alloc _ |>.trans he |>.setCell (by simp) _ |>.setCell (by simp) _)
theorem impl_PlaneOfLiteral_c (v l : Int) (w : World) :
    Calls Try.prog 34 #[.int .i64 v, .int .i64 l] w fun e w' =>
      ∃ A n c, e = .returned (.tuple #[.agg #[.slice A n c, .int .i64 (planeLit v l).2], .bool (planeLitOk v l)]) ∧ Own w' w.heap.size 3 1 A n c ((planeLit v l).1.map (Value.int .i64)) ∧ n ≤ 100 ∧ Ext w w' := by
  cases hp : planeLitOk v l
  · have hF : planeLit v l = ([], 0) := by simp [planeLit, hp]
    rw [hF]
    have HF := hide hF
    clear hF
    rcases and2_false hp with h1 | ⟨h1, h2⟩ <;> clear hp
    all_goals
      go_enter Try.func34, Try.ntmps34
      go_wp2_with (first | (go_at_call 63; refine (varsOk_c _ _).mono ?_; rintro e w' ⟨rfl, rfl⟩) | (go_at_call 72; refine (isLiteral_c _ _ _).mono ?_; rintro e w' ⟨rfl, rfl⟩))
      refine bodyPost_ret (v := .tuple #[.agg #[.slice none 0 0, .int .i64 0], .bool false]) (by simp [results, Try.results34, go_sem, *]) rfl ⟨_, _, _, rfl, Own.nil _ _ _ _, by omega, by (repeat (first | exact Ext.refl _ | with_reducible assumption | refine Ext.setCell ?_ (by first | omega | (simp <;> omega)) _ | refine Ext.drewN ?_ _ | refine Ext.drew ?_ | refine Ext.alloc ?_ _ | refine Ext.trans ?_ (by with_reducible assumption)))⟩
  · obtain ⟨h1, h2⟩ := and2_true hp
    have h1' := within_true h1
    have h2' := isLit_true h1 h2
    obtain ⟨n, rfl⟩ := int_nat h1'.1
    have hF : planeLit n l = ((List.replicate n 0).set (l.natAbs - 1) (if l < 0 then -1 else 1), if l < 0 then -1 else 0) := by simp [planeLit, hp]
    rw [hF]
    have HF := hide hF
    clear hF hp
    obtain ⟨b, hb⟩ : ∃ b : Int, b = if l < 0 then -1 else 0 := ⟨_, rfl⟩
    have hc := planeOfLiteral_c n l (w.alloc (.cells #[.slice none 0 0, .int .i64 0] 29)) (by omega) h2'
    obtain ⟨xs, hxs⟩ : ∃ xs : List Int, xs = (List.replicate n 0).set (l.natAbs - 1) (if l < 0 then -1 else 1) := ⟨_, rfl⟩
    rw [← hb, ← hxs] at hc ⊢
    clear hb hxs HF
    have HC := hide hc
    clear hc
    go_enter Try.func34, Try.ntmps34
    go_wp2_with (first | (go_at_call 63; refine (varsOk_c _ _).mono ?_; rintro e w' ⟨rfl, rfl⟩) | (go_at_call 72; refine (isLiteral_c _ _ _).mono ?_; rintro e w' ⟨rfl, rfl⟩) | (go_at_call 73; refine HC.out.mono ?_; rintro e w1 ⟨A, c, rfl, ho, he⟩; have bc14 := he.cell (p := ⟨w.heap.size, 0, none⟩) (u := .slice none 0 0) (by first | simp [go_sem] | simp [go_sem, *]); have bf14 := he.frozen (p := ⟨w.heap.size, 0, none⟩) (by first | omega | (simp <;> omega)) (by first | simp [go_sem] | simp [go_sem, *]); have bc15 := he.cell (p := ⟨w.heap.size, 1, none⟩) (u := .int .i64 0) (by first | simp [go_sem] | simp [go_sem, *]); have bf15 := he.frozen (p := ⟨w.heap.size, 1, none⟩) (by first | omega | (simp <;> omega)) (by first | simp [go_sem] | simp [go_sem, *])))
    refine bodyPost_ret (v := .tuple #[.agg #[.slice A n c, .int .i64 b], .bool true]) (by simp [results, Try.results34, go_sem, *]) rfl ⟨_, _, _, rfl, ?_, by omega, ?_⟩
    · exact ((ho.setLow (by simp) _).setLow (by simp) _).lower (by simp)
    · exact ((Ext.refl _).alloc _ |>.trans he |>.setCell (by simp) _ |>.setCell (by simp) _)
theorem szInequality_fit (A : Option Addr) (n c : Nat) (left bd : Int) (w : World) (hn : n ≤ 9223372036854775807) (hl : 0 ≤ left ∧ left ≤ 1048576) (h : (n : Int) ≤ left) :
    Calls Try.prog 24 #[.agg #[.slice A n c, .int .i64 bd], .int .i64 left] w fun e w' => e = .returned (.int .i64 (left - n)) ∧ Ext w w' := by
  have := szInequality_c A n c left bd w hn hl
  rwa [if_pos h] at this
theorem szInequality_no (A : Option Addr) (n c : Nat) (left bd : Int) (w : World) (hn : n ≤ 9223372036854775807) (hl : 0 ≤ left ∧ left ≤ 1048576) (h : left < (n : Int)) :
    Calls Try.prog 24 #[.agg #[.slice A n c, .int .i64 bd], .int .i64 left] w fun e w' => e = .returned (.int .i64 (-1)) ∧ Ext w w' := by
  have := szInequality_c A n c left bd w hn hl
  rwa [if_neg (by omega)] at this
end Go.Proofs.Ytdlmemngclhlkaa
