/-
  PlaneOfClause.
-/
import Derived.Test.YtencjnddhokgaaaC23
namespace Go.Proofs.Ytencjnddhokgaaa
open Go.RowKit

set_option maxRecDepth 100000 in
set_option maxHeartbeats 800000 in
theorem spec_PlaneOfClause_o (v : Int) (A : Option Addr) (m d : Nat) (c : List Int) (w : World) (h : Ints w A m c) :
    Calls Try.prog 15 #[.int .i64 v, .slice A m d] w fun e w' =>
      ∃ A' n' c', e = .returned (.tuple #[.agg #[.slice A' n' c', .int .i64 (if clauseOk v c then litBound c else 0)], .bool (clauseOk v c)]) ∧ ObI 3 w' w.heap.size w'.heap.size A' n' c' (if clauseOk v c then litCells v.toNat c else []) ∧ Ext w w' := by
  cases h1 : clauseOk v c
  · have H1 := hide h1
    clear h1
    simp only [Bool.false_eq_true, if_false]
    go_enter Try.func15, Try.ntmps15
    go_wp2_with (go_at_call 55; (with_reducible refine (l2Clause_c _ _ _ _ c _ (h.ext (by (repeat (first | with_reducible exact Ext.refl _ | with_reducible assumption | ((with_reducible refine Ext.setCell ?_ ?_ _); rotate_left; focus (first | omega | (simp <;> omega))) | with_reducible refine Ext.alloc ?_ _ | with_reducible refine Ext.drewN ?_ _ | with_reducible refine Ext.drew ?_ | with_reducible refine Ext.trans ?_ (by with_reducible assumption)))))).mono ?_); rw [H1.out]; rintro e w1 ⟨rfl, he1⟩; have r0 := he1.cell (p := ⟨w.heap.size, 0, none⟩) (u := .slice none 0 0) (by simp [go_sem]); have r1 := he1.cell (p := ⟨w.heap.size, 1, none⟩) (u := .int .i64 0) (by simp [go_sem]); have f0 := he1.frozen (p := ⟨w.heap.size, 0, none⟩) (by first | omega | (simp <;> omega)) (by simp [go_sem]); have f1 := he1.frozen (p := ⟨w.heap.size, 1, none⟩) (by first | omega | (simp <;> omega)) (by simp [go_sem]))
    refine bodyPost_ret (v := .tuple #[.agg #[.slice none 0 0, .int .i64 0], .bool false]) (by simp only [results, Try.results15]; simp [go_sem, r0, r1, f0, f1]) rfl ⟨_, _, _, rfl, ObI.nil, ?_⟩
    exact Ext.setCell (Ext.setCell (Ext.trans (by (repeat (first | with_reducible exact Ext.refl _ | with_reducible assumption | ((with_reducible refine Ext.setCell ?_ ?_ _); rotate_left; focus (first | omega | (simp <;> omega))) | with_reducible refine Ext.alloc ?_ _ | with_reducible refine Ext.drewN ?_ _ | with_reducible refine Ext.drew ?_ | with_reducible refine Ext.trans ?_ (by with_reducible assumption)))) he1) (by first | omega | (simp <;> omega)) _) (by first | omega | (simp <;> omega)) _
  · obtain ⟨hv, hc, hl⟩ := clause_facts h1
    have H1 := hide h1
    clear h1
    simp only [if_true]
    obtain ⟨n, rfl⟩ := int_nat hv.1
    rw [Int.toNat_natCast]
    have hm := h.len
    have hcc := fun W (he : Ext w W) => l16OfClause_c n A m d c W (h.ext he) (by omega) (by omega) hc
    have hle := litCells_length n c
    generalize litCells n c = F at hcc hle ⊢
    generalize litBound c = b at hcc ⊢
    have HC := hide hcc
    have HLE := hide hle
    clear hcc hc hm hl hle
    go_enter Try.func15, Try.ntmps15
    go_wp2_with (first | (go_at_call 55; (with_reducible refine (l2Clause_c _ _ _ _ c _ (h.ext (by (repeat (first | with_reducible exact Ext.refl _ | with_reducible assumption | ((with_reducible refine Ext.setCell ?_ ?_ _); rotate_left; focus (first | omega | (simp <;> omega))) | with_reducible refine Ext.alloc ?_ _ | with_reducible refine Ext.drewN ?_ _ | with_reducible refine Ext.drew ?_ | with_reducible refine Ext.trans ?_ (by with_reducible assumption)))))).mono ?_); rw [H1.out]; rintro e w1 ⟨rfl, he1⟩; have r0 := he1.cell (p := ⟨w.heap.size, 0, none⟩) (u := .slice none 0 0) (by simp [go_sem]); have r1 := he1.cell (p := ⟨w.heap.size, 1, none⟩) (u := .int .i64 0) (by simp [go_sem]); have f0 := he1.frozen (p := ⟨w.heap.size, 0, none⟩) (by first | omega | (simp <;> omega)) (by simp [go_sem]); have f1 := he1.frozen (p := ⟨w.heap.size, 1, none⟩) (by first | omega | (simp <;> omega)) (by simp [go_sem]); have hs1 := he1.size; simp at hs1) | (go_at_call 56; (with_reducible refine (HC.out _ (by (repeat (first | with_reducible exact Ext.refl _ | with_reducible assumption | ((with_reducible refine Ext.setCell ?_ ?_ _); rotate_left; focus (first | omega | (simp <;> omega))) | with_reducible refine Ext.alloc ?_ _ | with_reducible refine Ext.drewN ?_ _ | with_reducible refine Ext.drew ?_ | with_reducible refine Ext.trans ?_ (by with_reducible assumption))))).mono ?_); rintro e w2 ⟨A1, c1, rfl, ho, he2⟩; have r0 := he2.cell r0; have r1 := he2.cell r1; have f0 := he2.frozen (p := ⟨w.heap.size, 0, none⟩) (by first | omega | (simp <;> omega)) f0; have f1 := he2.frozen (p := ⟨w.heap.size, 1, none⟩) (by first | omega | (simp <;> omega)) f1))
    refine bodyPost_ret (v := .tuple #[.agg #[.slice A1 n c1, .int .i64 b], .bool true]) (by simp only [results, Try.results15]; simp [go_sem, r0, r1, f0, f1]) rfl ⟨_, _, _, rfl, ?_, ?_⟩
    · exact ObI.of ((ho.setLow (by first | omega | (simp <;> omega)) _).setLow (by first | omega | (simp <;> omega)) _ |>.lower (by first | omega | (simp <;> omega))) (by omega)
    · exact Ext.setCell (Ext.setCell (Ext.trans (by (repeat (first | with_reducible exact Ext.refl _ | with_reducible assumption | ((with_reducible refine Ext.setCell ?_ ?_ _); rotate_left; focus (first | omega | (simp <;> omega))) | with_reducible refine Ext.alloc ?_ _ | with_reducible refine Ext.drewN ?_ _ | with_reducible refine Ext.drew ?_ | with_reducible refine Ext.trans ?_ (by with_reducible assumption)))) he2) (by first | omega | (simp <;> omega)) _) (by first | omega | (simp <;> omega)) _
set_option maxRecDepth 100000 in
set_option maxHeartbeats 800000 in
theorem impl_PlaneOfClause_o (v : Int) (A : Option Addr) (m d : Nat) (c : List Int) (w : World) (h : Ints w A m c) :
    Calls Try.prog 17 #[.int .i64 v, .slice A m d] w fun e w' =>
      ∃ A' n' c', e = .returned (.tuple #[.agg #[.slice A' n' c', .int .i64 (if clauseOk v c then litBound c else 0)], .bool (clauseOk v c)]) ∧ ObI 3 w' w.heap.size w'.heap.size A' n' c' (if clauseOk v c then litCells v.toNat c else []) ∧ Ext w w' := by
  cases h1 : clauseOk v c
  · have H1 := hide h1
    clear h1
    simp only [Bool.false_eq_true, if_false]
    go_enter Try.func17, Try.ntmps17
    go_wp2_with (go_at_call 57; (with_reducible refine (IsClause_c _ _ _ _ c _ (h.ext (by (repeat (first | with_reducible exact Ext.refl _ | with_reducible assumption | ((with_reducible refine Ext.setCell ?_ ?_ _); rotate_left; focus (first | omega | (simp <;> omega))) | with_reducible refine Ext.alloc ?_ _ | with_reducible refine Ext.drewN ?_ _ | with_reducible refine Ext.drew ?_ | with_reducible refine Ext.trans ?_ (by with_reducible assumption)))))).mono ?_); rw [H1.out]; rintro e w1 ⟨rfl, he1⟩; have r0 := he1.cell (p := ⟨w.heap.size, 0, none⟩) (u := .slice none 0 0) (by simp [go_sem]); have r1 := he1.cell (p := ⟨w.heap.size, 1, none⟩) (u := .int .i64 0) (by simp [go_sem]); have f0 := he1.frozen (p := ⟨w.heap.size, 0, none⟩) (by first | omega | (simp <;> omega)) (by simp [go_sem]); have f1 := he1.frozen (p := ⟨w.heap.size, 1, none⟩) (by first | omega | (simp <;> omega)) (by simp [go_sem]))
    refine bodyPost_ret (v := .tuple #[.agg #[.slice none 0 0, .int .i64 0], .bool false]) (by simp only [results, Try.results17]; simp [go_sem, r0, r1, f0, f1]) rfl ⟨_, _, _, rfl, ObI.nil, ?_⟩
    exact Ext.setCell (Ext.setCell (Ext.trans (by (repeat (first | with_reducible exact Ext.refl _ | with_reducible assumption | ((with_reducible refine Ext.setCell ?_ ?_ _); rotate_left; focus (first | omega | (simp <;> omega))) | with_reducible refine Ext.alloc ?_ _ | with_reducible refine Ext.drewN ?_ _ | with_reducible refine Ext.drew ?_ | with_reducible refine Ext.trans ?_ (by with_reducible assumption)))) he1) (by first | omega | (simp <;> omega)) _) (by first | omega | (simp <;> omega)) _
  · obtain ⟨hv, hc, hl⟩ := clause_facts h1
    have H1 := hide h1
    clear h1
    simp only [if_true]
    obtain ⟨n, rfl⟩ := int_nat hv.1
    rw [Int.toNat_natCast]
    have hm := h.len
    have hcc := fun W (he : Ext w W) => planeOf_c n A m d c W (h.ext he) (by omega) (by omega) hc
    have hle := litCells_length n c
    generalize litCells n c = F at hcc hle ⊢
    generalize litBound c = b at hcc ⊢
    have HC := hide hcc
    have HLE := hide hle
    clear hcc hc hm hl hle
    go_enter Try.func17, Try.ntmps17
    go_wp2_with (first | (go_at_call 57; (with_reducible refine (IsClause_c _ _ _ _ c _ (h.ext (by (repeat (first | with_reducible exact Ext.refl _ | with_reducible assumption | ((with_reducible refine Ext.setCell ?_ ?_ _); rotate_left; focus (first | omega | (simp <;> omega))) | with_reducible refine Ext.alloc ?_ _ | with_reducible refine Ext.drewN ?_ _ | with_reducible refine Ext.drew ?_ | with_reducible refine Ext.trans ?_ (by with_reducible assumption)))))).mono ?_); rw [H1.out]; rintro e w1 ⟨rfl, he1⟩; have r0 := he1.cell (p := ⟨w.heap.size, 0, none⟩) (u := .slice none 0 0) (by simp [go_sem]); have r1 := he1.cell (p := ⟨w.heap.size, 1, none⟩) (u := .int .i64 0) (by simp [go_sem]); have f0 := he1.frozen (p := ⟨w.heap.size, 0, none⟩) (by first | omega | (simp <;> omega)) (by simp [go_sem]); have f1 := he1.frozen (p := ⟨w.heap.size, 1, none⟩) (by first | omega | (simp <;> omega)) (by simp [go_sem]); have hs1 := he1.size; simp at hs1) | (go_at_call 58; (with_reducible refine (HC.out _ (by (repeat (first | with_reducible exact Ext.refl _ | with_reducible assumption | ((with_reducible refine Ext.setCell ?_ ?_ _); rotate_left; focus (first | omega | (simp <;> omega))) | with_reducible refine Ext.alloc ?_ _ | with_reducible refine Ext.drewN ?_ _ | with_reducible refine Ext.drew ?_ | with_reducible refine Ext.trans ?_ (by with_reducible assumption))))).mono ?_); rintro e w2 ⟨A1, c1, rfl, ho, he2⟩; have r0 := he2.cell r0; have r1 := he2.cell r1; have f0 := he2.frozen (p := ⟨w.heap.size, 0, none⟩) (by first | omega | (simp <;> omega)) f0; have f1 := he2.frozen (p := ⟨w.heap.size, 1, none⟩) (by first | omega | (simp <;> omega)) f1))
    refine bodyPost_ret (v := .tuple #[.agg #[.slice A1 n c1, .int .i64 b], .bool true]) (by simp only [results, Try.results17]; simp [go_sem, r0, r1, f0, f1]) rfl ⟨_, _, _, rfl, ?_, ?_⟩
    · exact ObI.of ((ho.setLow (by first | omega | (simp <;> omega)) _).setLow (by first | omega | (simp <;> omega)) _ |>.lower (by first | omega | (simp <;> omega))) (by omega)
    · exact Ext.setCell (Ext.setCell (Ext.trans (by (repeat (first | with_reducible exact Ext.refl _ | with_reducible assumption | ((with_reducible refine Ext.setCell ?_ ?_ _); rotate_left; focus (first | omega | (simp <;> omega))) | with_reducible refine Ext.alloc ?_ _ | with_reducible refine Ext.drewN ?_ _ | with_reducible refine Ext.drew ?_ | with_reducible refine Ext.trans ?_ (by with_reducible assumption)))) he2) (by first | omega | (simp <;> omega)) _) (by first | omega | (simp <;> omega)) _
end Go.Proofs.Ytencjnddhokgaaa
