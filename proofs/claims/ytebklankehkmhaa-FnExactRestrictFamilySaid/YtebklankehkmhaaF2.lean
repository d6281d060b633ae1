/-
  IsAllowed on both sides; no condition.
-/
import Derived.Test.YtebklankehkmhaaF1
namespace Go.Proofs.Ytebklankehkmhaa
set_option linter.unusedSimpArgs false
set_option linter.unusedVariables false
open Go.RowKit
def askB (v W : Int) (cls : List (List Int)) (a : List Int) : Bool := narOk v cls W && clauseOk v a
theorem nar_facts {v W : Int} {cls : List (List Int)} (h : narOk v cls W = true) : cnfOk v cls = true ∧ (0 ≤ v ∧ v ≤ 6) ∧ (0 ≤ W ∧ W ≤ 6) ∧ (∀ c ∈ cls, ∀ x ∈ c, -12 ≤ x ∧ x ≤ 12 ∧ x ≠ 0) := by
  obtain ⟨h1, h2⟩ := and2_true h
  obtain ⟨h3, h4⟩ := and2_true h2
  have h3 := of_decide_eq_true h3
  have h5 := cnf_facts h1
  exact ⟨h1, ⟨h5.1.1, h3⟩, within_true h4, fun c hc => (cnf_lits h1 c hc).2⟩
set_option maxRecDepth 100000 in
set_option maxHeartbeats 800000 in
theorem spec_IsAllowed_c (v W : Int) (C : Option Addr) (nc dc : Nat) (cls : List (List Int)) (B : Option Addr) (m q : Nat) (a : List Int) (w : World) (h : Intss w C nc cls) (k : Ints w B m a) :
    Calls Try.prog 38 #[.agg #[.int .i64 v, .slice C nc dc], .int .i64 W, .slice B m q] w fun e w' => e = .returned (.tuple #[.bool (askB v W cls a && allowB cls W a), .bool (askB v W cls a)]) ∧ Ext w w' := by
  have HN := hide (fun Wd (E : Ext w Wd) => l13Asked_c v W C nc dc cls Wd (h.ext E))
  have HG := hide (fun Wd (E : Ext w Wd) => l3Good_c v B m q a Wd (k.ext E))
  unfold askB
  cases hn : narOk v cls W
  · rw [hn] at HN; clear hn
    go_enter Try.func38, Try.ntmps38
    go_wp2_with (go_at_call 85; (with_reducible refine (HN.out _ (by (repeat (first | with_reducible exact Ext.refl _ | with_reducible assumption | ((with_reducible refine Ext.setCell ?_ ?_ _); rotate_left; focus (first | omega | (simp <;> omega))) | with_reducible refine Ext.alloc ?_ _ | with_reducible refine Ext.drewN ?_ _ | with_reducible refine Ext.drew ?_ | with_reducible refine Ext.trans ?_ (by with_reducible assumption))))).mono ?_); rintro e1 w1 ⟨rfl, he1⟩; have bc0 := he1.cell (p := ⟨w.heap.size, 0, none⟩) (u := .int .i64 v) (by first | simp [go_sem] | simp [go_sem, *]); have bf0 := he1.frozen (p := ⟨w.heap.size, 0, none⟩) (by first | omega | (simp <;> omega)) (by first | simp [go_sem] | simp [go_sem, *]); have bc1 := he1.cell (p := ⟨w.heap.size, 1, none⟩) (u := .slice C nc dc) (by first | simp [go_sem] | simp [go_sem, *]); have bf1 := he1.frozen (p := ⟨w.heap.size, 1, none⟩) (by first | omega | (simp <;> omega)) (by first | simp [go_sem] | simp [go_sem, *]))
    go_ret2
    exact ⟨rfl, by (repeat (first | with_reducible exact Ext.refl _ | with_reducible assumption | ((with_reducible refine Ext.setCell ?_ ?_ _); rotate_left; focus (first | omega | (simp <;> omega))) | with_reducible refine Ext.alloc ?_ _ | with_reducible refine Ext.drewN ?_ _ | with_reducible refine Ext.drew ?_ | with_reducible refine Ext.trans ?_ (by with_reducible assumption)))⟩
  rw [hn] at HN
  cases hg : clauseOk v a
  · rw [hg] at HG; clear hg hn
    go_enter Try.func38, Try.ntmps38
    go_wp2_with (first | (go_at_call 85; (with_reducible refine (HN.out _ (by (repeat (first | with_reducible exact Ext.refl _ | with_reducible assumption | ((with_reducible refine Ext.setCell ?_ ?_ _); rotate_left; focus (first | omega | (simp <;> omega))) | with_reducible refine Ext.alloc ?_ _ | with_reducible refine Ext.drewN ?_ _ | with_reducible refine Ext.drew ?_ | with_reducible refine Ext.trans ?_ (by with_reducible assumption))))).mono ?_); rintro e1 w1 ⟨rfl, he1⟩; have bc2 := he1.cell (p := ⟨w.heap.size, 0, none⟩) (u := .int .i64 v) (by first | simp [go_sem] | simp [go_sem, *]); have bf2 := he1.frozen (p := ⟨w.heap.size, 0, none⟩) (by first | omega | (simp <;> omega)) (by first | simp [go_sem] | simp [go_sem, *]); have bc3 := he1.cell (p := ⟨w.heap.size, 1, none⟩) (u := .slice C nc dc) (by first | simp [go_sem] | simp [go_sem, *]); have bf3 := he1.frozen (p := ⟨w.heap.size, 1, none⟩) (by first | omega | (simp <;> omega)) (by first | simp [go_sem] | simp [go_sem, *])) | (go_at_call 86; (with_reducible refine (HG.out _ (by (repeat (first | with_reducible exact Ext.refl _ | with_reducible assumption | ((with_reducible refine Ext.setCell ?_ ?_ _); rotate_left; focus (first | omega | (simp <;> omega))) | with_reducible refine Ext.alloc ?_ _ | with_reducible refine Ext.drewN ?_ _ | with_reducible refine Ext.drew ?_ | with_reducible refine Ext.trans ?_ (by with_reducible assumption))))).mono ?_); rintro e2 w2 ⟨rfl, he2⟩; have bd0 := he2.cell bc2; have bd1 := he2.cell bc3))
    go_ret2
    exact ⟨rfl, by (repeat (first | with_reducible exact Ext.refl _ | with_reducible assumption | ((with_reducible refine Ext.setCell ?_ ?_ _); rotate_left; focus (first | omega | (simp <;> omega))) | with_reducible refine Ext.alloc ?_ _ | with_reducible refine Ext.drewN ?_ _ | with_reducible refine Ext.drew ?_ | with_reducible refine Ext.trans ?_ (by with_reducible assumption)))⟩
  rw [hg] at HG
  obtain ⟨-, -, hW, hc⟩ := nar_facts hn
  have HA := hide (fun Wd (E : Ext w Wd) => l13Allowed_c v W C nc dc cls B m q a Wd (h.ext E) (k.ext E) hc hW)
  generalize allowB cls W a = r at HA ⊢
  clear hc hg hn
  go_enter Try.func38, Try.ntmps38
  go_wp2_with (first | (go_at_call 85; (with_reducible refine (HN.out _ (by (repeat (first | with_reducible exact Ext.refl _ | with_reducible assumption | ((with_reducible refine Ext.setCell ?_ ?_ _); rotate_left; focus (first | omega | (simp <;> omega))) | with_reducible refine Ext.alloc ?_ _ | with_reducible refine Ext.drewN ?_ _ | with_reducible refine Ext.drew ?_ | with_reducible refine Ext.trans ?_ (by with_reducible assumption))))).mono ?_); rintro e1 w1 ⟨rfl, he1⟩; have bc4 := he1.cell (p := ⟨w.heap.size, 0, none⟩) (u := .int .i64 v) (by first | simp [go_sem] | simp [go_sem, *]); have bf4 := he1.frozen (p := ⟨w.heap.size, 0, none⟩) (by first | omega | (simp <;> omega)) (by first | simp [go_sem] | simp [go_sem, *]); have bc5 := he1.cell (p := ⟨w.heap.size, 1, none⟩) (u := .slice C nc dc) (by first | simp [go_sem] | simp [go_sem, *]); have bf5 := he1.frozen (p := ⟨w.heap.size, 1, none⟩) (by first | omega | (simp <;> omega)) (by first | simp [go_sem] | simp [go_sem, *])) | (go_at_call 86; (with_reducible refine (HG.out _ (by (repeat (first | with_reducible exact Ext.refl _ | with_reducible assumption | ((with_reducible refine Ext.setCell ?_ ?_ _); rotate_left; focus (first | omega | (simp <;> omega))) | with_reducible refine Ext.alloc ?_ _ | with_reducible refine Ext.drewN ?_ _ | with_reducible refine Ext.drew ?_ | with_reducible refine Ext.trans ?_ (by with_reducible assumption))))).mono ?_); rintro e2 w2 ⟨rfl, he2⟩; have bd0 := he2.cell bc4; have bd1 := he2.cell bc5) | (go_at_call 87; (with_reducible refine (HA.out _ (by (repeat (first | with_reducible exact Ext.refl _ | with_reducible assumption | ((with_reducible refine Ext.setCell ?_ ?_ _); rotate_left; focus (first | omega | (simp <;> omega))) | with_reducible refine Ext.alloc ?_ _ | with_reducible refine Ext.drewN ?_ _ | with_reducible refine Ext.drew ?_ | with_reducible refine Ext.trans ?_ (by with_reducible assumption))))).mono ?_); rintro e3 w3 ⟨rfl, he3⟩))
  go_ret2
  exact ⟨rfl, by (repeat (first | with_reducible exact Ext.refl _ | with_reducible assumption | ((with_reducible refine Ext.setCell ?_ ?_ _); rotate_left; focus (first | omega | (simp <;> omega))) | with_reducible refine Ext.alloc ?_ _ | with_reducible refine Ext.drewN ?_ _ | with_reducible refine Ext.drew ?_ | with_reducible refine Ext.trans ?_ (by with_reducible assumption)))⟩
set_option maxRecDepth 100000 in
set_option maxHeartbeats 800000 in
theorem impl_IsAllowed_c (v W : Int) (C : Option Addr) (nc dc : Nat) (cls : List (List Int)) (B : Option Addr) (m q : Nat) (a : List Int) (w : World) (h : Intss w C nc cls) (k : Ints w B m a) :
    Calls Try.prog 40 #[.agg #[.int .i64 v, .slice C nc dc], .int .i64 W, .slice B m q] w fun e w' => e = .returned (.tuple #[.bool (askB v W cls a && allowB cls W a), .bool (askB v W cls a)]) ∧ Ext w w' := by
  have HN := hide (fun Wd (E : Ext w Wd) => narrowOk_c v W C nc dc cls Wd (h.ext E))
  have HG := hide (fun Wd (E : Ext w Wd) => IsAssignment_c v B m q a Wd (k.ext E))
  unfold askB
  cases hn : narOk v cls W
  · rw [hn] at HN; clear hn
    go_enter Try.func40, Try.ntmps40
    go_wp2_with (go_at_call 88; (with_reducible refine (HN.out _ (by (repeat (first | with_reducible exact Ext.refl _ | with_reducible assumption | ((with_reducible refine Ext.setCell ?_ ?_ _); rotate_left; focus (first | omega | (simp <;> omega))) | with_reducible refine Ext.alloc ?_ _ | with_reducible refine Ext.drewN ?_ _ | with_reducible refine Ext.drew ?_ | with_reducible refine Ext.trans ?_ (by with_reducible assumption))))).mono ?_); rintro e1 w1 ⟨rfl, he1⟩; have bc6 := he1.cell (p := ⟨w.heap.size, 0, none⟩) (u := .int .i64 v) (by first | simp [go_sem] | simp [go_sem, *]); have bf6 := he1.frozen (p := ⟨w.heap.size, 0, none⟩) (by first | omega | (simp <;> omega)) (by first | simp [go_sem] | simp [go_sem, *]); have bc7 := he1.cell (p := ⟨w.heap.size, 1, none⟩) (u := .slice C nc dc) (by first | simp [go_sem] | simp [go_sem, *]); have bf7 := he1.frozen (p := ⟨w.heap.size, 1, none⟩) (by first | omega | (simp <;> omega)) (by first | simp [go_sem] | simp [go_sem, *]))
    go_ret2
    exact ⟨rfl, by (repeat (first | with_reducible exact Ext.refl _ | with_reducible assumption | ((with_reducible refine Ext.setCell ?_ ?_ _); rotate_left; focus (first | omega | (simp <;> omega))) | with_reducible refine Ext.alloc ?_ _ | with_reducible refine Ext.drewN ?_ _ | with_reducible refine Ext.drew ?_ | with_reducible refine Ext.trans ?_ (by with_reducible assumption)))⟩
  rw [hn] at HN
  cases hg : clauseOk v a
  · rw [hg] at HG; clear hg hn
    go_enter Try.func40, Try.ntmps40
    go_wp2_with (first | (go_at_call 88; (with_reducible refine (HN.out _ (by (repeat (first | with_reducible exact Ext.refl _ | with_reducible assumption | ((with_reducible refine Ext.setCell ?_ ?_ _); rotate_left; focus (first | omega | (simp <;> omega))) | with_reducible refine Ext.alloc ?_ _ | with_reducible refine Ext.drewN ?_ _ | with_reducible refine Ext.drew ?_ | with_reducible refine Ext.trans ?_ (by with_reducible assumption))))).mono ?_); rintro e1 w1 ⟨rfl, he1⟩; have bc8 := he1.cell (p := ⟨w.heap.size, 0, none⟩) (u := .int .i64 v) (by first | simp [go_sem] | simp [go_sem, *]); have bf8 := he1.frozen (p := ⟨w.heap.size, 0, none⟩) (by first | omega | (simp <;> omega)) (by first | simp [go_sem] | simp [go_sem, *]); have bc9 := he1.cell (p := ⟨w.heap.size, 1, none⟩) (u := .slice C nc dc) (by first | simp [go_sem] | simp [go_sem, *]); have bf9 := he1.frozen (p := ⟨w.heap.size, 1, none⟩) (by first | omega | (simp <;> omega)) (by first | simp [go_sem] | simp [go_sem, *])) | (go_at_call 89; (with_reducible refine (HG.out _ (by (repeat (first | with_reducible exact Ext.refl _ | with_reducible assumption | ((with_reducible refine Ext.setCell ?_ ?_ _); rotate_left; focus (first | omega | (simp <;> omega))) | with_reducible refine Ext.alloc ?_ _ | with_reducible refine Ext.drewN ?_ _ | with_reducible refine Ext.drew ?_ | with_reducible refine Ext.trans ?_ (by with_reducible assumption))))).mono ?_); rintro e2 w2 ⟨rfl, he2⟩; have bd0 := he2.cell bc8; have bd1 := he2.cell bc9))
    go_ret2
    exact ⟨rfl, by (repeat (first | with_reducible exact Ext.refl _ | with_reducible assumption | ((with_reducible refine Ext.setCell ?_ ?_ _); rotate_left; focus (first | omega | (simp <;> omega))) | with_reducible refine Ext.alloc ?_ _ | with_reducible refine Ext.drewN ?_ _ | with_reducible refine Ext.drew ?_ | with_reducible refine Ext.trans ?_ (by with_reducible assumption)))⟩
  rw [hg] at HG
  obtain ⟨-, -, hW, hc⟩ := nar_facts hn
  have HA := hide (fun Wd (E : Ext w Wd) => allowed_c v W C nc dc cls B m q a Wd (h.ext E) (k.ext E) hc hW)
  generalize allowB cls W a = r at HA ⊢
  clear hc hg hn
  go_enter Try.func40, Try.ntmps40
  go_wp2_with (first | (go_at_call 88; (with_reducible refine (HN.out _ (by (repeat (first | with_reducible exact Ext.refl _ | with_reducible assumption | ((with_reducible refine Ext.setCell ?_ ?_ _); rotate_left; focus (first | omega | (simp <;> omega))) | with_reducible refine Ext.alloc ?_ _ | with_reducible refine Ext.drewN ?_ _ | with_reducible refine Ext.drew ?_ | with_reducible refine Ext.trans ?_ (by with_reducible assumption))))).mono ?_); rintro e1 w1 ⟨rfl, he1⟩; have bc10 := he1.cell (p := ⟨w.heap.size, 0, none⟩) (u := .int .i64 v) (by first | simp [go_sem] | simp [go_sem, *]); have bf10 := he1.frozen (p := ⟨w.heap.size, 0, none⟩) (by first | omega | (simp <;> omega)) (by first | simp [go_sem] | simp [go_sem, *]); have bc11 := he1.cell (p := ⟨w.heap.size, 1, none⟩) (u := .slice C nc dc) (by first | simp [go_sem] | simp [go_sem, *]); have bf11 := he1.frozen (p := ⟨w.heap.size, 1, none⟩) (by first | omega | (simp <;> omega)) (by first | simp [go_sem] | simp [go_sem, *])) | (go_at_call 89; (with_reducible refine (HG.out _ (by (repeat (first | with_reducible exact Ext.refl _ | with_reducible assumption | ((with_reducible refine Ext.setCell ?_ ?_ _); rotate_left; focus (first | omega | (simp <;> omega))) | with_reducible refine Ext.alloc ?_ _ | with_reducible refine Ext.drewN ?_ _ | with_reducible refine Ext.drew ?_ | with_reducible refine Ext.trans ?_ (by with_reducible assumption))))).mono ?_); rintro e2 w2 ⟨rfl, he2⟩; have bd0 := he2.cell bc10; have bd1 := he2.cell bc11) | (go_at_call 90; (with_reducible refine (HA.out _ (by (repeat (first | with_reducible exact Ext.refl _ | with_reducible assumption | ((with_reducible refine Ext.setCell ?_ ?_ _); rotate_left; focus (first | omega | (simp <;> omega))) | with_reducible refine Ext.alloc ?_ _ | with_reducible refine Ext.drewN ?_ _ | with_reducible refine Ext.drew ?_ | with_reducible refine Ext.trans ?_ (by with_reducible assumption))))).mono ?_); rintro e3 w3 ⟨rfl, he3⟩))
  go_ret2
  exact ⟨rfl, by (repeat (first | with_reducible exact Ext.refl _ | with_reducible assumption | ((with_reducible refine Ext.setCell ?_ ?_ _); rotate_left; focus (first | omega | (simp <;> omega))) | with_reducible refine Ext.alloc ?_ _ | with_reducible refine Ext.drewN ?_ _ | with_reducible refine Ext.drew ?_ | with_reducible refine Ext.trans ?_ (by with_reducible assumption)))⟩
end Go.Proofs.Ytebklankehkmhaa
