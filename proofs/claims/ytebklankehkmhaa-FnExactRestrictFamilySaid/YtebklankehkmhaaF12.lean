/-
  IsFamily on both sides; no condition.
-/
import Derived.Test.YtebklankehkmhaaF11
namespace Go.Proofs.Ytebklankehkmhaa
set_option linter.unusedSimpArgs false
set_option linter.unusedVariables false
open Go.RowKit
def famR (v W : Int) (cls : List (List Int)) (l : List (List Int)) : Bool := narOk v cls W && famB v.toNat cls W l
theorem famB_big {v : Nat} {cls : List (List Int)} {W : Int} {l : List (List Int)} (hv : v ≤ 6) (h : 729 < l.length) : famB v cls W l = false := by
  cases hf : famB v cls W l
  · rfl
  · have := fam_len (and2_true hf).1 hv; omega
theorem nar_nat {v W : Int} {cls : List (List Int)} (h : narOk v cls W = true) : ∃ u : Nat, v = (u : Int) ∧ u ≤ 6 := by
  obtain ⟨-, h2, -, -⟩ := nar_facts h
  obtain ⟨u, rfl⟩ := int_nat h2.1
  exact ⟨u, rfl, by omega⟩
set_option maxRecDepth 100000 in
set_option maxHeartbeats 800000 in
theorem spec_IsFamily_c (v W : Int) (C : Option Addr) (nc dc : Nat) (cls : List (List Int)) (A : Option Addr) (n d : Nat) (l : List (List Int)) (w : World) (hcl : Intss w C nc cls) (h : IntssC w A n l) :
    Calls Try.prog 43 #[.agg #[.int .i64 v, .slice C nc dc], .int .i64 W, .slice A n d] w fun e w' => e = .returned (.tuple #[.bool (famR v W cls l), .bool (narOk v cls W)]) ∧ Ext w w' := by
  have HN := hide (fun Wd (E : Ext w Wd) => l13Asked_c v W C nc dc cls Wd (hcl.ext E))
  have HL := hide h.rd.len
  have hb := h.rd.bound
  unfold famR
  cases hn : narOk v cls W
  · rw [hn] at HN; clear hn
    go_enter Try.func43, Try.ntmps43
    go_wp2_with (go_at_call 85; (with_reducible refine (HN.out _ (by (repeat (first | with_reducible exact Ext.refl _ | with_reducible assumption | ((with_reducible refine Ext.setCell ?_ ?_ _); rotate_left; focus (first | omega | (simp <;> omega))) | with_reducible refine Ext.alloc ?_ _ | with_reducible refine Ext.drewN ?_ _ | with_reducible refine Ext.drew ?_ | with_reducible refine Ext.trans ?_ (by with_reducible assumption))))).mono ?_); rintro e1 w1 ⟨rfl, he1⟩)
    go_ret2
    exact ⟨rfl, by (repeat (first | with_reducible exact Ext.refl _ | with_reducible assumption | ((with_reducible refine Ext.setCell ?_ ?_ _); rotate_left; focus (first | omega | (simp <;> omega))) | with_reducible refine Ext.alloc ?_ _ | with_reducible refine Ext.drewN ?_ _ | with_reducible refine Ext.drew ?_ | with_reducible refine Ext.trans ?_ (by with_reducible assumption)))⟩
  rw [hn] at HN
  obtain ⟨u, rfl, hu⟩ := nar_nat hn
  obtain ⟨-, -, hW, hc⟩ := nar_facts hn
  rw [show ((u : Nat) : Int).toNat = u by omega]
  by_cases h7 : n ≤ 729
  · have HI := hide (fun Wd (E : Ext w Wd) => l13Is_c u W C nc dc cls A n d l Wd (h.ext E) (hcl.ext E) (by omega) hc hW hu)
    generalize famB u cls W l = r at HI ⊢
    clear hn hc
    go_enter Try.func43, Try.ntmps43
    go_wp2_with (first | (go_at_call 85; (with_reducible refine (HN.out _ (by (repeat (first | with_reducible exact Ext.refl _ | with_reducible assumption | ((with_reducible refine Ext.setCell ?_ ?_ _); rotate_left; focus (first | omega | (simp <;> omega))) | with_reducible refine Ext.alloc ?_ _ | with_reducible refine Ext.drewN ?_ _ | with_reducible refine Ext.drew ?_ | with_reducible refine Ext.trans ?_ (by with_reducible assumption))))).mono ?_); rintro e1 w1 ⟨rfl, he1⟩; have bc0 := he1.cell (p := ⟨w.heap.size, 0, none⟩) (u := .int .i64 u) (by first | simp [go_sem] | simp [go_sem, *]); have bf0 := he1.frozen (p := ⟨w.heap.size, 0, none⟩) (by first | omega | (simp <;> omega)) (by first | simp [go_sem] | simp [go_sem, *]); have bc1 := he1.cell (p := ⟨w.heap.size, 1, none⟩) (u := .slice C nc dc) (by first | simp [go_sem] | simp [go_sem, *]); have bf1 := he1.frozen (p := ⟨w.heap.size, 1, none⟩) (by first | omega | (simp <;> omega)) (by first | simp [go_sem] | simp [go_sem, *])) | (go_at_call 91; (with_reducible refine (HI.out _ (by (repeat (first | with_reducible exact Ext.refl _ | with_reducible assumption | ((with_reducible refine Ext.setCell ?_ ?_ _); rotate_left; focus (first | omega | (simp <;> omega))) | with_reducible refine Ext.alloc ?_ _ | with_reducible refine Ext.drewN ?_ _ | with_reducible refine Ext.drew ?_ | with_reducible refine Ext.trans ?_ (by with_reducible assumption))))).mono ?_); rintro e2 w2 ⟨rfl, he2⟩))
    go_ret2
    exact ⟨rfl, by (repeat (first | with_reducible exact Ext.refl _ | with_reducible assumption | ((with_reducible refine Ext.setCell ?_ ?_ _); rotate_left; focus (first | omega | (simp <;> omega))) | with_reducible refine Ext.alloc ?_ _ | with_reducible refine Ext.drewN ?_ _ | with_reducible refine Ext.drew ?_ | with_reducible refine Ext.trans ?_ (by with_reducible assumption)))⟩
  · have hf : famB u cls W l = false := famB_big hu (by have := HL.out; omega)
    rw [hf]
    have h7d : decide ((n : Int) ≤ 729) = false := decide_eq_false (by omega)
    clear hn hc hf
    go_enter Try.func43, Try.ntmps43
    go_wp2_with (go_at_call 85; (with_reducible refine (HN.out _ (by (repeat (first | with_reducible exact Ext.refl _ | with_reducible assumption | ((with_reducible refine Ext.setCell ?_ ?_ _); rotate_left; focus (first | omega | (simp <;> omega))) | with_reducible refine Ext.alloc ?_ _ | with_reducible refine Ext.drewN ?_ _ | with_reducible refine Ext.drew ?_ | with_reducible refine Ext.trans ?_ (by with_reducible assumption))))).mono ?_); rintro e1 w1 ⟨rfl, he1⟩; have bc2 := he1.cell (p := ⟨w.heap.size, 0, none⟩) (u := .int .i64 u) (by first | simp [go_sem] | simp [go_sem, *]); have bf2 := he1.frozen (p := ⟨w.heap.size, 0, none⟩) (by first | omega | (simp <;> omega)) (by first | simp [go_sem] | simp [go_sem, *]); have bc3 := he1.cell (p := ⟨w.heap.size, 1, none⟩) (u := .slice C nc dc) (by first | simp [go_sem] | simp [go_sem, *]); have bf3 := he1.frozen (p := ⟨w.heap.size, 1, none⟩) (by first | omega | (simp <;> omega)) (by first | simp [go_sem] | simp [go_sem, *]))
    go_ret2
    exact ⟨rfl, by (repeat (first | with_reducible exact Ext.refl _ | with_reducible assumption | ((with_reducible refine Ext.setCell ?_ ?_ _); rotate_left; focus (first | omega | (simp <;> omega))) | with_reducible refine Ext.alloc ?_ _ | with_reducible refine Ext.drewN ?_ _ | with_reducible refine Ext.drew ?_ | with_reducible refine Ext.trans ?_ (by with_reducible assumption)))⟩
set_option maxRecDepth 100000 in
set_option maxHeartbeats 800000 in
theorem impl_IsFamily_c (v W : Int) (C : Option Addr) (nc dc : Nat) (cls : List (List Int)) (A : Option Addr) (n d : Nat) (l : List (List Int)) (w : World) (hcl : Intss w C nc cls) (h : IntssC w A n l) :
    Calls Try.prog 45 #[.agg #[.int .i64 v, .slice C nc dc], .int .i64 W, .slice A n d] w fun e w' => e = .returned (.tuple #[.bool (famR v W cls l), .bool (narOk v cls W)]) ∧ Ext w w' := by
  have HN := hide (fun Wd (E : Ext w Wd) => narrowOk_c v W C nc dc cls Wd (hcl.ext E))
  unfold famR
  cases hn : narOk v cls W
  · rw [hn] at HN; clear hn
    go_enter Try.func45, Try.ntmps45
    go_wp2_with (go_at_call 88; (with_reducible refine (HN.out _ (by (repeat (first | with_reducible exact Ext.refl _ | with_reducible assumption | ((with_reducible refine Ext.setCell ?_ ?_ _); rotate_left; focus (first | omega | (simp <;> omega))) | with_reducible refine Ext.alloc ?_ _ | with_reducible refine Ext.drewN ?_ _ | with_reducible refine Ext.drew ?_ | with_reducible refine Ext.trans ?_ (by with_reducible assumption))))).mono ?_); rintro e1 w1 ⟨rfl, he1⟩)
    go_ret2
    exact ⟨rfl, by (repeat (first | with_reducible exact Ext.refl _ | with_reducible assumption | ((with_reducible refine Ext.setCell ?_ ?_ _); rotate_left; focus (first | omega | (simp <;> omega))) | with_reducible refine Ext.alloc ?_ _ | with_reducible refine Ext.drewN ?_ _ | with_reducible refine Ext.drew ?_ | with_reducible refine Ext.trans ?_ (by with_reducible assumption)))⟩
  rw [hn] at HN
  obtain ⟨u, rfl, hu⟩ := nar_nat hn
  obtain ⟨-, -, hW, hc⟩ := nar_facts hn
  rw [show ((u : Nat) : Int).toNat = u by omega]
  have HI := hide (fun Wd (E : Ext w Wd) => isFamily_c u W C nc dc cls A n d l Wd (h.rd.ext E) (hcl.ext E) hc hW hu)
  generalize famB u cls W l = r at HI ⊢
  clear hn hc
  go_enter Try.func45, Try.ntmps45
  go_wp2_with (first | (go_at_call 88; (with_reducible refine (HN.out _ (by (repeat (first | with_reducible exact Ext.refl _ | with_reducible assumption | ((with_reducible refine Ext.setCell ?_ ?_ _); rotate_left; focus (first | omega | (simp <;> omega))) | with_reducible refine Ext.alloc ?_ _ | with_reducible refine Ext.drewN ?_ _ | with_reducible refine Ext.drew ?_ | with_reducible refine Ext.trans ?_ (by with_reducible assumption))))).mono ?_); rintro e1 w1 ⟨rfl, he1⟩; have bc4 := he1.cell (p := ⟨w.heap.size, 0, none⟩) (u := .int .i64 u) (by first | simp [go_sem] | simp [go_sem, *]); have bf4 := he1.frozen (p := ⟨w.heap.size, 0, none⟩) (by first | omega | (simp <;> omega)) (by first | simp [go_sem] | simp [go_sem, *]); have bc5 := he1.cell (p := ⟨w.heap.size, 1, none⟩) (u := .slice C nc dc) (by first | simp [go_sem] | simp [go_sem, *]); have bf5 := he1.frozen (p := ⟨w.heap.size, 1, none⟩) (by first | omega | (simp <;> omega)) (by first | simp [go_sem] | simp [go_sem, *])) | (go_at_call 92; (with_reducible refine (HI.out _ (by (repeat (first | with_reducible exact Ext.refl _ | with_reducible assumption | ((with_reducible refine Ext.setCell ?_ ?_ _); rotate_left; focus (first | omega | (simp <;> omega))) | with_reducible refine Ext.alloc ?_ _ | with_reducible refine Ext.drewN ?_ _ | with_reducible refine Ext.drew ?_ | with_reducible refine Ext.trans ?_ (by with_reducible assumption))))).mono ?_); rintro e2 w2 ⟨rfl, he2⟩))
  go_ret2
  exact ⟨rfl, by (repeat (first | with_reducible exact Ext.refl _ | with_reducible assumption | ((with_reducible refine Ext.setCell ?_ ?_ _); rotate_left; focus (first | omega | (simp <;> omega))) | with_reducible refine Ext.alloc ?_ _ | with_reducible refine Ext.drewN ?_ _ | with_reducible refine Ext.drew ?_ | with_reducible refine Ext.trans ?_ (by with_reducible assumption)))⟩
end Go.Proofs.Ytebklankehkmhaa
