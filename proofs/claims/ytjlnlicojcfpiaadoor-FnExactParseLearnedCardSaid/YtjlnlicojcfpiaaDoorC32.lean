/-
  The laws' helpers over a cnf.
-/
import Derived.Test.YtjlnlicojcfpiaaDoorO
namespace Go.Proofs.YtjlnlicojcfpiaaDoor
set_option linter.unusedSimpArgs false
set_option linter.unusedVariables false
open Go.RowKit

theorem szCnf_fit (A : Option Addr) (n c : Nat) (left v : Int) (xss : List (List Int)) (w : World) (h : Intss w A n xss) (hl : 0 ≤ left ∧ left ≤ 1048576) (hf : (rowsSize xss : Int) ≤ left) :
    Calls Tryd.prog 4 #[.agg #[.int .i64 v, .slice A n c], .int .i64 left] w fun e w' => e = .returned (.int .i64 (left - rowsSize xss)) ∧ Ext w w' := by
  go_enter Tryd.func4, Tryd.ntmps4
  go_wp2_with (go_at_call 13; refine (szIntSS_fit _ _ _ _ xss _ (h.ext (by (repeat (first | with_reducible exact Ext.refl _ | with_reducible assumption | ((with_reducible refine Ext.setCell ?_ ?_ _); rotate_left; focus (first | omega | (simp <;> omega))) | with_reducible refine Ext.alloc ?_ _ | with_reducible refine Ext.drewN ?_ _ | with_reducible refine Ext.drew ?_ | with_reducible refine Ext.trans ?_ (by with_reducible assumption))))) hl hf).mono ?_; rintro e w1 ⟨rfl, he⟩)
  go_ret
  exact ⟨rfl, by (repeat (first | with_reducible exact Ext.refl _ | with_reducible assumption | ((with_reducible refine Ext.setCell ?_ ?_ _); rotate_left; focus (first | omega | (simp <;> omega))) | with_reducible refine Ext.alloc ?_ _ | with_reducible refine Ext.drewN ?_ _ | with_reducible refine Ext.drew ?_ | with_reducible refine Ext.trans ?_ (by with_reducible assumption)))⟩
theorem szCnf_no (A : Option Addr) (n c : Nat) (left v : Int) (xss : List (List Int)) (w : World) (h : Intss w A n xss) (hl : 0 ≤ left ∧ left ≤ 1048576) (hf : left < (rowsSize xss : Int)) :
    Calls Tryd.prog 4 #[.agg #[.int .i64 v, .slice A n c], .int .i64 left] w fun e w' => e = .returned (.int .i64 (-1)) ∧ Ext w w' := by
  go_enter Tryd.func4, Tryd.ntmps4
  go_wp2_with (go_at_call 13; refine (szIntSS_no _ _ _ _ xss _ (h.ext (by (repeat (first | with_reducible exact Ext.refl _ | with_reducible assumption | ((with_reducible refine Ext.setCell ?_ ?_ _); rotate_left; focus (first | omega | (simp <;> omega))) | with_reducible refine Ext.alloc ?_ _ | with_reducible refine Ext.drewN ?_ _ | with_reducible refine Ext.drew ?_ | with_reducible refine Ext.trans ?_ (by with_reducible assumption))))) hl hf).mono ?_; rintro e w1 ⟨rfl, he⟩)
  go_ret
  exact ⟨rfl, by (repeat (first | with_reducible exact Ext.refl _ | with_reducible assumption | ((with_reducible refine Ext.setCell ?_ ?_ _); rotate_left; focus (first | omega | (simp <;> omega))) | with_reducible refine Ext.alloc ?_ _ | with_reducible refine Ext.drewN ?_ _ | with_reducible refine Ext.drew ?_ | with_reducible refine Ext.trans ?_ (by with_reducible assumption)))⟩
theorem toCnf_c (A : Option Addr) (n c : Nat) (v : Int) (xss : List (List Int)) (w : World) (h : Intss w A n xss) (hn : rowsSize xss ≤ 1048576) :
    Calls Tryd.prog 6 #[.agg #[.int .i64 v, .slice A n c]] w fun e w' =>
      ∃ A' c' us, e = .returned (.agg #[.int .i64 v, .slice A' n c']) ∧ OwnRows w' w.heap.size w'.heap.size 38 3 A' n c' xss us ∧ Ext w w' := by
  go_enter Tryd.func6, Tryd.ntmps6
  go_wp2_with (go_at_call 18; refine (toIntSS_c _ _ _ xss _ ?_ hn).mono ?_; exact h.ext (by (repeat (first | with_reducible exact Ext.refl _ | with_reducible assumption | ((with_reducible refine Ext.setCell ?_ ?_ _); rotate_left; focus (first | omega | (simp <;> omega))) | with_reducible refine Ext.alloc ?_ _ | with_reducible refine Ext.drewN ?_ _ | with_reducible refine Ext.drew ?_ | with_reducible refine Ext.trans ?_ (by with_reducible assumption)))); rintro e w1 ⟨A', c', us, rfl, ho, he⟩; have bc0 := he.cell (p := ⟨w.heap.size + 1, 0, none⟩) (u := .int .i64 0) (by first | simp [go_sem] | simp [go_sem, *]); have bf0 := he.frozen (p := ⟨w.heap.size + 1, 0, none⟩) (by first | omega | (simp <;> omega)) (by first | simp [go_sem] | simp [go_sem, *]); have bc1 := he.cell (p := ⟨w.heap.size + 1, 1, none⟩) (u := .slice none 0 0) (by first | simp [go_sem] | simp [go_sem, *]); have bf1 := he.frozen (p := ⟨w.heap.size + 1, 1, none⟩) (by first | omega | (simp <;> omega)) (by first | simp [go_sem] | simp [go_sem, *]); have bc2 := he.cell (p := ⟨w.heap.size + 1 + 1, 0, none⟩) (u := .int .i64 v) (by first | simp [go_sem] | simp [go_sem, *]); have bf2 := he.frozen (p := ⟨w.heap.size + 1 + 1, 0, none⟩) (by first | omega | (simp <;> omega)) (by first | simp [go_sem] | simp [go_sem, *]); have bc3 := he.cell (p := ⟨w.heap.size + 1 + 1, 1, none⟩) (u := .slice none 0 0) (by first | simp [go_sem] | simp [go_sem, *]); have bf3 := he.frozen (p := ⟨w.heap.size + 1 + 1, 1, none⟩) (by first | omega | (simp <;> omega)) (by first | simp [go_sem] | simp [go_sem, *]))
  refine bodyPost_ret (v := .agg #[.int .i64 v, .slice A' n c']) (by simp only [results, Tryd.results6]; simp [go_sem, *]) rfl ⟨_, _, us, rfl, ?_, ?_⟩
  · have := OwnRows.lower (OwnRows.setLow (OwnRows.setLow (OwnRows.setLow ho (p := ⟨w.heap.size + 1 + 1, 1, none⟩) (by first | omega | (simp <;> omega)) (.slice A' n c')) (p := ⟨w.heap.size + 1, 0, none⟩) (by first | omega | (simp <;> omega)) (.int .i64 v)) (p := ⟨w.heap.size + 1, 1, none⟩) (by first | omega | (simp <;> omega)) (.slice A' n c')) (lo' := w.heap.size) (by first | omega | (simp <;> omega))
    simpa [World.setCell] using this
  · exact Ext.setCell (Ext.setCell (Ext.setCell (Ext.trans (by (repeat (first | with_reducible exact Ext.refl _ | with_reducible assumption | ((with_reducible refine Ext.setCell ?_ ?_ _); rotate_left; focus (first | omega | (simp <;> omega))) | with_reducible refine Ext.alloc ?_ _ | with_reducible refine Ext.drewN ?_ _ | with_reducible refine Ext.drew ?_ | with_reducible refine Ext.trans ?_ (by with_reducible assumption)))) he) (by first | omega | (simp <;> omega)) _) (by first | omega | (simp <;> omega)) _) (by first | omega | (simp <;> omega)) _
theorem toCnf_o (A : Option Addr) (n c : Nat) (v : Int) (xss : List (List Int)) (w : World) (h : Intss w A n xss) (hn : rowsSize xss ≤ 1048576) :
    Calls Tryd.prog 6 #[.agg #[.int .i64 v, .slice A n c]] w fun e w' => ∃ A' c', e = .returned (.agg #[.int .i64 v, .slice A' n c']) ∧ ObR 38 3 w' w.heap.size w'.heap.size A' n c' xss ∧ Ext w w' :=
  (toCnf_c A n c v xss w h hn).mono fun _ _ ⟨A', c', us, he, ho, hx⟩ => ⟨A', c', he, ⟨⟨us, ho⟩, by omega⟩, hx⟩
theorem eqCnf_same (A B : Option Addr) (n c m d : Nat) (v : Int) (xss : List (List Int)) (w : World) (h : Intss w A n xss) (k : Intss w B m xss) :
    Calls Tryd.prog 9 #[.agg #[.int .i64 v, .slice A n c], .agg #[.int .i64 v, .slice B m d]] w fun e w' => e = .returned (.bool true) ∧ Ext w w' := by
  go_enter Tryd.func9, Tryd.ntmps9
  go_wp2_with (go_at_call 8; refine (eqIntSS_same _ _ _ _ _ _ xss _ ?_ ?_).mono ?_; exact h.ext (by (repeat (first | with_reducible exact Ext.refl _ | with_reducible assumption | ((with_reducible refine Ext.setCell ?_ ?_ _); rotate_left; focus (first | omega | (simp <;> omega))) | with_reducible refine Ext.alloc ?_ _ | with_reducible refine Ext.drewN ?_ _ | with_reducible refine Ext.drew ?_ | with_reducible refine Ext.trans ?_ (by with_reducible assumption)))); exact k.ext (by (repeat (first | with_reducible exact Ext.refl _ | with_reducible assumption | ((with_reducible refine Ext.setCell ?_ ?_ _); rotate_left; focus (first | omega | (simp <;> omega))) | with_reducible refine Ext.alloc ?_ _ | with_reducible refine Ext.drewN ?_ _ | with_reducible refine Ext.drew ?_ | with_reducible refine Ext.trans ?_ (by with_reducible assumption)))); rintro e w1 ⟨rfl, he⟩)
  go_ret
  exact ⟨rfl, by (repeat (first | with_reducible exact Ext.refl _ | with_reducible assumption | ((with_reducible refine Ext.setCell ?_ ?_ _); rotate_left; focus (first | omega | (simp <;> omega))) | with_reducible refine Ext.alloc ?_ _ | with_reducible refine Ext.drewN ?_ _ | with_reducible refine Ext.drew ?_ | with_reducible refine Ext.trans ?_ (by with_reducible assumption)))⟩
theorem markCnf_o (A : Option Addr) (n c lo hi : Nat) (k v : Int) (xss : List (List Int)) (w : World) (h : ObR 38 3 w lo hi A n c xss) (hk : 0 ≤ k ∧ k ≤ 70368744177664) :
    Calls Tryd.prog 10 #[.agg #[.int .i64 v, .slice A n c], .int .i64 k] w fun e w' => e = .returned (.int .i64 (k + rowsTotal xss)) ∧ ObR 38 3 w' lo hi A n c (markRows k xss) ∧ Touch lo hi w w' := by
  obtain ⟨us, ho0⟩ := h.own
  have hsm := h.small
  have HS := hide hsm
  clear hsm
  go_enter Tryd.func10, Tryd.ntmps10
  go_wp2_with (go_at_call 11; refine (markIntSS_c _ _ _ lo hi _ xss us _ ?_ HS.out hk).mono ?_; exact ho0.ext (by (repeat (first | with_reducible exact Ext.refl _ | with_reducible assumption | ((with_reducible refine Ext.setCell ?_ ?_ _); rotate_left; focus (first | omega | (simp <;> omega))) | with_reducible refine Ext.alloc ?_ _ | with_reducible refine Ext.drewN ?_ _ | with_reducible refine Ext.drew ?_ | with_reducible refine Ext.trans ?_ (by with_reducible assumption)))); rintro e w1 ⟨rfl, ho, ht⟩)
  go_ret
  exact ⟨rfl, ⟨⟨us, ho⟩, by rw [rowsSize_mark]; exact HS.out⟩, (Ext.touch (show Ext w _ by (repeat (first | with_reducible exact Ext.refl _ | with_reducible assumption | ((with_reducible refine Ext.setCell ?_ ?_ _); rotate_left; focus (first | omega | (simp <;> omega))) | with_reducible refine Ext.alloc ?_ _ | with_reducible refine Ext.drewN ?_ _ | with_reducible refine Ext.drew ?_ | with_reducible refine Ext.trans ?_ (by with_reducible assumption)))) lo hi).trans ht⟩
end Go.Proofs.YtjlnlicojcfpiaaDoor
