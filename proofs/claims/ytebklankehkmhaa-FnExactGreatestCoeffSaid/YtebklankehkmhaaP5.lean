/-
  The program's planeDue; no condition. (the six kinds are still to come)
-/
import Derived.Test.YtebklankehkmhaaP4
namespace Go.Proofs.Ytebklankehkmhaa
set_option linter.unusedSimpArgs false
set_option linter.unusedVariables false
open Go.RowKit
set_option maxRecDepth 100000 in
set_option maxHeartbeats 1600000 in

theorem planeDue_other (v : Int) (C : Option Addr) (nc dc : Nat) (A : Option Addr) (n c k : Nat) (ss : List Ps) (w : World) (h : Steps w A n ss) (hk : k < n) (hn : n ≤ 400) (hss : ss.length = n)
    (h1 : (ss.getD k ps0).2.2.1 ≠ 1) (h2 : (ss.getD k ps0).2.2.1 ≠ 2) (h3 : (ss.getD k ps0).2.2.1 ≠ 3) (h4 : (ss.getD k ps0).2.2.1 ≠ 4) (h5 : (ss.getD k ps0).2.2.1 ≠ 5) (h6 : (ss.getD k ps0).2.2.1 ≠ 6) :
    Calls Try.prog 129 #[.agg #[.int .i64 v, .slice C nc dc], .slice A n c, .int .i64 k] w fun e w' => GivesP e w' none ∧ Ext w w' := by
  obtain ⟨g, xs, m, B, e, bd, kd, a, b, q, rfl, hx, c0, hin, c1, c2, c3, c4, c5⟩ := h.at_ hk
  have hD : ss.getD k ps0 = (xs, bd, kd, a, b, q) := getD_of hx
  rw [hD] at h1 h2 h3 h4 h5 h6
  simp only at h1 h2 h3 h4 h5 h6
  have HB := hide (fun W (i : Int) (E : Ext w W) => planeBefore_c v C nc dc (some ⟨g, 0, none⟩) n c k i ss W (h.ext E) (by omega) hn)
  clear hD hx hss
  have d0 := ((((Ext.refl w).alloc (.cells #[.int .i64 v, .slice C nc dc] 41)).alloc (.cells #[.slice none 0 0, .int .i64 0] 26))).cell c0
  have d1 := ((((Ext.refl w).alloc (.cells #[.int .i64 v, .slice C nc dc] 41)).alloc (.cells #[.slice none 0 0, .int .i64 0] 26))).cell c1
  have d2 := ((((Ext.refl w).alloc (.cells #[.int .i64 v, .slice C nc dc] 41)).alloc (.cells #[.slice none 0 0, .int .i64 0] 26))).cell c2
  have d3 := ((((Ext.refl w).alloc (.cells #[.int .i64 v, .slice C nc dc] 41)).alloc (.cells #[.slice none 0 0, .int .i64 0] 26))).cell c3
  have d4 := ((((Ext.refl w).alloc (.cells #[.int .i64 v, .slice C nc dc] 41)).alloc (.cells #[.slice none 0 0, .int .i64 0] 26))).cell c4
  have d5 := ((((Ext.refl w).alloc (.cells #[.int .i64 v, .slice C nc dc] 41)).alloc (.cells #[.slice none 0 0, .int .i64 0] 26))).cell c5
  go_enter Try.func129, Try.ntmps129
  go_wp2_with fail
  refine (HB.out _ _ (by (repeat (first | with_reducible exact Ext.refl _ | with_reducible assumption | ((with_reducible refine Ext.setCell ?_ ?_ _); rotate_left; focus (first | omega | (simp <;> omega))) | with_reducible refine Ext.alloc ?_ _ | with_reducible refine Ext.drewN ?_ _ | with_reducible refine Ext.drew ?_ | with_reducible refine Ext.trans ?_ (by with_reducible assumption))))).mono ?_
  rintro e1 w1 ⟨⟨A1, m1, k1, b1, rfl, hp1⟩, he1⟩
  replace hp1 := hide hp1
  have z1 : w.heap.size + 2 < w1.heap.size := by have := he1.size; simp at this; omega
  have bc0 := he1.cell (p := ⟨w.heap.size, 0, none⟩) (u := .int .i64 v) (by first | simp [go_sem] | simp [go_sem, *]); have bf0 := he1.frozen (p := ⟨w.heap.size, 0, none⟩) (by first | omega | (simp <;> omega)) (by first | simp [go_sem] | simp [go_sem, *]); have bc1 := he1.cell (p := ⟨w.heap.size, 1, none⟩) (u := .slice C nc dc) (by first | simp [go_sem] | simp [go_sem, *]); have bf1 := he1.frozen (p := ⟨w.heap.size, 1, none⟩) (by first | omega | (simp <;> omega)) (by first | simp [go_sem] | simp [go_sem, *])
  have bc2 := he1.cell (p := ⟨w.heap.size + 1, 0, none⟩) (u := .slice none 0 0) (by first | simp [go_sem] | simp [go_sem, *]); have bf2 := he1.frozen (p := ⟨w.heap.size + 1, 0, none⟩) (by first | omega | (simp <;> omega)) (by first | simp [go_sem] | simp [go_sem, *]); have bc3 := he1.cell (p := ⟨w.heap.size + 1, 1, none⟩) (u := .int .i64 0) (by first | simp [go_sem] | simp [go_sem, *]); have bf3 := he1.frozen (p := ⟨w.heap.size + 1, 1, none⟩) (by first | omega | (simp <;> omega)) (by first | simp [go_sem] | simp [go_sem, *])
  have bc4 := he1.cell (p := ⟨w.heap.size + 2, 0, none⟩) (u := .slice B m e) (by first | simp [go_sem] | simp [go_sem, *]); have bf4 := he1.frozen (p := ⟨w.heap.size + 2, 0, none⟩) (by first | omega | (simp <;> omega)) (by first | simp [go_sem] | simp [go_sem, *]); have bc5 := he1.cell (p := ⟨w.heap.size + 2, 1, none⟩) (u := .int .i64 bd) (by first | simp [go_sem] | simp [go_sem, *]); have bf5 := he1.frozen (p := ⟨w.heap.size + 2, 1, none⟩) (by first | omega | (simp <;> omega)) (by first | simp [go_sem] | simp [go_sem, *]); have bc6 := he1.cell (p := ⟨w.heap.size + 2, 2, none⟩) (u := .int .i64 kd) (by first | simp [go_sem] | simp [go_sem, *]); have bf6 := he1.frozen (p := ⟨w.heap.size + 2, 2, none⟩) (by first | omega | (simp <;> omega)) (by first | simp [go_sem] | simp [go_sem, *]); have bc7 := he1.cell (p := ⟨w.heap.size + 2, 3, none⟩) (u := .int .i64 a) (by first | simp [go_sem] | simp [go_sem, *]); have bf7 := he1.frozen (p := ⟨w.heap.size + 2, 3, none⟩) (by first | omega | (simp <;> omega)) (by first | simp [go_sem] | simp [go_sem, *]); have bc8 := he1.cell (p := ⟨w.heap.size + 2, 4, none⟩) (u := .int .i64 b) (by first | simp [go_sem] | simp [go_sem, *]); have bf8 := he1.frozen (p := ⟨w.heap.size + 2, 4, none⟩) (by first | omega | (simp <;> omega)) (by first | simp [go_sem] | simp [go_sem, *]); have bc9 := he1.cell (p := ⟨w.heap.size + 2, 5, none⟩) (u := .int .i64 q) (by first | simp [go_sem] | simp [go_sem, *]); have bf9 := he1.frozen (p := ⟨w.heap.size + 2, 5, none⟩) (by first | omega | (simp <;> omega)) (by first | simp [go_sem] | simp [go_sem, *])
  have f0 := ((Ext.refl w1).alloc (.cells #[.slice A1 m1 k1, .int .i64 b1] 26)).cell bc0
  have f1 := ((Ext.refl w1).alloc (.cells #[.slice A1 m1 k1, .int .i64 b1] 26)).cell bc1
  have f2 := ((Ext.refl w1).alloc (.cells #[.slice A1 m1 k1, .int .i64 b1] 26)).cell bc2
  have f3 := ((Ext.refl w1).alloc (.cells #[.slice A1 m1 k1, .int .i64 b1] 26)).cell bc3
  have f6 := ((Ext.refl w1).alloc (.cells #[.slice A1 m1 k1, .int .i64 b1] 26)).cell bc6
  have f7 := ((Ext.refl w1).alloc (.cells #[.slice A1 m1 k1, .int .i64 b1] 26)).cell bc7
  have f8 := ((Ext.refl w1).alloc (.cells #[.slice A1 m1 k1, .int .i64 b1] 26)).cell bc8
  have f9 := ((Ext.refl w1).alloc (.cells #[.slice A1 m1 k1, .int .i64 b1] 26)).cell bc9
  go_wp2_with fail
  refine (HB.out _ _ (by (repeat (first | with_reducible exact Ext.refl _ | with_reducible assumption | ((with_reducible refine Ext.setCell ?_ ?_ _); rotate_left; focus (first | omega | (simp <;> omega))) | with_reducible refine Ext.alloc ?_ _ | with_reducible refine Ext.drewN ?_ _ | with_reducible refine Ext.drew ?_ | with_reducible refine Ext.trans ?_ (by with_reducible assumption))))).mono ?_
  rintro e2 w2 ⟨⟨A2, m2, k2, b2, rfl, hp2⟩, he2⟩
  replace hp2 := hide hp2
  have z2 : w1.heap.size < w2.heap.size := by have := he2.size; simp at this; omega
  have g0 := ((Ext.refl w2).alloc (.cells #[.slice A2 m2 k2, .int .i64 b2] 26)).cell (he2.cell f0)
  have g1 := ((Ext.refl w2).alloc (.cells #[.slice A2 m2 k2, .int .i64 b2] 26)).cell (he2.cell f1)
  have g2 := ((Ext.refl w2).alloc (.cells #[.slice A2 m2 k2, .int .i64 b2] 26)).cell (he2.cell f2)
  have g3 := ((Ext.refl w2).alloc (.cells #[.slice A2 m2 k2, .int .i64 b2] 26)).cell (he2.cell f3)
  have g6 := ((Ext.refl w2).alloc (.cells #[.slice A2 m2 k2, .int .i64 b2] 26)).cell (he2.cell f6)
  have g7 := ((Ext.refl w2).alloc (.cells #[.slice A2 m2 k2, .int .i64 b2] 26)).cell (he2.cell f7)
  have g8 := ((Ext.refl w2).alloc (.cells #[.slice A2 m2 k2, .int .i64 b2] 26)).cell (he2.cell f8)
  have g9 := ((Ext.refl w2).alloc (.cells #[.slice A2 m2 k2, .int .i64 b2] 26)).cell (he2.cell f9)
  have hbx : BoxAt (w2.alloc (.cells #[.slice A2 m2 k2, .int .i64 b2] 26)) (w.heap.size + 1) 26 #[.slice none 0 0, .int .i64 0] := by
    have h0 := BoxAt.made (w.alloc (.cells #[.int .i64 v, .slice C nc dc] 41)) #[.slice none 0 0, .int .i64 0] 26
    rw [show (w.alloc (.cells #[.int .i64 v, .slice C nc dc] 41)).heap.size = w.heap.size + 1 by simp] at h0
    exact ((((h0.ext ((Ext.refl _).alloc _)).ext he1).ext ((Ext.refl w1).alloc _)).ext he2).ext ((Ext.refl w2).alloc _)
  have q2 := hbx.frozen 0
  have q3 := hbx.frozen 1
  have EE : Hid (Ext w (w2.alloc (.cells #[.slice A2 m2 k2, .int .i64 b2] 26))) := hide (by (repeat (first | with_reducible exact Ext.refl _ | with_reducible assumption | ((with_reducible refine Ext.setCell ?_ ?_ _); rotate_left; focus (first | omega | (simp <;> omega))) | with_reducible refine Ext.alloc ?_ _ | with_reducible refine Ext.drewN ?_ _ | with_reducible refine Ext.drew ?_ | with_reducible refine Ext.trans ?_ (by with_reducible assumption))))
  go_wp2_with fail
  all_goals
    refine (?main : ∀ WW : World, BoxAt WW (w.heap.size + 1) 26 #[.slice none 0 0, .int .i64 0] → Ext w WW → bodyPost _ _ _ _ _ WW) _ ?_ ?_
    case main =>
      intro WW hbw hew
      have r0 := hbw.cell 0 (.slice none 0 0) rfl
      have r1 := hbw.cell 1 (.int .i64 0) rfl
      refine bodyPost_ret (v := .tuple #[.agg #[.slice none 0 0, .int .i64 0], .bool false]) (by simp only [results, Try.results129]; simp [go_sem, r0, r1]) rfl ⟨by exact ⟨_, _, _, _, rfl, fun p hp => by cases hp⟩, hew⟩
    · exact (hbx.set 0 _).set 1 _
    · exact (EE.out.setCell (p := ⟨w.heap.size + 1, 0, none⟩) (by simp) _).setCell (p := ⟨w.heap.size + 1, 1, none⟩) (by simp) _
end Go.Proofs.Ytebklankehkmhaa
