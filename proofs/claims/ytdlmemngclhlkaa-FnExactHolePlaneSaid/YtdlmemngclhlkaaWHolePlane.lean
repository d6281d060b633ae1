/-
  PROVED: the walk of the law FnExactHolePlane: it returns true for every input.
-/
import Derived.Test.YtdlmemngclhlkaaC9
namespace Go.Proofs.Ytdlmemngclhlkaa
open Go.RowKit
theorem HolePlane_law (v l m0 : Int) (w : World) :
    Calls Try.prog 5 #[.int .i64 v, .int .i64 l, .int .i64 m0] w fun e w' => e = .returned (.bool true) ∧ Ext w w' := by
  have hs := fun w => spec_HolePlane_c v l m0 w
  have hi := fun w => impl_HolePlane_c v l m0 w
  generalize holeOf v l m0 = F at hs hi
  generalize holeOk v l m0 = ok at hs hi
  obtain ⟨xs, bd⟩ := F
  have HS := hide hs
  have HI := hide hi
  clear hs hi
  go_enter Try.func5, Try.ntmps5
  go_wp2_with fail
  refine (HS.out _).mono ?_
  rintro e w1 ⟨A, n, c, rfl, ho1, hn1, he1⟩
  have hw1 := ho1.ints (by omega)
  go_wp2_with fail
  refine (HI.out _).mono ?_
  rintro e w2 ⟨B, m, d, rfl, ho2, hn2, he2⟩
  have z2 : w1.heap.size < w2.heap.size := by have := he2.size; simp at this; omega
  have bc0 := he2.cell (p := ⟨w1.heap.size, 0, none⟩) (u := .slice A n c) (by first | simp [go_sem] | simp [go_sem, *]); have bf0 := he2.frozen (p := ⟨w1.heap.size, 0, none⟩) (by first | omega | (simp <;> omega)) (by first | simp [go_sem] | simp [go_sem, *]); have bc1 := he2.cell (p := ⟨w1.heap.size, 1, none⟩) (u := .int .i64 bd) (by first | simp [go_sem] | simp [go_sem, *]); have bf1 := he2.frozen (p := ⟨w1.heap.size, 1, none⟩) (by first | omega | (simp <;> omega)) (by first | simp [go_sem] | simp [go_sem, *])
  go_wp2_with fail
  -- g0 against w0
  refine (eqInequality_same _ _ _ _ _ _ _ xs _ ((ho2.ints (by omega)).ext (by (repeat (first | exact Ext.refl _ | with_reducible assumption | refine Ext.setCell ?_ (by first | omega | (simp <;> omega)) _ | refine Ext.drewN ?_ _ | refine Ext.drew ?_ | refine Ext.alloc ?_ _ | refine Ext.trans ?_ (by with_reducible assumption))))) (hw1.ext (by (repeat (first | exact Ext.refl _ | with_reducible assumption | refine Ext.setCell ?_ (by first | omega | (simp <;> omega)) _ | refine Ext.drewN ?_ _ | refine Ext.drew ?_ | refine Ext.alloc ?_ _ | refine Ext.trans ?_ (by with_reducible assumption)))))).mono ?_
  rintro e w3 ⟨rfl, he3⟩
  have z3 : w2.heap.size < w3.heap.size := by have := he3.size; simp at this; omega
  have z13 : w1.heap.size < w3.heap.size := by omega
  have bc2 := he3.cell (p := ⟨w2.heap.size, 0, none⟩) (u := .slice B m d) (by first | simp [go_sem] | simp [go_sem, *]); have bf2 := he3.frozen (p := ⟨w2.heap.size, 0, none⟩) (by first | omega | (simp <;> omega)) (by first | simp [go_sem] | simp [go_sem, *]); have bc3 := he3.cell (p := ⟨w2.heap.size, 1, none⟩) (u := .int .i64 bd) (by first | simp [go_sem] | simp [go_sem, *]); have bf3 := he3.frozen (p := ⟨w2.heap.size, 1, none⟩) (by first | omega | (simp <;> omega)) (by first | simp [go_sem] | simp [go_sem, *])
  have bc4 := he3.cell (p := ⟨w1.heap.size, 0, none⟩) (u := .slice A n c) (by first | simp [go_sem] | simp [go_sem, *]); have bf4 := he3.frozen (p := ⟨w1.heap.size, 0, none⟩) (by first | omega | (simp <;> omega)) (by first | simp [go_sem] | simp [go_sem, *]); have bc5 := he3.cell (p := ⟨w1.heap.size, 1, none⟩) (u := .int .i64 bd) (by first | simp [go_sem] | simp [go_sem, *]); have bf5 := he3.frozen (p := ⟨w1.heap.size, 1, none⟩) (by first | omega | (simp <;> omega)) (by first | simp [go_sem] | simp [go_sem, *])
  go_wp2_with fail
  -- mark
  have ho3 : Own w3 _ _ _ _ _ _ _ := ho2.ext (by (repeat (first | exact Ext.refl _ | with_reducible assumption | refine Ext.setCell ?_ (by first | omega | (simp <;> omega)) _ | refine Ext.drewN ?_ _ | refine Ext.drew ?_ | refine Ext.alloc ?_ _ | refine Ext.trans ?_ (by with_reducible assumption))))
  refine (markInequality_c _ _ _ _ _ _ xs _ ho3 (by omega) (by omega)).mono ?_
  rintro e w4 ⟨rfl, ho4, hg4⟩
  have t4 := ho2.hi (w' := w3) (by (repeat (first | exact Ext.refl _ | with_reducible assumption | refine Ext.setCell ?_ (by first | omega | (simp <;> omega)) _ | refine Ext.drewN ?_ _ | refine Ext.drew ?_ | refine Ext.alloc ?_ _ | refine Ext.trans ?_ (by with_reducible assumption)))) hg4
  have z4 : w2.heap.size < w4.heap.size := by have := t4.size; omega
  have z14 : w1.heap.size < w4.heap.size := by have := t4.size; omega
  have c4a := t4.cell (p := ⟨w2.heap.size, 0, none⟩) bc2 (by simp)
  have c4b := t4.cell (p := ⟨w2.heap.size, 1, none⟩) bc3 (by simp)
  have c4c := t4.cell (p := ⟨w1.heap.size, 0, none⟩) bc4 (by simp)
  have c4d := t4.cell (p := ⟨w1.heap.size, 1, none⟩) bc5 (by simp)
  have e4 : Ext w1 w4 := Ext.touched (by (repeat (first | exact Ext.refl _ | with_reducible assumption | refine Ext.setCell ?_ (by first | omega | (simp <;> omega)) _ | refine Ext.drewN ?_ _ | refine Ext.drew ?_ | refine Ext.alloc ?_ _ | refine Ext.trans ?_ (by with_reducible assumption)))) t4 (by simp)
  go_wp2_with fail
  refine (heldInequality_c _ _ _ _ _ _ (ho4.ints (by omega)) (by omega) (by omega)).mono ?_
  rintro e w5 ⟨rfl, he5⟩
  have z5 : w2.heap.size < w5.heap.size := by have := he5.size; omega
  have z15 : w1.heap.size < w5.heap.size := by have := he5.size; omega
  have c5a := he5.cell c4a
  have c5b := he5.cell c4b
  have c5c := he5.cell c4c
  have c5d := he5.cell c4d
  go_wp2_with fail
  refine (HI.out _).mono ?_
  rintro e w6 ⟨B', m', d', rfl, ho6, hn6, he6⟩
  have z6 : w2.heap.size < w6.heap.size := by have := he6.size; omega
  have z16 : w1.heap.size < w6.heap.size := by have := he6.size; omega
  have c6a := he6.cell c5a
  have c6b := he6.cell c5b
  have c6c := he6.cell c5c
  have c6d := he6.cell c5d
  go_wp2_with fail
  refine (eqInequality_same _ _ _ _ _ _ _ xs _ ((ho6.ints (by omega)).ext (by (repeat (first | exact Ext.refl _ | with_reducible assumption | refine Ext.setCell ?_ (by first | omega | (simp <;> omega)) _ | refine Ext.drewN ?_ _ | refine Ext.drew ?_ | refine Ext.alloc ?_ _ | refine Ext.trans ?_ (by with_reducible assumption))))) (hw1.ext (by (repeat (first | exact Ext.refl _ | with_reducible assumption | refine Ext.setCell ?_ (by first | omega | (simp <;> omega)) _ | refine Ext.drewN ?_ _ | refine Ext.drew ?_ | refine Ext.alloc ?_ _ | refine Ext.trans ?_ (by with_reducible assumption)))))).mono ?_
  rintro e w7 ⟨rfl, he7⟩
  have c7a := he7.cell (p := ⟨w2.heap.size, 0, none⟩) (u := .slice B m d) (by first | simp [go_sem] | simp [go_sem, *])
  have c7b := he7.cell (p := ⟨w2.heap.size, 1, none⟩) (u := .int .i64 bd) (by first | simp [go_sem] | simp [go_sem, *])
  go_wp2_with fail
  have ho7 : Own w7 _ _ _ _ _ _ _ := ho4.ext (by (repeat (first | exact Ext.refl _ | with_reducible assumption | refine Ext.setCell ?_ (by first | omega | (simp <;> omega)) _ | refine Ext.drewN ?_ _ | refine Ext.drew ?_ | refine Ext.alloc ?_ _ | refine Ext.trans ?_ (by with_reducible assumption))))
  refine (heldInequality_c _ _ _ _ _ _ (ho7.ints (by omega)) (by omega) (by omega)).mono ?_
  rintro e w8 ⟨rfl, he8⟩
  go_wp2_with fail
  go_ret
  exact ⟨rfl, by (repeat (first | exact Ext.refl _ | with_reducible assumption | refine Ext.setCell ?_ (by first | omega | (simp <;> omega)) _ | refine Ext.drewN ?_ _ | refine Ext.drew ?_ | refine Ext.alloc ?_ _ | refine Ext.trans ?_ (by with_reducible assumption)))⟩
end Go.Proofs.Ytdlmemngclhlkaa
