/-
  PROVED: the walk of the law FnExactAssignmentOfCode: it returns true for every input.
-/
import Derived.Test.YtdlmemngclhlkaaC6
namespace Go.Proofs.Ytdlmemngclhlkaa
open Go.RowKit
theorem AssignmentOfCode_law (v l : Int) (w : World) :
    Calls Try.prog 7 #[.int .i64 v, .int .i64 l] w fun e w' => e = .returned (.bool true) ∧ Ext w w' := by
  have hs := fun w => spec_AssignmentOfCode_c v l w
  have hi := fun w => impl_AssignmentOfCode_c v l w
  generalize asgOf v l = xs at hs hi
  generalize asgCodeOk v l = ok at hs hi
  have HS := hide hs
  have HI := hide hi
  clear hs hi
  go_enter Try.func7, Try.ntmps7
  go_wp2_with fail
  refine (HS.out _).mono ?_
  rintro e w1 ⟨A, n, c, rfl, ho1, hn1, he1⟩
  have hw1 := ho1.ints (by omega)
  go_wp2_with fail
  refine (HI.out _).mono ?_
  rintro e w2 ⟨B, m, d, rfl, ho2, hn2, he2⟩
  go_wp2_with fail
  refine (eqIntS_same _ _ _ _ _ _ xs _ (ho2.ints (by omega)) (hw1.ext (by (repeat (first | exact Ext.refl _ | with_reducible assumption | refine Ext.setCell ?_ (by first | omega | (simp <;> omega)) _ | refine Ext.drewN ?_ _ | refine Ext.drew ?_ | refine Ext.alloc ?_ _ | refine Ext.trans ?_ (by with_reducible assumption)))))).mono ?_
  rintro e w3 ⟨rfl, he3⟩
  go_wp2_with fail
  have ho3 : Own w3 _ _ _ _ _ _ _ := ho2.ext (by (repeat (first | exact Ext.refl _ | with_reducible assumption | refine Ext.setCell ?_ (by first | omega | (simp <;> omega)) _ | refine Ext.drewN ?_ _ | refine Ext.drew ?_ | refine Ext.alloc ?_ _ | refine Ext.trans ?_ (by with_reducible assumption))))
  refine (markIntS_c _ _ _ _ _ xs _ ho3 (by omega) (by omega)).mono ?_
  rintro e w4 ⟨rfl, ho4, hg4⟩
  have t4 := ho2.hi (w' := w3) (by (repeat (first | exact Ext.refl _ | with_reducible assumption | refine Ext.setCell ?_ (by first | omega | (simp <;> omega)) _ | refine Ext.drewN ?_ _ | refine Ext.drew ?_ | refine Ext.alloc ?_ _ | refine Ext.trans ?_ (by with_reducible assumption)))) hg4
  have e4 : Ext w1 w4 := Ext.touched (by (repeat (first | exact Ext.refl _ | with_reducible assumption | refine Ext.setCell ?_ (by first | omega | (simp <;> omega)) _ | refine Ext.drewN ?_ _ | refine Ext.drew ?_ | refine Ext.alloc ?_ _ | refine Ext.trans ?_ (by with_reducible assumption)))) t4 (by simp)
  go_wp2_with fail
  refine (heldIntS_c _ _ _ _ _ (ho4.ints (by omega)) (by omega) (by omega)).mono ?_
  rintro e w5 ⟨rfl, he5⟩
  go_wp2_with fail
  refine (HI.out _).mono ?_
  rintro e w6 ⟨B', m', d', rfl, ho6, hn6, he6⟩
  go_wp2_with fail
  refine (eqIntS_same _ _ _ _ _ _ xs _ (ho6.ints (by omega)) (hw1.ext (by (repeat (first | exact Ext.refl _ | with_reducible assumption | refine Ext.setCell ?_ (by first | omega | (simp <;> omega)) _ | refine Ext.drewN ?_ _ | refine Ext.drew ?_ | refine Ext.alloc ?_ _ | refine Ext.trans ?_ (by with_reducible assumption)))))).mono ?_
  rintro e w7 ⟨rfl, he7⟩
  go_wp2_with fail
  have ho7 : Own w7 _ _ _ _ _ _ _ := ho4.ext (by (repeat (first | exact Ext.refl _ | with_reducible assumption | refine Ext.setCell ?_ (by first | omega | (simp <;> omega)) _ | refine Ext.drewN ?_ _ | refine Ext.drew ?_ | refine Ext.alloc ?_ _ | refine Ext.trans ?_ (by with_reducible assumption))))
  refine (heldIntS_c _ _ _ _ _ (ho7.ints (by omega)) (by omega) (by omega)).mono ?_
  rintro e w8 ⟨rfl, he8⟩
  go_wp2_with fail
  go_ret
  exact ⟨rfl, by (repeat (first | exact Ext.refl _ | with_reducible assumption | refine Ext.setCell ?_ (by first | omega | (simp <;> omega)) _ | refine Ext.drewN ?_ _ | refine Ext.drew ?_ | refine Ext.alloc ?_ _ | refine Ext.trans ?_ (by with_reducible assumption)))⟩
end Go.Proofs.Ytdlmemngclhlkaa
