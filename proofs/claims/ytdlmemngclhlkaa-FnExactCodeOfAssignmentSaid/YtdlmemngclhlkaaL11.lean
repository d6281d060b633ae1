/-
  PROVED: the walk of the law FnExactCodeOfAssignment: it returns true for every input.
-/
import Derived.Test.YtdlmemngclhlkaaC6
namespace Go.Proofs.Ytdlmemngclhlkaa
open Go.RowKit
theorem CodeOfAssignment_law (v : Int) (A : Option Addr) (n d : Nat) (xs : List Int) (w : World) (h : Ints w A n xs) :
    Calls Try.prog 11 #[.int .i64 v, .slice A n d] w fun e w' => e = .returned (.bool true) ∧ Ext w w' := by
  have hb := h.bound
  have hs := fun w A n d (h : Ints w A n xs) => spec_CodeOfAssignment_c v A n d xs w h
  have hi := fun w A n d (h : Ints w A n xs) => impl_CodeOfAssignment_c v A n d xs w h
  generalize codeAsg v xs = r at hs hi
  generalize codeAsgOk v xs = ok at hs hi
  have HS := hide hs
  have HI := hide hi
  clear hs hi
  by_cases hbig : n ≤ 1048576
  · go_enter Try.func11, Try.ntmps11
    go_wp2_with fail
    refine (toIntS_c _ _ _ xs _ h hbig).mono ?_
    rintro e w1 ⟨A1, d1, rfl, ho1, he1⟩
    go_wp2_with fail
    refine (HS.out _ _ _ _ (ho1.ints (by omega))).mono ?_
    rintro e w2 ⟨rfl, he2⟩
    go_wp2_with fail
    refine (toIntS_c _ _ _ xs _ (h.ext (by (repeat (first | exact Ext.refl _ | with_reducible assumption | refine Ext.setCell ?_ (by first | omega | (simp <;> omega)) _ | refine Ext.drewN ?_ _ | refine Ext.drew ?_ | refine Ext.alloc ?_ _ | refine Ext.trans ?_ (by with_reducible assumption))))) hbig).mono ?_
    rintro e w3 ⟨A3, d3, rfl, ho3, he3⟩
    go_wp2_with fail
    refine (HI.out _ _ _ _ (ho3.ints (by omega))).mono ?_
    rintro e w4 ⟨rfl, he4⟩
    go_wp2_with fail
    refine (toIntS_c _ _ _ xs _ (h.ext (by (repeat (first | exact Ext.refl _ | with_reducible assumption | refine Ext.setCell ?_ (by first | omega | (simp <;> omega)) _ | refine Ext.drewN ?_ _ | refine Ext.drew ?_ | refine Ext.alloc ?_ _ | refine Ext.trans ?_ (by with_reducible assumption))))) hbig).mono ?_
    rintro e w5 ⟨A5, d5, rfl, ho5, he5⟩
    go_wp2_with fail
    refine (eqIntS_same _ _ _ _ _ _ xs _ ((ho3.ints (by omega)).ext (by (repeat (first | exact Ext.refl _ | with_reducible assumption | refine Ext.setCell ?_ (by first | omega | (simp <;> omega)) _ | refine Ext.drewN ?_ _ | refine Ext.drew ?_ | refine Ext.alloc ?_ _ | refine Ext.trans ?_ (by with_reducible assumption))))) (ho5.ints (by omega))).mono ?_
    rintro e w6 ⟨rfl, he6⟩
    go_wp2_with fail
    go_ret
    exact ⟨rfl, by (repeat (first | exact Ext.refl _ | with_reducible assumption | refine Ext.setCell ?_ (by first | omega | (simp <;> omega)) _ | refine Ext.drewN ?_ _ | refine Ext.drew ?_ | refine Ext.alloc ?_ _ | refine Ext.trans ?_ (by with_reducible assumption)))⟩
  · go_enter Try.func11, Try.ntmps11
    go_wp2
    go_ret
    exact ⟨rfl, Ext.refl _⟩
end Go.Proofs.Ytdlmemngclhlkaa
