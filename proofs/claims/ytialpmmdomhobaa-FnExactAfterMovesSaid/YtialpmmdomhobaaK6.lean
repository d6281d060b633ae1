/-
  A gate with other indices: by a list, and by a function value.
-/
import Derived.Test.YtialpmmdomhobaaK5
namespace Go.Proofs.Ytialpmmdomhobaa
set_option linter.unusedSimpArgs false
set_option linter.unusedVariables false
open Go.RowKit

theorem moveG_4 (f : Int → Int) (a b : Int) : moveG f (4, a, b) = (4, f a, b) := by simp [moveG]
theorem moveG_5 (f : Int → Int) (a b : Int) : moveG f (5, a, b) = (5, f a, f b) := by simp [moveG]
theorem moveG_6 (f : Int → Int) (a b : Int) : moveG f (6, a, b) = (6, f a, f b) := by simp [moveG]
theorem moveG_no (f : Int → Int) (k a b : Int) (h4 : k ≠ 4) (h5 : k ≠ 5) (h6 : k ≠ 6) : moveG f (k, a, b) = (k, a, b) := by simp [moveG, h4, h5, h6]
/-- The value of a gate. -/
abbrev gv (g : Gt) : Value := .agg #[.int .i64 g.1, .int .i64 g.2.1, .int .i64 g.2.2]
theorem Ints.get {w : World} {A : Option Addr} {n : Nat} {xs : List Int} (h : Ints w A n xs) {j : Nat} {x : Int} (hx : xs[j]? = some x) : ∃ ad, A = some ad ∧ w.cell? (ad.add j) = some (.int .i64 x) ∧ j < n := by
  have hj := (List.getElem?_eq_some_iff.1 hx).1
  obtain ⟨ad, e, hc⟩ := h.reads (by intro hh; have := congrArg List.length hh; simp at this; subst this; simp at hj)
  exact ⟨ad, e, hc j _ (get_map_int hx), by have := h.len; omega⟩
end Go.Proofs.Ytialpmmdomhobaa
