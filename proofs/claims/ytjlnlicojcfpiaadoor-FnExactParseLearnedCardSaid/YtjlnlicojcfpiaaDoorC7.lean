/-
  slices.IndexFunc and ContainsFunc at []int, for whatever function value only reads.
-/
import Derived.Test.YtjlnlicojcfpiaaDoorC2
namespace Go.Proofs.YtjlnlicojcfpiaaDoor
set_option linter.unusedSimpArgs false
set_option linter.unusedVariables false
open Go.RowKit

/-- The first place where p holds, or -1. -/
def idxOf {α : Type} (p : α → Bool) : List α → Nat → Int
  | [], _ => -1
  | x :: xs, k => if p x then (k : Int) else idxOf p xs (k + 1)
/-- A function with a body: calling its value enters it. -/
def Enters (P : Program) (f : FuncId) : Prop := ∀ (args : Array Value) (w : World), (callFunc f args).run P w = .ok (.enter f args) w
theorem enters_of {P : Program} {f : FuncId} {fn : Func} (hf : P.funcs[f]? = some fn) (hname : (fn.name == "runtime.NumGoroutine") = false) (hb : fn.body.isNone = false) : Enters P f := by
  intro args w
  have h1 : fn.name ≠ "runtime.NumGoroutine" := by simpa using hname
  have h2 : fn.body ≠ none := by intro h; rw [h] at hb; simp at hb
  simp [callFunc, go_sem, hf, h1, h2]
theorem idxOf_drop {α : Type} {p : α → Bool} {xs : List α} {i : Nat} {x : α} (hx : Hid (xs[i]? = some x)) : idxOf p (xs.drop i) i = if p x then (i : Int) else idxOf p (xs.drop (i + 1)) (i + 1) := by
  have h := hx.out
  obtain ⟨hi, rfl⟩ := List.getElem?_eq_some_iff.1 h
  rw [List.drop_eq_getElem_cons hi]
  rfl
theorem idxOf_neg {α : Type} {p : α → Bool} (xs : List α) : ∀ k, (idxOf p xs k < 0 ↔ xs.any p = false) := by
  induction xs with
  | nil => intro k; simp [idxOf]
  | cons x xs ih =>
    intro k
    unfold idxOf
    cases hp : p x
    · simp [ih, hp]
    · simp [hp]

end Go.Proofs.YtjlnlicojcfpiaaDoor
