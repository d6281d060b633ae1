/-
  The laws' helpers over a dag, and which lists of lists are dags.
-/
import Derived.Test.YtjlnlicojcfpiaaDoorC10
namespace Go.Proofs.YtjlnlicojcfpiaaDoor
set_option linter.unusedSimpArgs false
set_option linter.unusedVariables false
open Go.RowKit


/-- Place i of a rising list. -/
def riseAt (lo hi : Int) (xs : List Int) (i : Nat) : Bool := within (xs.getD i 0) lo hi && (i == 0 || decide (xs.getD (i - 1) 0 < xs.getD i 0))
def rising (lo hi : Int) (xs : List Int) : Bool := (List.range xs.length).all (riseAt lo hi xs)
theorem riseAt_no {lo hi : Int} {xs : List Int} {i : Nat} {x : Int} (hx : Hid (xs[i]? = some x)) (h : within x lo hi = false) : riseAt lo hi xs i = false := by
  simp [riseAt, List.getD_eq_getElem?_getD, hx.out, h]
theorem riseAt_first {lo hi : Int} {xs : List Int} {x : Int} (hx : Hid (xs[0]? = some x)) (h : within x lo hi = true) : riseAt lo hi xs 0 = true := by
  simp only [riseAt, List.getD_eq_getElem?_getD, hx.out, Option.getD_some, h]; rfl
theorem riseAt_next {lo hi : Int} {xs : List Int} {i : Nat} {x y : Int} (hi' : 0 < i) (hx : Hid (xs[i]? = some x)) (hy : Hid (xs[i - 1]? = some y)) (h : within x lo hi = true) : riseAt lo hi xs i = decide (y < x) := by
  have : (i == 0) = false := by simpa using Nat.pos_iff_ne_zero.1 hi'
  simp only [riseAt, List.getD_eq_getElem?_getD, hx.out, hy.out, Option.getD_some, h, this, Bool.true_and, Bool.false_or]
def dagRow (xss : List (List Int)) (x : Nat) : Bool := rising 0 ((x : Int) - 1) (xss.getD x [])
/-- Which lists of lists are dags. -/
def dagOk (xss : List (List Int)) : Bool := within xss.length 1 10 && (List.range xss.length).all (dagRow xss)
theorem dagRow_get {xss : List (List Int)} {x : Nat} {xs : List Int} (hx : Hid (xss[x]? = some xs)) : dagRow xss x = rising 0 ((x : Int) - 1) xs := by
  simp [dagRow, List.getD_eq_getElem?_getD, hx.out]

end Go.Proofs.YtjlnlicojcfpiaaDoor
