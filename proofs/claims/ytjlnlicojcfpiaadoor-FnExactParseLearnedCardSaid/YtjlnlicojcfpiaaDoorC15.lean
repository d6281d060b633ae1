/-
  slices.Contains at []int, slices.ContainsFunc at [][]int, l1Has; the sinks of a dag.
-/
import Derived.Test.YtjlnlicojcfpiaaDoorC14
import Derived.Test.YtjlnlicojcfpiaaDoorC7
namespace Go.Proofs.YtjlnlicojcfpiaaDoor
set_option linter.unusedSimpArgs false
set_option linter.unusedVariables false
open Go.RowKit

def hasInt (x : Int) (xs : List Int) : Bool := xs.any (· == x)
theorem any_false_take {α} {p : α → Bool} {xs : List α} {i : Nat} {x : α} (hx : Hid (xs[i]? = some x)) (h : Hid ((xs.take i).any p = false)) (hp : p x = false) : Hid ((xs.take (i + 1)).any p = false) := by
  unfold Hid; rw [take_succ_of hx, List.any_append, h.out]; simp [hp]
theorem any_true_of {α} {p : α → Bool} {xs : List α} {i : Nat} {x : α} (hx : Hid (xs[i]? = some x)) (hp : p x = true) : xs.any p = true := List.any_eq_true.2 ⟨x, List.mem_of_getElem? hx.out, hp⟩

def isSink (xss : List (List Int)) (x : Nat) : Bool := !xss.any (hasInt x)
theorem rising_mem {lo hi : Int} {xs : List Int} (h : rising lo hi xs = true) {z : Int} (hz : z ∈ xs) : lo ≤ z ∧ z ≤ hi := by
  obtain ⟨i, hi', he⟩ := List.mem_iff_getElem.1 hz
  have h1 := List.all_eq_true.1 h i (by simpa using hi')
  have h2 := (and2_true h1).1
  have h3 : xs.getD i 0 = z := by rw [List.getD_eq_getElem?_getD, List.getElem?_eq_getElem hi']; simpa using he
  rw [h3] at h2
  exact within_true h2
theorem dag_row {xss : List (List Int)} (h : dagOk xss = true) {i : Nat} {xs : List Int} (hx : xss[i]? = some xs) : rising 0 ((i : Int) - 1) xs = true := by
  have h1 := List.all_eq_true.1 (and2_true h).2 i (by have := (List.getElem?_eq_some_iff.1 hx).1; simpa using this)
  rwa [dagRow_get (hide hx)] at h1
theorem dag_low {xss : List (List Int)} (h : dagOk xss = true) (x : Nat) : (xss.take (x + 1)).any (hasInt x) = false := by
  rw [List.any_eq_false]
  intro xs hxs
  obtain ⟨i, hi, he⟩ := List.mem_iff_getElem.1 hxs
  have hi2 : i < x + 1 := by simp at hi; omega
  have hx : xss[i]? = some xs := by
    rw [List.getElem_take] at he
    rw [List.getElem?_eq_getElem (by simp at hi; omega), he]
  have hr := dag_row h hx
  simp only [hasInt, List.any_eq_true, not_exists, not_and]
  intro z hz hzx
  have := rising_mem hr hz
  simp at hzx
  omega
end Go.Proofs.YtjlnlicojcfpiaaDoor
