/-
  The text of an inequality: plain, and the reference's; no condition.
-/
import Derived.Test.YtjlnlicojcfpiaaDoorT1
import Derived.Lib.Join
import Derived.Test.YtjlnlicojcfpiaaDoorC8
namespace Go.Proofs.YtjlnlicojcfpiaaDoor
set_option linter.unusedSimpArgs false
set_option linter.unusedVariables false
open Go.RowKit
/-- Joined so far, and the next one. -/
def joinNext (s sep t : List UInt8) : List UInt8 := if s = [] then t else s ++ sep ++ t
theorem joinTail_snoc (sep t : List UInt8) : ∀ r : List (List UInt8), Lib.joinTail sep (r ++ [t]) = Lib.joinTail sep r ++ (sep ++ t)
  | [] => by simp [Lib.joinTail]
  | x :: r => by simp [Lib.joinTail]
theorem join_ne {ws : List (List UInt8)} (sep : List UInt8) (hw : ∀ x ∈ ws, x ≠ []) (h : ws ≠ []) : Lib.join ws sep ≠ [] := by
  cases ws with
  | nil => exact absurd rfl h
  | cons x r =>
    rw [Lib.join_cons]
    intro e
    exact hw x (by simp) (List.append_eq_nil_iff.1 e).1
theorem join_snoc {ws : List (List UInt8)} (sep t : List UInt8) (hw : ∀ x ∈ ws, x ≠ []) : Lib.join (ws ++ [t]) sep = joinNext (Lib.join ws sep) sep t := by
  unfold joinNext
  cases ws with
  | nil => simp [Lib.join_nil, Lib.join_one]
  | cons x r =>
    rw [if_neg (join_ne sep hw (by simp)), List.cons_append, Lib.join_cons, Lib.join_cons, joinTail_snoc]
    simp
def termL (x : Int) (i : Nat) : List UInt8 := Lib.itoa x ++ [120] ++ Lib.itoa ((i : Int) + 1)
theorem termL_ne (x : Int) (i : Nat) : termL x i ≠ [] := by unfold termL; simp
/-- The words of the first i coefficients. -/
def wordsTo (xs : List Int) : Nat → List (List UInt8)
  | 0 => []
  | i + 1 => wordsTo xs i ++ (if xs.getD i 0 = 0 then [] else [termL (xs.getD i 0) i])
theorem words_ne (xs : List Int) : ∀ i, ∀ x ∈ wordsTo xs i, x ≠ []
  | 0, x, h => by simp [wordsTo] at h
  | i + 1, x, h => by
    simp only [wordsTo, List.mem_append] at h
    rcases h with h | h
    · exact words_ne xs i x h
    · split at h
      · simp at h
      · simp at h; subst h; exact termL_ne _ _
theorem words_len (xs : List Int) : ∀ i, (wordsTo xs i).length ≤ i
  | 0 => by simp [wordsTo]
  | i + 1 => by
    have := words_len xs i
    simp only [wordsTo, List.length_append]
    split <;> simp <;> omega
theorem termL_len {x : Int} {i : Nat} (hx : -1000 ≤ x ∧ x ≤ 1000) (hi : i ≤ 12) : (termL x i).length ≤ 2000 := by
  unfold termL
  have h1 := itoa_len x
  have h2 := itoa_len ((i : Int) + 1)
  simp only [List.length_append, List.length_cons, List.length_nil]; omega
def bodyTo (xs : List Int) (i : Nat) : List UInt8 := Lib.join (wordsTo xs i) [32]
theorem body_zero {xs : List Int} {i : Nat} {x : Int} (hx : xs[i]? = some x) (h : x = 0) : bodyTo xs (i + 1) = bodyTo xs i := by
  unfold bodyTo; simp only [wordsTo]; rw [getD_of (hide hx), if_pos h, List.append_nil]
theorem body_next {xs : List Int} {i : Nat} {x : Int} (hx : xs[i]? = some x) (h : x ≠ 0) : bodyTo xs (i + 1) = joinNext (bodyTo xs i) [32] (termL x i) := by
  unfold bodyTo; simp only [wordsTo]; rw [getD_of (hide hx), if_neg h, join_snoc [32] _ (words_ne xs i)]
theorem body_empty (xs : List Int) (i : Nat) : bodyTo xs i = [] ↔ wordsTo xs i = [] := by
  constructor
  · intro h
    cases e : wordsTo xs i with
    | nil => rfl
    | cons x r => exact absurd h (join_ne [32] (words_ne xs i) (by rw [e]; simp))
  · intro h; unfold bodyTo; rw [h]; rfl
theorem body_len {xs : List Int} (hx : ∀ x ∈ xs, -1000 ≤ x ∧ x ≤ 1000) : ∀ i, i ≤ 12 → i ≤ xs.length → (bodyTo xs i).length ≤ 2001 * i
  | 0, _, _ => by simp [bodyTo, wordsTo, Lib.join_nil]
  | i + 1, h, hl => by
    have ih := body_len hx i (by omega) (by omega)
    have hxi : xs[i]? = some (xs[i]'(by omega)) := List.getElem?_eq_getElem _
    by_cases h0 : xs[i]'(by omega) = 0
    · rw [body_zero hxi h0]; omega
    · rw [body_next hxi h0]
      have h1 := termL_len (i := i) (hx _ (List.mem_of_getElem? hxi)) (by omega)
      unfold joinNext
      split
      · omega
      · simp only [List.length_append, List.length_cons, List.length_nil]; omega
/-- The text of an inequality. -/
def textB (xs : List Int) (bd : Int) : List UInt8 := (if bodyTo xs xs.length = [] then [48] else bodyTo xs xs.length) ++ [32, 62, 61, 32] ++ Lib.itoa bd
def textP (v bd : Int) (xs : List Int) : List UInt8 := if ineqOk v bd xs then textB xs bd else []
end Go.Proofs.YtjlnlicojcfpiaaDoor
