/-
  Codes of assignments: what the reference's and the program's functions compute.
-/
import Derived.Test.YtjlnlicojcfpiaaDoorC2
namespace Go.Proofs.YtjlnlicojcfpiaaDoor
set_option linter.unusedSimpArgs false
set_option linter.unusedVariables false
open Go.RowKit


/-- The code of a list of literals. -/
def digit (l : Int) : Nat := (if 0 < l then 2 else 1) * pow3 (l.natAbs - 1)
def codeOf (c : List Int) : Nat := (c.map digit).sum
theorem codeOf_succ {c : List Int} {i : Nat} {x : Int} (hx : Hid (c[i]? = some x)) : codeOf (c.take (i + 1)) = codeOf (c.take i) + digit x := by
  rw [take_succ_of hx]; simp [codeOf]
theorem codeOf_all {c : List Int} {i : Nat} (h : c.length ≤ i) : codeOf (c.take i) = codeOf c := by rw [List.take_of_length_le h]
theorem digit_pos (m : Nat) : digit ((m + 1 : Nat) : Int) = 2 * pow3 m := by
  unfold digit; rw [if_pos (by omega), show (((m + 1 : Nat) : Int)).natAbs - 1 = m by omega]
theorem digit_neg (m : Nat) : digit (-((m + 1 : Nat) : Int)) = pow3 m := by
  unfold digit; rw [if_neg (by omega), show (-((m + 1 : Nat) : Int)).natAbs - 1 = m by omega]; omega
theorem digit_le {l : Int} (h : -6 ≤ l ∧ l ≤ 6 ∧ l ≠ 0) : digit l ≤ 486 := by
  have h1 : l.natAbs - 1 ≤ 5 := by omega
  have h2 := pow3_mono h1
  have h3 : pow3 5 = 243 := rfl
  unfold digit
  split <;> omega
theorem codeOf_le {c : List Int} (h : ∀ x ∈ c, -6 ≤ x ∧ x ≤ 6 ∧ x ≠ 0) (k : Nat) : codeOf (c.take k) ≤ 486 * k := by
  induction k with
  | zero => simp [codeOf]
  | succ k ih =>
    by_cases hk : k < c.length
    · have hx : Hid (c[k]? = some c[k]) := hide (List.getElem?_eq_getElem hk)
      rw [codeOf_succ hx]
      have := digit_le (h _ (List.getElem_mem hk))
      omega
    · rw [codeOf_all (by omega)]
      rw [codeOf_all (by omega)] at ih
      omega
end Go.Proofs.YtjlnlicojcfpiaaDoor
