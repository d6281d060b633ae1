/-
  The code of an assignment and the assignment of a code: the exported functions of the reference and of the program.
-/
import Derived.Test.YtjlnlicojcfpiaaDoorC4
import Derived.Test.YtjlnlicojcfpiaaDoorC5
namespace Go.Proofs.YtjlnlicojcfpiaaDoor
set_option linter.unusedSimpArgs false
set_option linter.unusedVariables false
open Go.RowKit

theorem clause_facts {v : Int} {c : List Int} (h : clauseOk v c = true) : (0 ≤ v ∧ v ≤ 12) ∧ (∀ x ∈ c, -v ≤ x ∧ x ≤ v ∧ x ≠ 0) ∧ (c.length : Int) ≤ v := by
  obtain ⟨h1, h2⟩ := and2_true h
  have hv := within_true h1
  rw [List.all_eq_true] at h2
  have hat : ∀ i, (hi : i < c.length) → (-v ≤ c[i] ∧ c[i] ≤ v ∧ c[i] ≠ 0) := by
    intro i hi
    have h3 := h2 i (by simpa using hi)
    unfold litAt at h3
    obtain ⟨h4, _⟩ := and2_true h3
    rw [getD_of (hide (List.getElem?_eq_getElem hi))] at h4
    exact isLit_true h1 h4
  have habs : ∀ i, (hi : i < c.length) → (i : Int) + 1 ≤ absW c[i] := by
    intro i
    induction i with
    | zero =>
      intro hi
      have := hat 0 hi
      unfold absW wrap64
      split <;> omega
    | succ i ih =>
      intro hi
      have h3 := h2 (i + 1) (by simpa using hi)
      unfold litAt at h3
      obtain ⟨_, h5⟩ := and2_true h3
      rw [getD_of (hide (List.getElem?_eq_getElem hi)), show i + 1 - 1 = i by omega, getD_of (hide (List.getElem?_eq_getElem (show i < c.length by omega)))] at h5
      simp at h5
      have := ih (by omega)
      omega
  refine ⟨hv, ?_, ?_⟩
  · intro x hx
    obtain ⟨i, hi, rfl⟩ := List.getElem_of_mem hx
    exact hat i hi
  · rcases Nat.eq_zero_or_pos c.length with h0 | h0
    · omega
    · have h6 := habs (c.length - 1) (by omega)
      have h7 := hat (c.length - 1) (by omega)
      have : absW c[c.length - 1] ≤ v := by unfold absW wrap64; split <;> omega
      omega

def codeAsgOk (v : Int) (c : List Int) : Bool := within v 0 6 && clauseOk v c
def codeAsg (v : Int) (c : List Int) : Int := if codeAsgOk v c then (codeOf c : Int) else 0
def asgCodeOk (v c : Int) : Bool := within v 0 6 && within c 0 ((pow3 v.toNat : Int) - 1)
def asgOf (v c : Int) : List Int := if asgCodeOk v c then codeLits v.toNat 1 c.toNat else []
end Go.Proofs.YtjlnlicojcfpiaaDoor
