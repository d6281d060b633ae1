/-
  The program's isFamily; IsFamily on both sides; no condition.
-/
import Derived.Test.YtaigjmbhgpcalaaF10
import Derived.Test.YtaigjmbhgpcalaaF8

namespace Go.Proofs.Ytaigjmbhgpcalaa
set_option linter.unusedSimpArgs false
set_option linter.unusedVariables false
open Go.RowKit
end Go.Proofs.Ytaigjmbhgpcalaa

/-
  IsFamily on both sides; no condition.
-/
namespace Go.Proofs.Ytaigjmbhgpcalaa
set_option linter.unusedSimpArgs false
set_option linter.unusedVariables false
open Go.RowKit
def famR (v W : Int) (cls : List (List Int)) (l : List (List Int)) : Bool := narOk v cls W && famB v.toNat cls W l
theorem famB_big {v : Nat} {cls : List (List Int)} {W : Int} {l : List (List Int)} (hv : v ≤ 6) (h : 729 < l.length) : famB v cls W l = false := by
  cases hf : famB v cls W l
  · rfl
  · have := fam_len (and2_true hf).1 hv; omega
theorem nar_nat {v W : Int} {cls : List (List Int)} (h : narOk v cls W = true) : ∃ u : Nat, v = (u : Int) ∧ u ≤ 6 := by
  obtain ⟨-, h2, -, -⟩ := nar_facts h
  obtain ⟨u, rfl⟩ := int_nat h2.1
  exact ⟨u, rfl, by omega⟩
end Go.Proofs.Ytaigjmbhgpcalaa

/-
  MeetsFamily on both sides; no condition.
-/
namespace Go.Proofs.Ytaigjmbhgpcalaa
set_option linter.unusedSimpArgs false
set_option linter.unusedVariables false
open Go.RowKit
def negC (c a : List Int) : Bool := decide (clVal c a < 0)
def meetOk (v W : Int) (cls : List (List Int)) (l : List (List Int)) (c : List Int) : Bool := famR v W cls l && clauseOk v c
def meetR (v W : Int) (cls : List (List Int)) (l : List (List Int)) (c : List Int) : Bool := meetOk v W cls l c && !l.any (negC c)
theorem famR_len {v W : Int} {cls : List (List Int)} {l : List (List Int)} (h : famR v W cls l = true) : l.length ≤ 729 := by
  obtain ⟨h1, h2⟩ := and2_true h
  obtain ⟨u, rfl, hu⟩ := nar_nat h1
  rw [show ((u : Nat) : Int).toNat = u by omega] at h2
  exact fam_len (and2_true h2).1 hu
theorem clause_lits {v : Int} {c : List Int} (h : clauseOk v c = true) : ∀ x ∈ c, -12 ≤ x ∧ x ≤ 12 ∧ x ≠ 0 := by
  obtain ⟨h1, h2, _⟩ := clause_facts h
  intro x hx
  have := h2 x hx
  omega
end Go.Proofs.Ytaigjmbhgpcalaa
