/-
  IsAllowed on both sides; no condition.
-/
import Derived.Test.YtaigjmbhgpcalaaF1
import Derived.Test.YtaigjmbhgpcalaaF6

namespace Go.Proofs.Ytaigjmbhgpcalaa
set_option linter.unusedSimpArgs false
set_option linter.unusedVariables false
open Go.RowKit
def askB (v W : Int) (cls : List (List Int)) (a : List Int) : Bool := narOk v cls W && clauseOk v a
theorem nar_facts {v W : Int} {cls : List (List Int)} (h : narOk v cls W = true) : cnfOk v cls = true ∧ (0 ≤ v ∧ v ≤ 6) ∧ (0 ≤ W ∧ W ≤ 6) ∧ (∀ c ∈ cls, ∀ x ∈ c, -12 ≤ x ∧ x ≤ 12 ∧ x ≠ 0) := by
  obtain ⟨h1, h2⟩ := and2_true h
  obtain ⟨h3, h4⟩ := and2_true h2
  have h3 := of_decide_eq_true h3
  have h5 := cnf_facts h1
  exact ⟨h1, ⟨h5.1.1, h3⟩, within_true h4, fun c hc => (cnf_lits h1 c hc).2⟩
end Go.Proofs.Ytaigjmbhgpcalaa

/-
  The reference's l13Is; no condition.
-/
namespace Go.Proofs.Ytaigjmbhgpcalaa
set_option linter.unusedSimpArgs false
set_option linter.unusedVariables false
open Go.RowKit
theorem famAt_0 {v : Int} {cls : List (List Int)} {W : Int} {l : List (List Int)} {i : Nat} {xs : List Int} (hx : Hid (l[i]? = some xs)) (h : clauseOk v xs = false) : famAt v cls W l i = false := by
  unfold famAt; rw [getD_of hx, h]; rfl
theorem famAt_1 {v : Int} {cls : List (List Int)} {W : Int} {l : List (List Int)} {i : Nat} {xs : List Int} (hx : Hid (l[i]? = some xs)) (h : allowB cls W xs = false) : famAt v cls W l i = false := by
  unfold famAt; rw [getD_of hx, h, Bool.and_false]; rfl
theorem famAt_2 {v : Int} {cls : List (List Int)} {W : Int} {l : List (List Int)} {i : Nat} {xs : List Int} (hi : i = 0) (hx : Hid (l[i]? = some xs)) (h0 : clauseOk v xs = true) (h : allowB cls W xs = true) : famAt v cls W l i = true := by
  subst hi; unfold famAt; rw [getD_of hx, h, h0]; rfl
theorem famAt_3 {v : Int} {cls : List (List Int)} {W : Int} {l : List (List Int)} {i j : Nat} {xs ys : List Int} (hij : i = j + 1) (hx : Hid (l[i]? = some xs)) (hy : Hid (l[j]? = some ys)) (h0 : clauseOk v xs = true) (h : allowB cls W xs = true) : famAt v cls W l i = befC ys xs := by
  subst hij; unfold famAt; rw [getD_of hx, h, h0, show j + 1 - 1 = j by omega, getD_of hy]; simp
theorem clause_small {v : Nat} {c : List Int} (h : clauseOk v c = true) : Small c := by
  obtain ⟨hv, hr, _⟩ := clause_facts h
  intro x hx
  have := hr x hx
  omega
theorem fam_pre {v : Nat} {cls : List (List Int)} {W : Int} {l : List (List Int)} {i : Nat} (h : Hid ((List.range i).all (famAt v cls W l) = true)) {j : Nat} (hj : j < i) {xs : List Int} (hx : l[j]? = some xs) : clauseOk v xs = true := by
  have h1 := List.all_eq_true.1 h.out j (by simpa using hj)
  unfold famAt at h1
  rw [getD_of (hide hx)] at h1
  exact (and2_true (and2_true h1).1).1
end Go.Proofs.Ytaigjmbhgpcalaa
