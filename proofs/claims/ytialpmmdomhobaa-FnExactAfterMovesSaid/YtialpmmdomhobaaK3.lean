/-
  Circuits: whether a gate is valid, whether gates are a circuit: both texts say the same.
-/
import Derived.Test.YtialpmmdomhobaaK2
namespace Go.Proofs.Ytialpmmdomhobaa
set_option linter.unusedSimpArgs false
set_option linter.unusedVariables false
open Go.RowKit

theorem gate_kinds (k : Int) : k = 1 ∨ k = 2 ∨ k = 3 ∨ k = 4 ∨ k = 5 ∨ k = 6 ∨ (k ≠ 1 ∧ k ≠ 2 ∧ k ≠ 3 ∧ k ≠ 4 ∧ k ≠ 5 ∧ k ≠ 6) := by omega
theorem dec_beq (b : Int) : decide (b = 0) = (b == 0) := by rw [Bool.eq_iff_iff]; simp
theorem gateAt_of {v : Int} {gs : List Gt} {i : Nat} {g : Gt} (h : Hid (gs[i]? = some g)) : gateB v i g = gateAt v gs i := by unfold gateAt; rw [getD_of h]
end Go.Proofs.Ytialpmmdomhobaa
