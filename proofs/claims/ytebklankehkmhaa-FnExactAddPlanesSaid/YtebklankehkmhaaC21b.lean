/-
  A cell beside a box that two stores fill; no condition.
-/
import Derived.Test.YtebklankehkmhaaC21
namespace Go.Proofs.Ytebklankehkmhaa
set_option linter.unusedSimpArgs false
set_option linter.unusedVariables false
open Go.RowKit

theorem cell_two_other {w : World} {b0 b j : Nat} {u v c : Value} (hb : b0 ≠ b) (h : w.cell? ⟨b0, j, none⟩ = some c) : ((w.setCell ⟨b, 0, none⟩ u).setCell ⟨b, 1, none⟩ v).cell? ⟨b0, j, none⟩ = some c := by
  simp [go_sem, hb, h]
end Go.Proofs.Ytebklankehkmhaa
