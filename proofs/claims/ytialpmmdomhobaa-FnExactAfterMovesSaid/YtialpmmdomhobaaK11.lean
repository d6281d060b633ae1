/-
  The gates' inputs; the reference's needed gates.
-/
import Derived.Test.YtialpmmdomhobaaK6
import Derived.Test.YtialpmmdomhobaaC14
namespace Go.Proofs.Ytialpmmdomhobaa
set_option linter.unusedSimpArgs false
set_option linter.unusedVariables false
open Go.RowKit

theorem insG_4 (a b : Int) : insG (4, a, b) = [a] := by simp [insG]
theorem insG_5 (a b : Int) : insG (5, a, b) = [a, b] := by simp [insG]
theorem insG_6 (a b : Int) : insG (6, a, b) = [a, b] := by simp [insG]
theorem insG_no (k a b : Int) (h4 : k ≠ 4) (h5 : k ≠ 5) (h6 : k ≠ 6) : insG (k, a, b) = [] := by simp [insG, h4, h5, h6]
theorem insG_le (g : Gt) : (insG g).length ≤ 2 := by unfold insG; split; · simp
                                                     · split <;> simp
/-- A slice of ints of the call's own, that reads as xs. -/
def OwnI (w : World) (base : Nat) (v : Value) (xs : List Int) : Prop := ∃ A n c, v = .slice A n c ∧ Hid (xs.length = n) ∧ Own w base 3 1 A n c (xs.map (Value.int .i64))
theorem OwnI.mk {w : World} {base : Nat} {A : Option Addr} {n c : Nat} {xs : List Int} (h : Own w base 3 1 A n c (xs.map (Value.int .i64))) : OwnI w base (.slice A n c) xs :=
  ⟨A, n, c, rfl, by have := h.len; simp at this; exact this, h⟩
theorem setT_take {m : List Bool} {ks : List Int} {p : Nat} {k : Int} (h : Hid (ks[p]? = some k)) : setT m (ks.take (p + 1)) = (setT m (ks.take p)).set k.toNat true := by
  rw [take_succ_of h]; simp [setT]
theorem setT_all {m : List Bool} {ks : List Int} {p : Nat} (h : ks.length ≤ p) : setT m (ks.take p) = setT m ks := by rw [List.take_of_length_le h]
theorem need0_cells (n : Nat) : ((List.replicate n (Value.bool false)).set (n - 1) (.bool true)) = (need0 n).map Value.bool := by
  unfold need0; rw [List.map_set]; simp
/-- The marks, in a slice of the call's own. -/
def OwnM (w : World) (base g n c : Nat) (m : List Bool) : Prop := Own w base 4 1 (some ⟨g, 0, none⟩) n c (m.map Value.bool)
end Go.Proofs.Ytialpmmdomhobaa
