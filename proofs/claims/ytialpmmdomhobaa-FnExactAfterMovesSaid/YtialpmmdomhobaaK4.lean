/-
  The values of a circuit's gates: both texts reckon the same list.
-/
import Derived.Test.YtialpmmdomhobaaK3
import Derived.Test.YtialpmmdomhobaaC8
namespace Go.Proofs.Ytialpmmdomhobaa
set_option linter.unusedSimpArgs false
set_option linter.unusedVariables false
open Go.RowKit

theorem info_bool : (Try.prog.info? 4).map (fun i => (i.zero, i.size, i.bytes)) = some (some (.bool false), 1, 1) := by kernel_rfl
theorem get_map_bool {xs : List Bool} {i : Nat} {x : Bool} (hx : xs[i]? = some x) : (xs.map Value.bool)[i]? = some (.bool x) := by rw [List.getElem?_map, hx]; rfl
theorem set_map_bool (xs : List Bool) (i : Nat) (x : Bool) : (xs.map Value.bool).set i (.bool x) = (xs.set i x).map Value.bool := by rw [List.map_set]
theorem gets_bool {xs : List Bool} {p : Nat} (h : p < xs.length) : ∃ x, xs.getD p false = x ∧ xs[p]? = some x := ⟨_, rfl, by rw [List.getD_eq_getElem?_getD, List.getElem?_eq_getElem h]; rfl⟩
theorem gvals_next {bt : Nat} {gs : List Gt} {i : Nat} {g : Gt} (hx : Hid (gs[i]? = some g)) : gvals bt gs (i + 1) = gvals bt gs i ++ [gval bt (gvals bt gs i) g] := by simp only [gvals, getD_of hx]
theorem set_front {α} (xs : List α) (z v : α) (m : Nat) : (xs ++ List.replicate (m + 1) z).set xs.length v = (xs ++ [v]) ++ List.replicate m z := by
  rw [List.set_append_right _ _ (Nat.le_refl _)]; simp [List.replicate_succ]
theorem Own.frontSet {w : World} {base g n c : Nat} {e : TypeId} {xs ys : List Bool} {m : Nat} (h : Own w base e 1 (some ⟨g, 0, none⟩) n c ((xs ++ List.replicate (m + 1) false).map Value.bool)) (v : Bool) (j : Nat) (hy : Hid (ys = xs ++ [v])) (hj : Hid (xs.length = j)) :
    Own (w.setCell ⟨g, j, none⟩ (.bool v)) base e 1 (some ⟨g, 0, none⟩) n c ((ys ++ List.replicate m false).map Value.bool) := by
  have h1 := h.store j (.bool v)
  rw [set_map_bool, ← hj.out, set_front, ← hy.out, hj.out] at h1
  exact h1
theorem Own.frontSkip {w : World} {base g n c : Nat} {e : TypeId} {xs ys : List Bool} {m : Nat} (h : Own w base e 1 (some ⟨g, 0, none⟩) n c ((xs ++ List.replicate (m + 1) false).map Value.bool)) (hy : Hid (ys = xs ++ [false])) :
    Own w base e 1 (some ⟨g, 0, none⟩) n c ((ys ++ List.replicate m false).map Value.bool) := by
  have h1 := hy.out
  rw [h1, List.append_assoc]
  simpa [List.replicate_succ] using h
theorem get_front {xs : List Bool} {p : Nat} {x : Bool} {ys : List Bool} (h : xs[p]? = some x) : (xs ++ ys)[p]? = some x := by
  rw [List.getElem?_append_left (List.getElem?_eq_some_iff.1 h).1, h]
theorem get_mid {xs : List Bool} {i m : Nat} (h : xs.length = i) : (xs ++ List.replicate (m + 1) false)[i]? = some false := by
  subst h; simp [List.replicate_succ]
end Go.Proofs.Ytialpmmdomhobaa
