/-
  What slices of moves read as, when a law's arguments hold them.
-/
import Derived.Test.YtialpmmdomhobaaLaw3
import Derived.Test.YtialpmmdomhobaaD3
namespace Go.Proofs.Ytialpmmdomhobaa
set_option linter.unusedSimpArgs false
set_option linter.unusedVariables false
open Go.ChangeShapes Go.WideShapes Go.ChangeAt Go.RowKit Go.Joins Go.Deep

section
variable {H : Type} {enc : TypeId × Value → H} {P : Program} {w : World} {held : Bool} {r : Reach} {b0 : Nat}
open Classical in
theorem moves_cells {t e ti : TypeId} {f0 f1 : Field} {fuel : Nat} {v : Value} {x : DataW H × List MemPlace} (ht : P.underlying t = some (.slice e)) (he : P.underlying e = some (.struct #[f0, f1])) (hone : oneCellFields P #[f0, f1] = true) (hC : P.cellsOf e = 2)
    (h0 : f0.type = ti) (h1 : f1.type = ti) (hi : P.underlying ti = some (.int .i64))
    (h : DataW.trod enc P w 0 (fun _ => true) held fuel t [v] = some x) : ∃ A n c gs, v = .slice A n c ∧ FlatA 2 w A n (flm gs) := by
  rcases fields_at ht he hone hC h with hcs | ⟨a, len, cap, hcs, hm, hf⟩
  · simp at hcs
    subst hcs
    exact ⟨none, 0, 0, [], rfl, rfl, by omega, fun h => absurd rfl h⟩
  · simp at hcs
    subst hcs
    have hint : ∀ j, j < len * 2 → ∃ z : Int, w.cell? (a.add j) = some (.int .i64 z) := by
      intro j hj
      have hq : j / 2 < len := by omega
      have hr : j % 2 = 0 ∨ j % 2 = 1 := by omega
      have hd : j = j / 2 * 2 + j % 2 := by omega
      have key : ∀ (k : Nat) (f : Field), #[f0, f1][k]? = some f → f.type = ti → j % 2 = k → ∃ z : Int, w.cell? (a.add j) = some (.int .i64 z) := by
        intro k f hk hft hjk
        obtain ⟨n, u, y, hcell, hy⟩ := hf (j / 2) hq k f hk
        rw [hft] at hy
        obtain ⟨z, hz, _, _⟩ := DataW.trod_int hi hy
        simp at hz
        subst hz
        refine ⟨z, ?_⟩
        have : j / 2 * 2 + k = j := by omega
        rw [← this]
        exact hcell
      rcases hr with hr | hr
      · exact key 0 f0 rfl h0 hr
      · exact key 1 f1 rfl h1 hr
    let zf : Nat → Int := fun j => if hj : j < len * 2 then Classical.choose (hint j hj) else 0
    have hzf : ∀ j, j < len * 2 → w.cell? (a.add j) = some (.int .i64 (zf j)) := by
      intro j hj
      show w.cell? (a.add j) = some (.int .i64 (if hj : j < len * 2 then Classical.choose (hint j hj) else 0))
      rw [dif_pos hj]
      exact Classical.choose_spec (hint j hj)
    have hfl : ∀ m, flm ((List.range m).map fun i => (zf (i * 2), zf (i * 2 + 1))) = (List.range (m * 2)).map zf := by
      intro m
      induction m with
      | zero => rfl
      | succ m ih =>
        rw [List.range_succ, List.map_append, flm_append, ih, show (m + 1) * 2 = m * 2 + 1 + 1 by omega, List.range_succ, List.range_succ]
        simp [flm]
    refine ⟨some a, len, cap, (List.range len).map fun i => (zf (i * 2), zf (i * 2 + 1)), rfl, by rw [hfl]; simp, by unfold maxLen at hm; omega, fun _ => ⟨a, rfl, fun j u hu => ?_⟩⟩
    rw [hfl, List.getElem?_map, List.getElem?_map, getElem?_range_if] at hu
    by_cases hj : j < len * 2
    · rw [if_pos hj] at hu
      simp at hu
      subst hu
      exact hzf j hj
    · rw [if_neg hj] at hu
      cases hu
theorem moves_open {t e ti : TypeId} {f0 f1 : Field} {v : Value} {d : DataW H} {p : List MemPlace} (ht : P.underlying t = some (.slice e)) (he : P.underlying e = some (.struct #[f0, f1])) (hone : oneCellFields P #[f0, f1] = true) (hC : P.cellsOf e = 2)
    (h0 : f0.type = ti) (h1 : f1.type = ti) (hi : P.underlying ti = some (.int .i64))
    (hv : Value.okWide P w r b0 t v) (h : DataW.Trod enc P w 0 (fun _ => true) held t v d p) : ∃ A n c gs, v = .slice A n c ∧ FlatA 2 w A n (flm gs) := by
  obtain ⟨a, n, c, rfl⟩ := okWide_slice ht hv
  obtain ⟨fuel, hf⟩ := h
  exact moves_cells ht he hone hC h0 h1 hi hf
end
end Go.Proofs.Ytialpmmdomhobaa
