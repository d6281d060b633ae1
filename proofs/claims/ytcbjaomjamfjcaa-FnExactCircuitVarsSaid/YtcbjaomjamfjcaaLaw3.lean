/-
  What slices of structs of ints read as, when a law's arguments hold them.
-/
import Derived.Test.YtcbjaomjamfjcaaLaw2
import Derived.Test.YtcbjaomjamfjcaaK2
import Derived.Deep.Slices
import Derived.Deep.Fields
import Derived.ChangeSame
namespace Go.Proofs.Ytcbjaomjamfjcaa
set_option linter.unusedSimpArgs false
set_option linter.unusedVariables false
open Go.ChangeShapes Go.WideShapes Go.ChangeAt Go.RowKit Go.Joins Go.Deep

section
variable {H : Type} {enc : TypeId × Value → H} {P : Program} {w : World} {held : Bool} {r : Reach} {b0 : Nat}
/-- Each element's fields: a cell each. -/
theorem fields_at {t e : TypeId} {fs : Array Field} {fuel : Nat} {cs : List Value} {x : DataW H × List MemPlace} (ht : P.underlying t = some (.slice e)) (he : P.underlying e = some (.struct fs))
    (hone : oneCellFields P fs = true) (hC : P.cellsOf e = fs.size) (h : DataW.trod enc P w 0 (fun _ => true) held fuel t cs = some x) :
    cs = [.slice none 0 0] ∨
    ∃ (a : Addr) (len cap : Nat), cs = [.slice (some a) len cap] ∧ len ≤ maxLen ∧
      ∀ i, i < len → ∀ (j : Nat) (f : Field), fs[j]? = some f → ∃ (n : Nat) (v : Value) (y : DataW H × List MemPlace), w.cell? (a.add (i * fs.size + j)) = some v ∧ DataW.trod enc P w 0 (fun _ => true) held n f.type [v] = some y := by
  rcases open_slice ht h with ⟨h0, _⟩ | ⟨a, len, cap, m, n, D, Pl, hcs, hb, hl, hm, hmm, hx, hi⟩
  · exact .inl h0
  · refine .inr ⟨a, len, cap, hcs, by omega, fun i him j f hj => ?_⟩
    obtain ⟨cs', hc, ht'⟩ := hi i (by rw [hmm]; split <;> omega)
    rw [hC] at hc
    obtain ⟨ys, n', hn', hy, hlen, hyl, hf⟩ := DataW.trod_struct he ht'
    obtain ⟨_, hcl, hat⟩ := World.cells?_some hc
    obtain ⟨ho, hk⟩ := hone_of hone j f hj
    have hjl : j < fs.size := (Array.getElem?_eq_some_iff.1 hj).1
    have hcell := hat j hjl
    have hv : cs'[j]? = some (cs'[j]'(by omega)) := List.getElem?_eq_getElem (by omega)
    have h1 := hf j f hj
    rw [ho, hk] at h1
    have hone' : (cs'.drop j).take 1 = [cs'[j]'(by omega)] := by
      rw [List.drop_eq_getElem_cons (by omega)]
      rfl
    rw [hone'] at h1
    have hys : ys[j]? = some (ys[j]'(by omega)) := List.getElem?_eq_getElem (by omega)
    refine ⟨_, _, _, ?_, h1.trans hys⟩
    rw [← addr_add_add, hcell, hv]
open Classical in
theorem gates_cells {t e ti : TypeId} {f0 f1 f2 : Field} {fuel : Nat} {v : Value} {x : DataW H × List MemPlace} (ht : P.underlying t = some (.slice e)) (he : P.underlying e = some (.struct #[f0, f1, f2])) (hone : oneCellFields P #[f0, f1, f2] = true) (hC : P.cellsOf e = 3)
    (h0 : f0.type = ti) (h1 : f1.type = ti) (h2 : f2.type = ti) (hi : P.underlying ti = some (.int .i64))
    (h : DataW.trod enc P w 0 (fun _ => true) held fuel t [v] = some x) : ∃ A n c gs, v = .slice A n c ∧ FlatA 3 w A n (fl gs) := by
  rcases fields_at ht he hone hC h with hcs | ⟨a, len, cap, hcs, hm, hf⟩
  · simp at hcs
    subst hcs
    exact ⟨none, 0, 0, [], rfl, rfl, by omega, fun h => absurd rfl h⟩
  · simp at hcs
    subst hcs
    have hint : ∀ j, j < len * 3 → ∃ z : Int, w.cell? (a.add j) = some (.int .i64 z) := by
      intro j hj
      have hq : j / 3 < len := by omega
      have hr : j % 3 = 0 ∨ j % 3 = 1 ∨ j % 3 = 2 := by omega
      have hd : j = j / 3 * 3 + j % 3 := by omega
      have key : ∀ (k : Nat) (f : Field), #[f0, f1, f2][k]? = some f → f.type = ti → j % 3 = k → ∃ z : Int, w.cell? (a.add j) = some (.int .i64 z) := by
        intro k f hk hft hjk
        obtain ⟨n, u, y, hcell, hy⟩ := hf (j / 3) hq k f hk
        rw [hft] at hy
        obtain ⟨z, hz, _, _⟩ := DataW.trod_int hi hy
        simp at hz
        subst hz
        refine ⟨z, ?_⟩
        have : j / 3 * 3 + k = j := by omega
        rw [← this]
        exact hcell
      rcases hr with hr | hr | hr
      · exact key 0 f0 rfl h0 hr
      · exact key 1 f1 rfl h1 hr
      · exact key 2 f2 rfl h2 hr
    let zf : Nat → Int := fun j => if hj : j < len * 3 then Classical.choose (hint j hj) else 0
    have hzf : ∀ j, j < len * 3 → w.cell? (a.add j) = some (.int .i64 (zf j)) := by
      intro j hj
      show w.cell? (a.add j) = some (.int .i64 (if hj : j < len * 3 then Classical.choose (hint j hj) else 0))
      rw [dif_pos hj]
      exact Classical.choose_spec (hint j hj)
    have hfl : ∀ m, fl ((List.range m).map fun i => (zf (i * 3), zf (i * 3 + 1), zf (i * 3 + 2))) = (List.range (m * 3)).map zf := by
      intro m
      induction m with
      | zero => rfl
      | succ m ih =>
        rw [List.range_succ, List.map_append, fl_append, ih, show (m + 1) * 3 = m * 3 + 1 + 1 + 1 by omega, List.range_succ, List.range_succ, List.range_succ]
        simp [fl]
    refine ⟨some a, len, cap, (List.range len).map fun i => (zf (i * 3), zf (i * 3 + 1), zf (i * 3 + 2)), rfl, by rw [hfl]; simp, by unfold maxLen at hm; omega, fun _ => ⟨a, rfl, fun j u hu => ?_⟩⟩
    rw [hfl, List.getElem?_map, List.getElem?_map, getElem?_range_if] at hu
    by_cases hj : j < len * 3
    · rw [if_pos hj] at hu
      simp at hu
      subst hu
      exact hzf j hj
    · rw [if_neg hj] at hu
      cases hu
theorem gates_open {t e ti : TypeId} {f0 f1 f2 : Field} {v : Value} {d : DataW H} {p : List MemPlace} (ht : P.underlying t = some (.slice e)) (he : P.underlying e = some (.struct #[f0, f1, f2])) (hone : oneCellFields P #[f0, f1, f2] = true) (hC : P.cellsOf e = 3)
    (h0 : f0.type = ti) (h1 : f1.type = ti) (h2 : f2.type = ti) (hi : P.underlying ti = some (.int .i64))
    (hv : Value.okWide P w r b0 t v) (h : DataW.Trod enc P w 0 (fun _ => true) held t v d p) : ∃ A n c gs, v = .slice A n c ∧ FlatA 3 w A n (fl gs) := by
  obtain ⟨a, n, c, rfl⟩ := okWide_slice ht hv
  obtain ⟨fuel, hf⟩ := h
  exact gates_cells ht he hone hC h0 h1 h2 hi hf
end
end Go.Proofs.Ytcbjaomjamfjcaa
