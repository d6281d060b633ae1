/-
  What slices of int slices read as, when a law's arguments hold them.
-/
import Derived.Test.YtjlnlicojcfpiaaDoorLaw
namespace Go.Proofs.YtjlnlicojcfpiaaDoor
set_option linter.unusedSimpArgs false
set_option linter.unusedVariables false
open Go.ChangeShapes Go.WideShapes Go.ChangeAt Go.RowKit Go.Joins Go.Deep

theorem getElem?_range_if (n j : Nat) : (List.range n)[j]? = if j < n then some j else none := by
  by_cases h : j < n
  · rw [if_pos h, List.getElem?_range h]
  · rw [if_neg h]; exact List.getElem?_eq_none (by simp; omega)
section
variable {H : Type} {enc : TypeId × Value → H} {P : Program} {w : World} {held : Bool} {r : Reach} {b0 : Nat}
theorem rows_cells {t e q : TypeId} {fuel : Nat} {v : Value} {x : DataW H × List MemPlace} (ht : P.underlying t = some (.slice e)) (he : P.underlying e = some (.slice q)) (hq : P.underlying q = some (.int .i64)) (ce : P.cellsOf e = 1) (cq : P.cellsOf q = 1)
    (h : DataW.trod enc P w 0 (fun _ => true) held fuel t [v] = some x) : ∃ A n c xss, v = .slice A n c ∧ Intss w A n xss := by
  rcases open_int_rows ht he hq ce cq h with ⟨hcs, _⟩ | ⟨a, len, cap, A, L, C, Z, hcs, _, hl, hm, _, hrow⟩
  · simp at hcs
    subst hcs
    exact ⟨none, 0, 0, [], rfl, rfl, by omega, [], rfl, fun h => absurd rfl h, by simp⟩
  · simp at hcs
    subst hcs
    refine ⟨some a, len, cap, (List.range len).map fun r => (Z r).take (L r), rfl, by simp, by unfold maxLen at hm; omega, (List.range len).map fun r => Value.slice (A r) (L r) (C r), by simp, fun _ => ⟨a, rfl, fun j u hu => ?_⟩, fun i u xs hu hx => ?_⟩
    · rw [List.getElem?_map, getElem?_range_if] at hu
      by_cases hj : j < len
      · rw [if_pos hj] at hu
        simp at hu
        subst hu
        exact (hrow j (by omega)).1
      · rw [if_neg hj] at hu
        cases hu
    · rw [List.getElem?_map, getElem?_range_if] at hu hx
      by_cases hi : i < len
      · rw [if_pos hi] at hu hx
        simp at hu hx
        subst hu
        subst hx
        obtain ⟨_, hLC, hCm, hZ, _, hnil, hcell⟩ := hrow i (by omega)
        have hlen : ((Z i).take (L i)).length = L i := by simp; omega
        refine ⟨A i, C i, by rw [hlen], by rw [hlen], by rw [hlen]; unfold maxLen at hCm; omega, fun hne => ?_⟩
        have hL : 0 < L i := by
          rcases Nat.eq_zero_or_pos (L i) with h0 | h0
          · exact absurd (by rw [h0]; simp) hne
          · exact h0
        cases hA : A i with
        | none => have := hnil hA; omega
        | some a' =>
          refine ⟨a', rfl, fun j u hu => ?_⟩
          rw [List.getElem?_map, List.getElem?_take] at hu
          by_cases hj : j < L i
          · rw [if_pos hj] at hu
            have hjz : j < (Z i).length := by omega
            rw [List.getElem?_eq_getElem hjz] at hu
            simp at hu
            subst hu
            rw [(hcell a' hA).2 j (by omega)]
            simp [List.getElem?_eq_getElem hjz, List.getD_eq_getElem?_getD]
          · rw [if_neg hj] at hu
            cases hu
      · rw [if_neg hi] at hu
        cases hu
theorem rows_open {t e q : TypeId} {v : Value} {d : DataW H} {p : List MemPlace} (ht : P.underlying t = some (.slice e)) (he : P.underlying e = some (.slice q)) (hq : P.underlying q = some (.int .i64)) (ce : P.cellsOf e = 1) (cq : P.cellsOf q = 1)
    (hv : Value.okWide P w r b0 t v) (h : DataW.Trod enc P w 0 (fun _ => true) held t v d p) : ∃ A n c xss, v = .slice A n c ∧ Intss w A n xss := by
  obtain ⟨a, n, c, rfl⟩ := okWide_slice ht hv
  obtain ⟨fuel, hf⟩ := h
  exact rows_cells ht he hq ce cq hf
/-- A struct of an int and rows. -/
theorem intRows_open {t ts te tq ti : TypeId} {f0 f1 : Field} {v : Value} {d : DataW H} {p : List MemPlace} (hs : P.underlying t = some (.struct #[f0, f1])) (hone : oneCellFields P #[f0, f1] = true) (hC : P.cellsOf t = 2)
    (h0 : f0.type = ti) (h1 : f1.type = ts) (ht : P.underlying ts = some (.slice te)) (he : P.underlying te = some (.slice tq)) (hq : P.underlying tq = some (.int .i64)) (ce : P.cellsOf te = 1) (cq : P.cellsOf tq = 1) (hi : P.underlying ti = some (.int .i64))
    (hv : Value.okWide P w r b0 t v) (h : DataW.Trod enc P w 0 (fun _ => true) held t v d p) : ∃ A n c xss b, v = .agg #[.int .i64 b, .slice A n c] ∧ Intss w A n xss := by
  obtain ⟨v0, v1, y0, y1, n, rfl, _, _, k0, k1⟩ := open_agg2 hs hone hC hv h
  rw [h0] at k0
  rw [h1] at k1
  obtain ⟨A, n, c, xs, rfl, hints⟩ := rows_cells ht he hq ce cq k1
  obtain ⟨b, hb, _, _⟩ := DataW.trod_int hi k0
  simp at hb
  subst hb
  exact ⟨A, n, c, xs, b, rfl, hints⟩
/-- A struct of rows alone. -/
theorem rows1_open {t ts te tq : TypeId} {f0 : Field} {v : Value} {d : DataW H} {p : List MemPlace} (hs : P.underlying t = some (.struct #[f0])) (hone : oneCellFields P #[f0] = true) (hC : P.cellsOf t = 1)
    (h0 : f0.type = ts) (ht : P.underlying ts = some (.slice te)) (he : P.underlying te = some (.slice tq)) (hq : P.underlying tq = some (.int .i64)) (ce : P.cellsOf te = 1) (cq : P.cellsOf tq = 1)
    (hv : Value.okWide P w r b0 t v) (h : DataW.Trod enc P w 0 (fun _ => true) held t v d p) : ∃ A n c xss, v = .agg #[.slice A n c] ∧ Intss w A n xss := by
  obtain ⟨cs, rfl, hsz⟩ := okWide_struct hs hv
  have hsz1 : cs.size = 1 := hsz.trans hC
  obtain ⟨c0, rfl⟩ : ∃ c0, cs = #[c0] := ⟨cs[0], by apply Array.ext; simp [hsz1]; intro i h1 h2; simp at h2; subst h2; rfl⟩
  obtain ⟨fuel, hf⟩ := h
  obtain ⟨y0, n, hx, _, k0⟩ := trod_struct1 hs hf
  obtain ⟨o0, q0⟩ := hone_of hone 0 f0 rfl
  have k1 : DataW.trod enc P w 0 (fun _ => true) held n f0.type [c0] = some y0 := by simpa [Value.cells, o0, q0] using k0
  rw [h0] at k1
  obtain ⟨A, n, c, xs, rfl, hints⟩ := rows_cells ht he hq ce cq k1
  exact ⟨A, n, c, xs, rfl, hints⟩
end
end Go.Proofs.YtjlnlicojcfpiaaDoor
