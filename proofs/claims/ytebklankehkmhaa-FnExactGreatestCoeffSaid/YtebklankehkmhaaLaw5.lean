/-
  What a slice of steps of plane proofs reads as, when a law's arguments hold it; no condition.
-/
import Derived.Test.YtebklankehkmhaaLaw2
import Derived.Test.YtebklankehkmhaaP1
import Derived.Deep.Slices
import Derived.Deep.Fields
import Derived.ChangeSame
namespace Go.Proofs.Ytebklankehkmhaa
set_option linter.unusedSimpArgs false
set_option linter.unusedVariables false
open Go.ChangeShapes Go.WideShapes Go.ChangeAt Go.RowKit Go.Joins Go.Deep

section
variable {H : Type} {enc : TypeId × Value → H} {P : Program} {w : World} {held : Bool} {r : Reach} {b0 : Nat}
theorem step_cells {e q tl ti : TypeId} {f0 f1 f2 f3 f4 g0 g1 : Field} {fuel : Nat} {cs : List Value} {x : DataW H × List MemPlace} {at_ : Nat → Addr}
    (he : P.underlying e = some (.struct #[f0, f1, f2, f3, f4])) (hq : P.underlying q = some (.struct #[g0, g1])) (hC : P.cellsOf e = 6) (hQ : P.cellsOf q = 2)
    (t0 : f0.type = q) (t1 : f1.type = ti) (t2 : f2.type = ti) (t3 : f3.type = ti) (t4 : f4.type = ti) (u0 : g0.type = tl) (u1 : g1.type = ti)
    (o0 : f0.offset = 0) (o1 : f1.offset = 2) (o2 : f2.offset = 3) (o3 : f3.offset = 4) (o4 : f4.offset = 5) (p0 : g0.offset = 0) (p1 : g1.offset = 1)
    (htl : P.underlying tl = some (.slice ti)) (cl : P.cellsOf tl = 1) (hi : P.underlying ti = some (.int .i64)) (ci : P.cellsOf ti = 1)
    (hat : ∀ j, j < 6 → w.cell? (at_ j) = cs[j]?) (h : DataW.trod enc P w 0 (fun _ => true) held fuel e cs = some x) : ∃ s : Ps, StepAt w at_ s := by
  obtain ⟨ys, n, _, _, hl, hyl, hf⟩ := DataW.trod_struct he h
  rw [hC] at hl
  match cs, hl with
  | [c0, c1, c2, c3, c4, c5], _ =>
    match ys, hyl with
    | [y0, y1, y2, y3, y4], _ =>
      have k0 := hf 0 f0 rfl
      have k1 := hf 1 f1 rfl
      have k2 := hf 2 f2 rfl
      have k3 := hf 3 f3 rfl
      have k4 := hf 4 f4 rfl
      rw [t0, o0, hQ] at k0
      rw [t1, o1, ci] at k1
      rw [t2, o2, ci] at k2
      rw [t3, o3, ci] at k3
      rw [t4, o4, ci] at k4
      replace k0 : DataW.trod enc P w 0 (fun _ => true) held n q [c0, c1] = some y0 := k0
      replace k1 : DataW.trod enc P w 0 (fun _ => true) held n ti [c2] = some y1 := k1
      replace k2 : DataW.trod enc P w 0 (fun _ => true) held n ti [c3] = some y2 := k2
      replace k3 : DataW.trod enc P w 0 (fun _ => true) held n ti [c4] = some y3 := k3
      replace k4 : DataW.trod enc P w 0 (fun _ => true) held n ti [c5] = some y4 := k4
      obtain ⟨zs, m, _, _, _, hzl, hz⟩ := DataW.trod_struct hq k0
      match zs, hzl with
      | [z0, z1], _ =>
        have l0 := hz 0 g0 rfl
        have l1 := hz 1 g1 rfl
        rw [u0, p0, cl] at l0
        rw [u1, p1, ci] at l1
        replace l0 : DataW.trod enc P w 0 (fun _ => true) held m tl [c0] = some z0 := l0
        replace l1 : DataW.trod enc P w 0 (fun _ => true) held m ti [c1] = some z1 := l1
        obtain ⟨A, nn, c, xs, rfl, hin⟩ := ints_cells htl hi ci l0
        obtain ⟨v1, q1, _, _⟩ := DataW.trod_int hi l1
        obtain ⟨v2, q2, _, _⟩ := DataW.trod_int hi k1
        obtain ⟨v3, q3, _, _⟩ := DataW.trod_int hi k2
        obtain ⟨v4, q4, _, _⟩ := DataW.trod_int hi k3
        obtain ⟨v5, q5, _, _⟩ := DataW.trod_int hi k4
        simp at q1 q2 q3 q4 q5
        subst q1; subst q2; subst q3; subst q4; subst q5
        have hn := hin.len
        refine ⟨(xs, v1, v2, v3, v4, v5), A, c, ?_, ?_, ?_, ?_, ?_, ?_, ?_⟩
        · rw [hat 0 (by omega), hn]; rfl
        · rw [← hn]; exact hin
        · exact hat 1 (by omega)
        · exact hat 2 (by omega)
        · exact hat 3 (by omega)
        · exact hat 4 (by omega)
        · exact hat 5 (by omega)
open Classical in
theorem steps_open {t e q tl ti : TypeId} {f0 f1 f2 f3 f4 g0 g1 : Field} {v : Value} {d : DataW H} {p : List MemPlace} (ht : P.underlying t = some (.slice e))
    (he : P.underlying e = some (.struct #[f0, f1, f2, f3, f4])) (hq : P.underlying q = some (.struct #[g0, g1])) (hC : P.cellsOf e = 6) (hQ : P.cellsOf q = 2)
    (t0 : f0.type = q) (t1 : f1.type = ti) (t2 : f2.type = ti) (t3 : f3.type = ti) (t4 : f4.type = ti) (u0 : g0.type = tl) (u1 : g1.type = ti)
    (o0 : f0.offset = 0) (o1 : f1.offset = 2) (o2 : f2.offset = 3) (o3 : f3.offset = 4) (o4 : f4.offset = 5) (p0 : g0.offset = 0) (p1 : g1.offset = 1)
    (htl : P.underlying tl = some (.slice ti)) (cl : P.cellsOf tl = 1) (hi : P.underlying ti = some (.int .i64)) (ci : P.cellsOf ti = 1)
    (hv : Value.okWide P w r b0 t v) (h : DataW.Trod enc P w 0 (fun _ => true) held t v d p) : ∃ A n c ss, v = .slice A n c ∧ StepsA w A n ss := by
  obtain ⟨a, n, c, rfl⟩ := okWide_slice ht hv
  obtain ⟨fuel, hf⟩ := h
  rcases open_slice ht hf with ⟨hcs, _⟩ | ⟨ad, len, cap, m, n', D, Pl, hcs, hb, hl, hm, hmm, hx, hall⟩
  · replace hcs : [Value.slice a n c] = _ := hcs
    simp only [List.cons.injEq, Value.slice.injEq, and_true] at hcs
    obtain ⟨rfl, rfl, rfl⟩ := hcs
    exact ⟨none, 0, 0, [], rfl, rfl, by omega, fun h => absurd h (by omega)⟩
  · replace hcs : [Value.slice a n c] = _ := hcs
    simp only [List.cons.injEq, Value.slice.injEq, and_true] at hcs
    obtain ⟨rfl, rfl, rfl⟩ := hcs
    have key : ∀ i, i < n → ∃ s : Ps, StepAt w (fun j => ad.add (i * 6 + j)) s := by
      intro i him
      obtain ⟨cs', hc, ht'⟩ := hall i (by rw [hmm]; split <;> omega)
      rw [hC] at hc
      obtain ⟨_, hcl, hat⟩ := World.cells?_some hc
      refine step_cells he hq hC hQ t0 t1 t2 t3 t4 u0 u1 o0 o1 o2 o3 o4 p0 p1 htl cl hi ci (fun j hj => ?_) ht'
      rw [← addr_addP]
      exact hat j hj
    refine ⟨some ad, n, c, (List.range n).map (fun i => if hi : i < n then Classical.choose (key i hi) else ps0), rfl, by simp, by unfold maxLen at hm; omega, fun _ => ⟨ad, rfl, fun i s hs => ?_⟩⟩
    rw [List.getElem?_map, getElem?_range_if] at hs
    by_cases hi : i < n
    · rw [if_pos hi] at hs
      simp only [Option.map_some, dif_pos hi, Option.some.injEq] at hs
      subst hs
      exact Classical.choose_spec (key i hi)
    · rw [if_neg hi] at hs; cases hs
end
end Go.Proofs.Ytebklankehkmhaa
