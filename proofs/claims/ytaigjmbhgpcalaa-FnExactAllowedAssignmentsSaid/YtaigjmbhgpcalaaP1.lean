/-
  Steps of plane proofs in memory, and the laws' helpers over them; no condition.
-/
import Derived.Test.YtaigjmbhgpcalaaO
import Derived.Test.YtaigjmbhgpcalaaC10
import Derived.Test.YtaigjmbhgpcalaaP0

namespace Go.Proofs.Ytaigjmbhgpcalaa
set_option linter.unusedSimpArgs false
set_option linter.unusedVariables false
open Go.RowKit

theorem addr_addP (a : Addr) (i j : Nat) : (a.add i).add j = a.add (i + j) := by
  unfold Addr.add
  by_cases hi : i = 0
  · subst hi; simp
  · by_cases hj : j = 0
    · subst hj; simp [hi]
    · have : ¬ (i + j = 0) := by omega
      simp [hi, hj, this]; omega
/-- The six cells of a step, from a place on. -/
def StepAt (w : World) (at_ : Nat → Addr) (s : Ps) : Prop :=
  ∃ B c, w.cell? (at_ 0) = some (.slice B s.1.length c) ∧ Ints w B s.1.length s.1 ∧ w.cell? (at_ 1) = some (.int .i64 s.2.1) ∧ w.cell? (at_ 2) = some (.int .i64 s.2.2.1) ∧ w.cell? (at_ 3) = some (.int .i64 s.2.2.2.1) ∧
    w.cell? (at_ 4) = some (.int .i64 s.2.2.2.2.1) ∧ w.cell? (at_ 5) = some (.int .i64 s.2.2.2.2.2)
theorem StepAt.ext {w w' : World} {at_ : Nat → Addr} {s : Ps} (h : StepAt w at_ s) (he : Ext w w') : StepAt w' at_ s :=
  let ⟨B, c, h0, hi, h1, h2, h3, h4, h5⟩ := h
  ⟨B, c, he.cell h0, hi.ext he, he.cell h1, he.cell h2, he.cell h3, he.cell h4, he.cell h5⟩
/-- A slice that reads as these steps. -/
structure Steps (w : World) (A : Option Addr) (n : Nat) (ss : List Ps) : Prop where
  len : n = ss.length
  bound : n ≤ 1099511627776
  reads : 0 < n → ∃ g, A = some ⟨g, 0, none⟩ ∧ ∀ i s, ss[i]? = some s → StepAt w (fun j => ⟨g, i * 6 + j, none⟩) s
theorem Steps.ext {w w' : World} {A : Option Addr} {n : Nat} {ss : List Ps} (h : Steps w A n ss) (he : Ext w w') : Steps w' A n ss :=
  ⟨h.len, h.bound, fun hn => let ⟨g, e, hc⟩ := h.reads hn; ⟨g, e, fun i s hs => (hc i s hs).ext he⟩⟩
/-- The same at whatever address. -/
structure StepsA (w : World) (A : Option Addr) (n : Nat) (ss : List Ps) : Prop where
  len : n = ss.length
  bound : n ≤ 9223372036854775807
  reads : 0 < n → ∃ ad, A = some ad ∧ ∀ i s, ss[i]? = some s → StepAt w (fun j => ad.add (i * 6 + j)) s
theorem StepsA.ext {w w' : World} {A : Option Addr} {n : Nat} {ss : List Ps} (h : StepsA w A n ss) (he : Ext w w') : StepsA w' A n ss :=
  ⟨h.len, h.bound, fun hn => let ⟨g, e, hc⟩ := h.reads hn; ⟨g, e, fun i s hs => (hc i s hs).ext he⟩⟩
theorem Steps.at_ {w : World} {A : Option Addr} {n : Nat} {ss : List Ps} (h : Steps w A n ss) {i : Nat} (hi : i < n) :
    ∃ g xs m B c bd kd a b q, A = some ⟨g, 0, none⟩ ∧ Hid (ss[i]? = some (xs, bd, kd, a, b, q)) ∧ w.cell? ⟨g, i * 6, none⟩ = some (.slice B m c) ∧ Ints w B m xs ∧ w.cell? ⟨g, i * 6 + 1, none⟩ = some (.int .i64 bd) ∧ w.cell? ⟨g, i * 6 + 2, none⟩ = some (.int .i64 kd) ∧
      w.cell? ⟨g, i * 6 + 3, none⟩ = some (.int .i64 a) ∧ w.cell? ⟨g, i * 6 + 4, none⟩ = some (.int .i64 b) ∧ w.cell? ⟨g, i * 6 + 5, none⟩ = some (.int .i64 q) := by
  obtain ⟨g, e, hc⟩ := h.reads (by omega)
  have hx : ss[i]? = some (ss[i]'(by have := h.len; omega)) := List.getElem?_eq_getElem _
  obtain ⟨B, c, h0, hin, h1, h2, h3, h4, h5⟩ := hc i _ hx
  generalize ss[i]'(by have := h.len; omega) = s at *
  obtain ⟨xs, bd, kd, a, b, q⟩ := s
  exact ⟨g, xs, _, B, c, bd, kd, a, b, q, e, hx, h0, hin, h1, h2, h3, h4, h5⟩
theorem StepsA.at_ {w : World} {A : Option Addr} {n : Nat} {ss : List Ps} (h : StepsA w A n ss) {i : Nat} (hi : i < n) :
    ∃ ad xs m B c bd kd a b q, A = some ad ∧ Hid (ss[i]? = some (xs, bd, kd, a, b, q)) ∧ w.cell? (ad.add (i * 6)) = some (.slice B m c) ∧ Ints w B m xs ∧ w.cell? ⟨(ad.add (i * 6)).block, (ad.add (i * 6)).off + 1, none⟩ = some (.int .i64 bd) ∧ w.cell? ⟨(ad.add (i * 6)).block, (ad.add (i * 6)).off + 2, none⟩ = some (.int .i64 kd) ∧
      w.cell? ⟨(ad.add (i * 6)).block, (ad.add (i * 6)).off + 3, none⟩ = some (.int .i64 a) ∧ w.cell? ⟨(ad.add (i * 6)).block, (ad.add (i * 6)).off + 4, none⟩ = some (.int .i64 b) ∧ w.cell? ⟨(ad.add (i * 6)).block, (ad.add (i * 6)).off + 5, none⟩ = some (.int .i64 q) := by
  obtain ⟨g, e, hc⟩ := h.reads (by omega)
  have hx : ss[i]? = some (ss[i]'(by have := h.len; omega)) := List.getElem?_eq_getElem _
  obtain ⟨B, c, h0, hin, h1, h2, h3, h4, h5⟩ := hc i _ hx
  generalize ss[i]'(by have := h.len; omega) = s at *
  obtain ⟨xs, bd, kd, a, b, q⟩ := s
  refine ⟨g, xs, _, B, c, bd, kd, a, b, q, e, hx, h0, hin, ?_, ?_, ?_, ?_, ?_⟩
  · show w.cell? ((g.add (i * 6)).add 1) = _; rw [addr_addP]; exact h1
  · show w.cell? ((g.add (i * 6)).add 2) = _; rw [addr_addP]; exact h2
  · show w.cell? ((g.add (i * 6)).add 3) = _; rw [addr_addP]; exact h3
  · show w.cell? ((g.add (i * 6)).add 4) = _; rw [addr_addP]; exact h4
  · show w.cell? ((g.add (i * 6)).add 5) = _; rw [addr_addP]; exact h5
theorem Steps.toA {w : World} {A : Option Addr} {n : Nat} {ss : List Ps} (h : Steps w A n ss) : StepsA w A n ss :=
  ⟨h.len, by have := h.bound; omega, fun hn => by
    obtain ⟨g, e, hc⟩ := h.reads hn
    refine ⟨⟨g, 0, none⟩, e, fun i s hs => ?_⟩
    have := hc i s hs
    have hadd : ∀ j, (⟨g, 0, none⟩ : Addr).add j = ⟨g, j, none⟩ := fun j => by unfold Addr.add; split <;> simp_all
    simp only [hadd]
    exact this⟩
abbrev psV (A : Option Addr) (n c : Nat) (bd kd a b q : Int) : Value := .agg #[.slice A n c, .int .i64 bd, .int .i64 kd, .int .i64 a, .int .i64 b, .int .i64 q]
theorem coeffs_get {ss : List Ps} {i : Nat} {xs : List Int} {bd kd a b q : Int} (h : Hid (ss[i]? = some (xs, bd, kd, a, b, q))) : Hid ((ss.map (·.1))[i]? = some xs) := by
  unfold Hid; rw [List.getElem?_map, h.out]; rfl
theorem BoxAt.set6 {w : World} {b : Nat} {t : TypeId} {z0 z1 z2 z3 z4 z5 x0 x1 x2 x3 x4 x5 : Value} (h : BoxAt w b t #[z0, z1, z2, z3, z4, z5]) :
    BoxAt ((((((w.setCell ⟨b, 0, none⟩ x0).setCell ⟨b, 1, none⟩ x1).setCell ⟨b, 2, none⟩ x2).setCell ⟨b, 3, none⟩ x3).setCell ⟨b, 4, none⟩ x4).setCell ⟨b, 5, none⟩ x5) b t #[x0, x1, x2, x3, x4, x5] := (((((h.set 0 x0).set 1 x1).set 2 x2).set 3 x3).set 4 x4).set 5 x5
end Go.Proofs.Ytaigjmbhgpcalaa
