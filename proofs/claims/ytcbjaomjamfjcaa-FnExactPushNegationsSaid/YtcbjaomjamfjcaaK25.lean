/-
  Pushing negations down, in plain Lean; no condition.
-/
import Derived.Test.YtcbjaomjamfjcaaK17
namespace Go.Proofs.Ytcbjaomjamfjcaa
set_option linter.unusedSimpArgs false
set_option linter.unusedVariables false
open Go.RowKit

/-- The kind that takes the place of a kind in the dual circuit. -/
def dualK (k : Int) : Int := if k = 5 then 6 else if k = 6 then 5 else if k = 2 then 3 else if k = 3 then 2 else k
/-- The gate for a gate's value. -/
def pushA (yes : List Int) (g : Gt) : Gt := moveG (fun x => yes.getD x.toNat 0) g
/-- The gate for the opposite value; m: where the other one stands. -/
def pushB (no : List Int) (m : Nat) (g : Gt) : Gt := if g.1 = 1 then (4, (m : Int), 0) else moveG (fun x => no.getD x.toNat 0) (dualK g.1, g.2.1, g.2.2)
/-- Behind k gates: the gates put there, where each one's value stands, and where its opposite. -/
def pushTo (gs : List Gt) : Nat → List Gt × List Int × List Int
  | 0 => ([], [], [])
  | k + 1 =>
    if (gs.getD k g0).1 = 4 then ((pushTo gs k).1, (pushTo gs k).2.1 ++ [(pushTo gs k).2.2.getD (gs.getD k g0).2.1.toNat 0], (pushTo gs k).2.2 ++ [(pushTo gs k).2.1.getD (gs.getD k g0).2.1.toNat 0])
    else ((pushTo gs k).1 ++ [pushA (pushTo gs k).2.1 (gs.getD k g0), pushB (pushTo gs k).2.2 (pushTo gs k).1.length (gs.getD k g0)],
      (pushTo gs k).2.1 ++ [((pushTo gs k).1.length : Int)], (pushTo gs k).2.2 ++ [((pushTo gs k).1.length : Int) + 1])
theorem pushTo_not {gs : List Gt} {k : Nat} {a b : Int} (h : Hid (gs[k]? = some (4, a, b))) :
    pushTo gs (k + 1) = ((pushTo gs k).1, (pushTo gs k).2.1 ++ [(pushTo gs k).2.2.getD a.toNat 0], (pushTo gs k).2.2 ++ [(pushTo gs k).2.1.getD a.toNat 0]) := by
  simp only [pushTo, getD_of h, if_true]
theorem pushTo_put {gs : List Gt} {k : Nat} {g : Gt} (h : Hid (gs[k]? = some g)) (hk : g.1 ≠ 4) :
    pushTo gs (k + 1) = ((pushTo gs k).1 ++ [pushA (pushTo gs k).2.1 g, pushB (pushTo gs k).2.2 (pushTo gs k).1.length g], (pushTo gs k).2.1 ++ [((pushTo gs k).1.length : Int)], (pushTo gs k).2.2 ++ [((pushTo gs k).1.length : Int) + 1]) := by
  simp only [pushTo, getD_of h, if_neg hk]
/-- What holds behind k gates. -/
structure PushOk (gs out : List Gt) (yes no : List Int) (k : Nat) : Prop where
  good : GoodG out
  ly : yes.length = k
  ln : no.length = k
  le : out.length ≤ 2 * k
  ry : ∀ x ∈ yes, 0 ≤ x ∧ x < out.length
  rn : ∀ x ∈ no, 0 ≤ x ∧ x < out.length
theorem GoodG.snoc {gs : List Gt} {g : Gt} (h : GoodG gs) (hg : FitG gs g) : GoodG (gs ++ [g]) := by
  intro i x hx
  by_cases hi : i < gs.length
  · rw [List.getElem?_append_left hi] at hx; exact h i x hx
  · rw [List.getElem?_append_right (by omega)] at hx
    have : i - gs.length = 0 := by
      have := (List.getElem?_eq_some_iff.1 hx).1
      simp at this; omega
    rw [this] at hx
    simp at hx
    subst hx
    exact ⟨hg.1, fun k hk' => by have := hg.2.1 k hk'; omega, hg.2.2⟩
theorem FitG.more {gs : List Gt} {g x : Gt} (h : FitG gs g) : FitG (gs ++ [x]) g := ⟨h.1, fun k hk => by have := h.2.1 k hk; simp; omega, h.2.2⟩
theorem getD_rng {xs : List Int} {m : Nat} {n : Nat} (h : ∀ x ∈ xs, 0 ≤ x ∧ x < n) (hm : m < xs.length) : 0 ≤ xs.getD m 0 ∧ xs.getD m 0 < n := by
  have h2 : xs[m]? = some (xs[m]'hm) := List.getElem?_eq_getElem _
  rw [List.getD_eq_getElem?_getD, h2]
  exact h _ (List.getElem_mem _)
theorem pushTo_ok {gs : List Gt} (hg : GoodG gs) : ∀ k, k ≤ gs.length → PushOk gs (pushTo gs k).1 (pushTo gs k).2.1 (pushTo gs k).2.2 k := by
  intro k
  induction k with
  | zero => intro _; exact ⟨by intro i g h; simp [pushTo] at h, rfl, rfl, by simp [pushTo], by simp [pushTo], by simp [pushTo]⟩
  | succ k ih =>
    intro hk
    have h := ih (by omega)
    have hx : Hid (gs[k]? = some (gs[k]'(by omega))) := List.getElem?_eq_getElem (by omega)
    have hgk := hg k _ hx.out
    generalize gs[k]'(by omega) = g at *
    obtain ⟨kd, a, b⟩ := g
    by_cases h4 : kd = 4
    · subst h4
      rw [pushTo_not hx]
      have ha := hgk.2.1 a (by simp [insG])
      have hy := getD_rng h.ry (m := a.toNat) (by rw [h.ly]; omega)
      have hn := getD_rng h.rn (m := a.toNat) (by rw [h.ln]; omega)
      refine ⟨h.good, by simp [h.ly], by simp [h.ln], by have := h.le; dsimp only; omega, ?_, ?_⟩
      · intro x hxm
        rcases List.mem_append.1 hxm with hxm | hxm
        · exact h.ry x hxm
        · rw [List.mem_singleton] at hxm; subst hxm; exact hn
      · intro x hxm
        rcases List.mem_append.1 hxm with hxm | hxm
        · exact h.rn x hxm
        · rw [List.mem_singleton] at hxm; subst hxm; exact hy
    · rw [pushTo_put hx h4]
      generalize hP : pushTo gs k = P at *
      obtain ⟨out, yes, no⟩ := P
      dsimp only at h ⊢
      have hA : FitG out (pushA yes (kd, a, b)) := moveG_fit ⟨hgk.1, hgk.2.2⟩ (fun x hxi => getD_rng h.ry (by have := hgk.2.1 x hxi; rw [h.ly]; omega))
      have hdl : (1 ≤ dualK kd ∧ dualK kd ≤ 6) ∧ (dualK kd = 1 → kd = 1) ∧ (∀ x ∈ insG (dualK kd, a, b), x ∈ insG (kd, a, b)) := by
        have := hgk.1
        have hc : kd = 1 ∨ kd = 2 ∨ kd = 3 ∨ kd = 5 ∨ kd = 6 := by dsimp only at this; omega
        rcases hc with rfl | rfl | rfl | rfl | rfl <;> simp [dualK, insG]
      have hB : FitG (out ++ [pushA yes (kd, a, b)]) (pushB no out.length (kd, a, b)) := by
        unfold pushB
        dsimp only
        split
        · exact ⟨by simp, by simp [insG]; omega, by simp⟩
        · rename_i h1
          refine moveG_fit (kept := out ++ [pushA yes (kd, a, b)]) ⟨hdl.1, fun hh => absurd (hdl.2.1 hh) h1⟩ (fun x hxi => ?_)
          have h2 := getD_rng h.rn (m := x.toNat) (by have := hgk.2.1 x (hdl.2.2 x hxi); rw [h.ln]; omega)
          rw [List.length_append, List.length_singleton]
          refine ⟨h2.1, ?_⟩
          have h3 := h2.2
          skip
          omega
      refine ⟨?_, by simp [h.ly], by simp [h.ln], by have := h.le; simp; omega, ?_, ?_⟩
      · have := (h.good.snoc hA).snoc hB
        simpa using this
      · intro x hxm
        rcases List.mem_append.1 hxm with hxm | hxm
        · have := h.ry x hxm; simp; omega
        · rw [List.mem_singleton] at hxm; subst hxm; simp; omega
      · intro x hxm
        rcases List.mem_append.1 hxm with hxm | hxm
        · have := h.rn x hxm; simp; omega
        · rw [List.mem_singleton] at hxm; subst hxm; simp; omega
def pushOkB (v : Int) (gs : List Gt) : Bool := circB v gs && decide ((pushTo gs gs.length).1.length ≤ 200)
def pushG (gs : List Gt) : List Gt := trimG ((pushTo gs gs.length).1.take (((pushTo gs gs.length).2.1.getD (gs.length - 1) 0).toNat + 1))
/-- Constants have no indices. -/
def ConstZ (gs : List Gt) : Prop := ∀ (i : Nat) (g : Gt), gs[i]? = some g → g.1 = 2 ∨ g.1 = 3 → g.2.1 = 0 ∧ g.2.2 = 0
theorem circ_constZ {v : Int} {gs : List Gt} (h : circB v gs = true) : ConstZ gs := by
  obtain ⟨h1, h2, h3⟩ := and3_true h
  intro i g hg hk
  rw [List.all_eq_true] at h3
  have hi : i < gs.length := (List.getElem?_eq_some_iff.1 hg).1
  have h4 := h3 i (by simpa using hi)
  unfold gateAt at h4
  rw [List.getD_eq_getElem?_getD, hg] at h4
  simp only [Option.getD_some] at h4
  obtain ⟨k, a, b⟩ := g
  dsimp only at hk ⊢
  rcases hk with rfl | rfl
  · rw [gateB_2] at h4; simpa using h4
  · rw [gateB_3] at h4; simpa using h4
end Go.Proofs.Ytcbjaomjamfjcaa
