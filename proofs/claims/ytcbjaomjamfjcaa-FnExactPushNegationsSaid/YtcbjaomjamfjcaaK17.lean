/-
  Folding a circuit, in plain Lean; no condition.
-/
import Derived.Test.YtcbjaomjamfjcaaK16
namespace Go.Proofs.Ytcbjaomjamfjcaa
set_option linter.unusedSimpArgs false
set_option linter.unusedVariables false
open Go.RowKit

/-- Where a gate stands among the kept ones, or behind them. -/
def keepG (kept : List Gt) (g : Gt) : Int × List Gt := if idxOf (· == g) kept 0 < 0 then ((kept.length : Int), kept ++ [g]) else (idxOf (· == g) kept 0, kept)
def sameG (kept : List Gt) (a b zero unit : Int) : Int :=
  if (kept.getD a.toNat g0).1 = zero then a else if (kept.getD b.toNat g0).1 = zero then b
  else if (kept.getD a.toNat g0).1 = unit ∨ a = b then b else if (kept.getD b.toNat g0).1 = unit then a else -1
/-- The kept gate that a gate becomes. -/
def foldAt (kept : List Gt) (g : Gt) : Int × List Gt :=
  if g.1 = 4 then
    if (kept.getD g.2.1.toNat g0).1 = 2 then keepG kept (3, 0, 0)
    else if (kept.getD g.2.1.toNat g0).1 = 3 then keepG kept (2, 0, 0)
    else if (kept.getD g.2.1.toNat g0).1 = 4 then ((kept.getD g.2.1.toNat g0).2.1, kept)
    else keepG kept g
  else if g.1 = 5 then (if sameG kept g.2.1 g.2.2 3 2 < 0 then keepG kept g else (sameG kept g.2.1 g.2.2 3 2, kept))
  else if g.1 = 6 then (if sameG kept g.2.1 g.2.2 2 3 < 0 then keepG kept g else (sameG kept g.2.1 g.2.2 2 3, kept))
  else keepG kept g
/-- Behind k gates: the kept ones, and what each has become. -/
def foldTo (gs : List Gt) : Nat → List Gt × List Int
  | 0 => ([], [])
  | k + 1 => ((foldAt (foldTo gs k).1 (moveG (fun x => (foldTo gs k).2.getD x.toNat 0) (gs.getD k g0))).2, (foldTo gs k).2 ++ [(foldAt (foldTo gs k).1 (moveG (fun x => (foldTo gs k).2.getD x.toNat 0) (gs.getD k g0))).1])
def foldG (gs : List Gt) : List Gt := trimG ((foldTo gs gs.length).1.take (((foldTo gs gs.length).2.getD (gs.length - 1) 0).toNat + 1))
/-- What holds of the kept gates and of what has become. -/
structure FoldOk (kept : List Gt) (became : List Int) (k : Nat) : Prop where
  good : GoodG kept
  len : became.length = k
  le : kept.length ≤ k
  rng : ∀ x ∈ became, 0 ≤ x ∧ x < kept.length
theorem idxOf_range {α : Type} {p : α → Bool} : ∀ (xs : List α) (m : Nat), idxOf p xs m = -1 ∨ ((m : Int) ≤ idxOf p xs m ∧ idxOf p xs m < m + xs.length) := by
  intro xs
  induction xs with
  | nil => intro m; exact .inl rfl
  | cons x xs ih =>
    intro m
    simp only [idxOf, List.length_cons]
    split
    · right; omega
    · rcases ih (m + 1) with h | ⟨h1, h2⟩
      · exact .inl h
      · right; omega
theorem keepG_range (kept : List Gt) (g : Gt) : 0 ≤ (keepG kept g).1 ∧ (keepG kept g).1 < (keepG kept g).2.length := by
  unfold keepG
  split
  · simp; omega
  · rename_i h
    rcases idxOf_range (p := (· == g)) kept 0 with h1 | ⟨h1, h2⟩
    · omega
    · dsimp only; omega
theorem keepG_good {kept : List Gt} {g : Gt} (hk : GoodG kept) (hg : (1 ≤ g.1 ∧ g.1 ≤ 6) ∧ (∀ k ∈ insG g, 0 ≤ k ∧ k < kept.length) ∧ (g.1 = 1 → 1 ≤ g.2.1 ∧ g.2.1 ≤ 12)) : GoodG (keepG kept g).2 := by
  unfold keepG
  split
  · intro i x hx
    dsimp only at hx
    by_cases hi : i < kept.length
    · rw [List.getElem?_append_left hi] at hx; exact hk i x hx
    · rw [List.getElem?_append_right (by omega)] at hx
      have : i - kept.length = 0 := by
        have := (List.getElem?_eq_some_iff.1 hx).1
        simp at this; omega
      rw [this] at hx
      simp at hx
      subst hx
      exact ⟨hg.1, fun k hk' => by have := hg.2.1 k hk'; omega, hg.2.2⟩
  · exact hk
theorem keepG_len (kept : List Gt) (g : Gt) : kept.length ≤ (keepG kept g).2.length ∧ (keepG kept g).2.length ≤ kept.length + 1 := by
  unfold keepG; split <;> simp
theorem sameG_range {kept : List Gt} {a b zero unit : Int} (ha : 0 ≤ a ∧ a < kept.length) (hb : 0 ≤ b ∧ b < kept.length) : sameG kept a b zero unit < kept.length := by
  unfold sameG
  repeat' split
  all_goals omega
/-- A gate whose indices are kept gates'. -/
def FitG (kept : List Gt) (g : Gt) : Prop := (1 ≤ g.1 ∧ g.1 ≤ 6) ∧ (∀ k ∈ insG g, 0 ≤ k ∧ k < kept.length) ∧ (g.1 = 1 → 1 ≤ g.2.1 ∧ g.2.1 ≤ 12)
theorem foldAt_ok {kept : List Gt} {g : Gt} (hk : GoodG kept) (hg : FitG kept g) : GoodG (foldAt kept g).2 ∧ (0 ≤ (foldAt kept g).1 ∧ (foldAt kept g).1 < (foldAt kept g).2.length) ∧ kept.length ≤ (foldAt kept g).2.length ∧ (foldAt kept g).2.length ≤ kept.length + 1 := by
  have hkeep : ∀ g', FitG kept g' → GoodG (keepG kept g').2 ∧ (0 ≤ (keepG kept g').1 ∧ (keepG kept g').1 < (keepG kept g').2.length) ∧ kept.length ≤ (keepG kept g').2.length ∧ (keepG kept g').2.length ≤ kept.length + 1 :=
    fun g' h' => ⟨keepG_good hk h', keepG_range kept g', keepG_len kept g'⟩
  obtain ⟨k, a, b⟩ := g
  unfold foldAt
  dsimp only
  by_cases h4 : k = 4
  · subst h4
    rw [if_pos rfl]
    have ha := hg.2.1 a (by simp [insG])
    split
    · exact hkeep _ ⟨by simp, by simp [insG], by simp⟩
    · split
      · exact hkeep _ ⟨by simp, by simp [insG], by simp⟩
      · split
        · rename_i hx
          have hx1 : kept[a.toNat]? = some (kept[a.toNat]'(by omega)) := List.getElem?_eq_getElem (by omega)
          rw [List.getD_eq_getElem?_getD, hx1] at hx ⊢
          simp only [Option.getD_some] at hx ⊢
          have := (hk _ _ hx1).2.1 _ (show (kept[a.toNat]'(by omega)).2.1 ∈ insG (kept[a.toNat]'(by omega)) by unfold insG; rw [if_pos hx]; simp)
          exact ⟨hk, by omega, by omega, by omega⟩
        · exact hkeep _ hg
  · rw [if_neg h4]
    by_cases h5 : k = 5
    · subst h5
      rw [if_pos rfl]
      have ha := hg.2.1 a (by simp [insG])
      have hb := hg.2.1 b (by simp [insG])
      have hs := sameG_range (zero := 3) (unit := 2) ha hb
      split
      · exact hkeep _ hg
      · exact ⟨hk, by dsimp only; omega, by dsimp only; omega, by dsimp only; omega⟩
    · rw [if_neg h5]
      by_cases h6 : k = 6
      · subst h6
        rw [if_pos rfl]
        have ha := hg.2.1 a (by simp [insG])
        have hb := hg.2.1 b (by simp [insG])
        have hs := sameG_range (zero := 2) (unit := 3) ha hb
        split
        · exact hkeep _ hg
        · exact ⟨hk, by dsimp only; omega, by dsimp only; omega, by dsimp only; omega⟩
      · rw [if_neg h6]
        exact hkeep _ hg
theorem moveG_fit {kept : List Gt} {g : Gt} {f : Int → Int} (hg : (1 ≤ g.1 ∧ g.1 ≤ 6) ∧ (g.1 = 1 → 1 ≤ g.2.1 ∧ g.2.1 ≤ 12)) (hf : ∀ x ∈ insG g, 0 ≤ f x ∧ f x < kept.length) : FitG kept (moveG f g) := by
  obtain ⟨k, a, b⟩ := g
  by_cases h4 : k = 4
  · subst h4
    rw [moveG_4]
    have := hf a (by simp [insG])
    exact ⟨by simp, by simp [insG]; omega, by simp⟩
  · by_cases h5 : k = 5
    · subst h5
      rw [moveG_5]
      have := hf a (by simp [insG])
      have := hf b (by simp [insG])
      exact ⟨by simp, by simp [insG]; omega, by simp⟩
    · by_cases h6 : k = 6
      · subst h6
        rw [moveG_6]
        have := hf a (by simp [insG])
        have := hf b (by simp [insG])
        exact ⟨by simp, by simp [insG]; omega, by simp⟩
      · rw [moveG_no f k a b h4 h5 h6]
        exact ⟨hg.1, by rw [insG_no k a b h4 h5 h6]; simp, hg.2⟩
theorem foldTo_ok {gs : List Gt} (hg : GoodG gs) : ∀ k, k ≤ gs.length → FoldOk (foldTo gs k).1 (foldTo gs k).2 k := by
  intro k
  induction k with
  | zero => intro _; exact ⟨by intro i g h; simp [foldTo] at h, rfl, by simp [foldTo], by simp [foldTo]⟩
  | succ k ih =>
    intro hk
    have h := ih (by omega)
    have hx : gs[k]? = some (gs[k]'(by omega)) := List.getElem?_eq_getElem (by omega)
    have hgk := hg k _ hx
    have hD : gs.getD k g0 = gs[k]'(by omega) := by rw [List.getD_eq_getElem?_getD, hx]; rfl
    have hfit : FitG (foldTo gs k).1 (moveG (fun x => (foldTo gs k).2.getD x.toNat 0) (gs.getD k g0)) := by
      rw [hD]
      refine moveG_fit ⟨hgk.1, hgk.2.2⟩ (fun x hxi => ?_)
      have h1 := hgk.2.1 x hxi
      have h2 : (foldTo gs k).2[x.toNat]? = some ((foldTo gs k).2[x.toNat]'(by rw [h.len]; omega)) := List.getElem?_eq_getElem _
      rw [List.getD_eq_getElem?_getD, h2]
      exact h.rng _ (List.getElem_mem _)
    obtain ⟨h1, h2, h3, h4⟩ := foldAt_ok h.good hfit
    refine ⟨h1, by simp [foldTo, h.len], by simp only [foldTo]; have := h.le; omega, ?_⟩
    intro x hxm
    simp only [foldTo, List.mem_append, List.mem_singleton] at hxm ⊢
    rcases hxm with hxm | rfl
    · have := h.rng x hxm; omega
    · exact h2
theorem GoodG.take {gs : List Gt} (h : GoodG gs) (k : Nat) : GoodG (gs.take k) := by
  intro i g hg
  rw [List.getElem?_take] at hg
  split at hg
  · exact h i g hg
  · cases hg
end Go.Proofs.Ytcbjaomjamfjcaa
