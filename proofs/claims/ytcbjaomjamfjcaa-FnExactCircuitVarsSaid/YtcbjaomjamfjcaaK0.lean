/-
  Gates and circuits in plain Lean: validity, values, the needed gates, trimming; no condition.
-/
import Derived.Test.YtcbjaomjamfjcaaBase
namespace Go.Proofs.Ytcbjaomjamfjcaa
set_option linter.unusedSimpArgs false
set_option linter.unusedVariables false
open Go.RowKit

/-- A gate: its kind and its two numbers. -/
abbrev Gt := Int × Int × Int
def g0 : Gt := (0, 0, 0)
/-- Is the gate valid at index i over v variables? -/
def gateB (v i : Int) (g : Gt) : Bool :=
  if g.1 = 1 then within g.2.1 1 v && decide (g.2.2 = 0)
  else if g.1 = 2 ∨ g.1 = 3 then decide (g.2.1 = 0) && decide (g.2.2 = 0)
  else if g.1 = 4 then within g.2.1 0 (i - 1) && decide (g.2.2 = 0)
  else if g.1 = 5 ∨ g.1 = 6 then within g.2.1 0 (i - 1) && within g.2.2 0 (i - 1)
  else false
theorem gateB_1 (v i a b : Int) : gateB v i (1, a, b) = (within a 1 v && decide (b = 0)) := by simp [gateB]
theorem gateB_2 (v i a b : Int) : gateB v i (2, a, b) = (decide (a = 0) && decide (b = 0)) := by simp [gateB]
theorem gateB_3 (v i a b : Int) : gateB v i (3, a, b) = (decide (a = 0) && decide (b = 0)) := by simp [gateB]
theorem gateB_4 (v i a b : Int) : gateB v i (4, a, b) = (within a 0 (i - 1) && decide (b = 0)) := by simp [gateB]
theorem gateB_5 (v i a b : Int) : gateB v i (5, a, b) = (within a 0 (i - 1) && within b 0 (i - 1)) := by simp [gateB]
theorem gateB_6 (v i a b : Int) : gateB v i (6, a, b) = (within a 0 (i - 1) && within b 0 (i - 1)) := by simp [gateB]
theorem gateB_no (v i k a b : Int) (h : k ≠ 1 ∧ k ≠ 2 ∧ k ≠ 3 ∧ k ≠ 4 ∧ k ≠ 5 ∧ k ≠ 6) : gateB v i (k, a, b) = false := by
  obtain ⟨h1, h2, h3, h4, h5, h6⟩ := h
  simp [gateB, h1, h2, h3, h4, h5, h6]
def gateAt (v : Int) (gs : List Gt) (i : Nat) : Bool := gateB v i (gs.getD i g0)
def circB (v : Int) (gs : List Gt) : Bool := within v 0 12 && within gs.length 1 200 && (List.range gs.length).all (gateAt v gs)

/-- The indices that a gate has. -/
def insG (g : Gt) : List Int := if g.1 = 4 then [g.2.1] else if g.1 = 5 ∨ g.1 = 6 then [g.2.1, g.2.2] else []
/-- What circuits have: each gate's indices lie below its own; a variable's number fits; no kind beyond 1 to 6. -/
def GoodG (gs : List Gt) : Prop := ∀ (i : Nat) (g : Gt), gs[i]? = some g → (1 ≤ g.1 ∧ g.1 ≤ 6) ∧ (∀ k ∈ insG g, 0 ≤ k ∧ k < i) ∧ (g.1 = 1 → 1 ≤ g.2.1 ∧ g.2.1 ≤ 12)
theorem circ_facts {v : Int} {gs : List Gt} (h : circB v gs = true) : (0 ≤ v ∧ v ≤ 12) ∧ (1 ≤ gs.length ∧ gs.length ≤ 200) ∧ GoodG gs := by
  obtain ⟨h1, h2, h3⟩ := and3_true h
  have h1 := within_true h1
  have h2 := within_true h2
  refine ⟨h1, by omega, fun i g hg => ?_⟩
  rw [List.all_eq_true] at h3
  have hi : i < gs.length := (List.getElem?_eq_some_iff.1 hg).1
  have h4 := h3 i (by simpa using hi)
  unfold gateAt at h4
  rw [List.getD_eq_getElem?_getD, hg] at h4
  simp only [Option.getD_some] at h4
  obtain ⟨k, a, b⟩ := g
  by_cases hk : k ≠ 1 ∧ k ≠ 2 ∧ k ≠ 3 ∧ k ≠ 4 ∧ k ≠ 5 ∧ k ≠ 6
  · rw [gateB_no _ _ _ _ _ hk] at h4; cases h4
  · have : k = 1 ∨ k = 2 ∨ k = 3 ∨ k = 4 ∨ k = 5 ∨ k = 6 := by omega
    rcases this with rfl | rfl | rfl | rfl | rfl | rfl
    · rw [gateB_1] at h4; obtain ⟨h5, h6⟩ := and2_true h4; have := within_true h5
      exact ⟨⟨by simp, by simp⟩, by simp [insG], fun _ => by simp; omega⟩
    · exact ⟨⟨by simp, by simp⟩, by simp [insG], by simp⟩
    · exact ⟨⟨by simp, by simp⟩, by simp [insG], by simp⟩
    · rw [gateB_4] at h4; obtain ⟨h5, h6⟩ := and2_true h4; have := within_true h5
      exact ⟨⟨by simp, by simp⟩, by simp [insG]; omega, by simp⟩
    · rw [gateB_5] at h4; obtain ⟨h5, h6⟩ := and2_true h4; have := within_true h5; have := within_true h6
      exact ⟨⟨by simp, by simp⟩, by simp [insG]; omega, by simp⟩
    · rw [gateB_6] at h4; obtain ⟨h5, h6⟩ := and2_true h4; have := within_true h5; have := within_true h6
      exact ⟨⟨by simp, by simp⟩, by simp [insG]; omega, by simp⟩

/-! ### Values -/
def gval (bits : Nat) (vs : List Bool) (g : Gt) : Bool :=
  if g.1 = 1 then bits.testBit (g.2.1.toNat - 1) else if g.1 = 2 then true else if g.1 = 4 then !vs.getD g.2.1.toNat false
  else if g.1 = 5 then vs.getD g.2.1.toNat false && vs.getD g.2.2.toNat false else if g.1 = 6 then vs.getD g.2.1.toNat false || vs.getD g.2.2.toNat false else false
/-- The values of the first k gates. -/
def gvals (bits : Nat) (gs : List Gt) : Nat → List Bool
  | 0 => []
  | k + 1 => gvals bits gs k ++ [gval bits (gvals bits gs k) (gs.getD k g0)]
theorem gvals_length (bits : Nat) (gs : List Gt) (k : Nat) : (gvals bits gs k).length = k := by
  induction k with
  | zero => rfl
  | succ k ih => simp [gvals, ih]

/-! ### Needed gates -/
def setT (m : List Bool) (ks : List Int) : List Bool := ks.foldl (fun m k => m.set k.toNat true) m
def needStep (gs : List Gt) (m : List Bool) (i : Nat) : List Bool := if m.getD i false then setT m (insG (gs.getD i g0)) else m
def needDown (gs : List Gt) : Nat → List Bool → List Bool
  | 0, m => m
  | i + 1, m => needDown gs i (needStep gs m i)
def need0 (n : Nat) : List Bool := (List.replicate n false).set (n - 1) true
def marks (gs : List Gt) : List Bool := needDown gs gs.length (need0 gs.length)
def mark (gs : List Gt) (i : Nat) : Bool := (marks gs).getD i false

theorem setT_length (m : List Bool) (ks : List Int) : (setT m ks).length = m.length := by
  induction ks generalizing m with
  | nil => rfl
  | cons k ks ih => simp only [setT, List.foldl_cons] at ih ⊢; rw [ih]; simp
theorem setT_high {m : List Bool} {ks : List Int} {i : Nat} (h : ∀ k ∈ ks, k.toNat < i) {j : Nat} (hj : i ≤ j) : (setT m ks)[j]? = m[j]? := by
  induction ks generalizing m with
  | nil => rfl
  | cons k ks ih =>
    simp only [setT, List.foldl_cons] at ih ⊢
    rw [ih (fun k hk => h k (by simp [hk])), List.getElem?_set_ne (by have := h k (by simp); omega)]
theorem setT_keeps {m : List Bool} {ks : List Int} {j : Nat} (h : m[j]? = some true) : (setT m ks)[j]? = some true := by
  induction ks generalizing m with
  | nil => exact h
  | cons k ks ih =>
    simp only [setT, List.foldl_cons] at ih ⊢
    refine ih ?_
    rw [List.getElem?_set]
    have hl : j < m.length := (List.getElem?_eq_some_iff.1 h).1
    split
    · split
      · rfl
      · omega
    · exact h
theorem setT_hits {m : List Bool} {ks : List Int} {k : Int} (hk : k ∈ ks) (hl : k.toNat < m.length) : (setT m ks)[k.toNat]? = some true := by
  induction ks generalizing m with
  | nil => cases hk
  | cons k' ks ih =>
    rcases List.mem_cons.1 hk with rfl | hk'
    · have : (m.set k.toNat true)[k.toNat]? = some true := by rw [List.getElem?_set]; simp [hl]
      simpa only [setT, List.foldl_cons] using setT_keeps (ks := ks) this
    · simp only [setT, List.foldl_cons] at ih ⊢
      exact ih hk' (by simpa using hl)
theorem needStep_length (gs : List Gt) (m : List Bool) (i : Nat) : (needStep gs m i).length = m.length := by
  unfold needStep; split
  · exact setT_length _ _
  · rfl
theorem needDown_length (gs : List Gt) (i : Nat) : ∀ m, (needDown gs i m).length = m.length := by
  induction i with
  | zero => intro m; rfl
  | succ i ih => intro m; simp only [needDown]; rw [ih, needStep_length]
theorem marks_length (gs : List Gt) : (marks gs).length = gs.length := by
  unfold marks need0; rw [needDown_length]; simp
theorem ins_low {gs : List Gt} (h : GoodG gs) {i : Nat} : ∀ k ∈ insG (gs.getD i g0), 0 ≤ k ∧ k.toNat < i := by
  intro k hk
  rw [List.getD_eq_getElem?_getD] at hk
  cases hg : gs[i]? with
  | none => rw [hg] at hk; simp [g0, insG] at hk
  | some g => rw [hg] at hk; have := (h i g hg).2.1 k hk; omega
theorem needDown_high {gs : List Gt} (h : GoodG gs) (i : Nat) : ∀ (m : List Bool) (j : Nat), i ≤ j + 1 → (needDown gs i m)[j]? = m[j]? := by
  induction i with
  | zero => intro m j _; rfl
  | succ i ih =>
    intro m j hj
    simp only [needDown]
    by_cases hij : i ≤ j
    · rw [ih _ j (by omega)]
      unfold needStep
      split
      · exact setT_high (i := i) (fun k hk => (ins_low h k hk).2) hij
      · rfl
    · omega
theorem needDown_keeps {gs : List Gt} (i : Nat) : ∀ (m : List Bool) (j : Nat), m[j]? = some true → (needDown gs i m)[j]? = some true := by
  induction i with
  | zero => intro m j h; exact h
  | succ i ih =>
    intro m j h
    simp only [needDown]
    refine ih _ _ ?_
    unfold needStep
    split
    · exact setT_keeps h
    · exact h
theorem needDown_closed {gs : List Gt} (h : GoodG gs) (i : Nat) : ∀ (m : List Bool) (j : Nat), j < i → m.length = gs.length → i ≤ gs.length → (needDown gs i m).getD j false = true → ∀ k ∈ insG (gs.getD j g0), (needDown gs i m)[k.toNat]? = some true := by
  induction i with
  | zero => intro m j hj; omega
  | succ i ih =>
    intro m j hj hl hi hm k hk
    simp only [needDown] at hm ⊢
    by_cases hij : j < i
    · exact ih _ j hij (by rw [needStep_length, hl]) (by omega) hm k hk
    · obtain rfl : j = i := by omega
      have hlow := ins_low h k hk
      refine needDown_keeps j _ _ ?_
      have h1 : (needStep gs m j).getD j false = true := by
        rw [List.getD_eq_getElem?_getD] at hm ⊢
        rwa [needDown_high h j _ j (by omega)] at hm
      have h2 : m.getD j false = true := by
        cases hc : m.getD j false with
        | true => rfl
        | false => unfold needStep at h1; rw [hc] at h1; simp at h1; rw [List.getD_eq_getElem?_getD, h1] at hc; simp at hc
      unfold needStep
      rw [if_pos h2]
      exact setT_hits hk (by omega)
theorem mark_closed {gs : List Gt} (h : GoodG gs) {j : Nat} (hj : j < gs.length) (hm : mark gs j = true) : ∀ k ∈ insG (gs.getD j g0), mark gs k.toNat = true := by
  intro k hk
  unfold mark marks at hm ⊢
  rw [List.getD_eq_getElem?_getD, needDown_closed h gs.length _ j hj (by simp [need0]) (Nat.le_refl _) hm k hk]
  rfl
theorem mark_last {gs : List Gt} (hl : 0 < gs.length) : mark gs (gs.length - 1) = true := by
  unfold mark marks
  rw [List.getD_eq_getElem?_getD, needDown_keeps _ _ _ (by unfold need0; rw [List.getElem?_set]; simp; omega)]
  rfl
/-- The state of the marks when only the indices below i are left. -/
def needAt (gs : List Gt) (i : Nat) (m : List Bool) : Prop := m.length = gs.length ∧ needDown gs i m = marks gs
theorem needAt_first (gs : List Gt) : needAt gs gs.length (need0 gs.length) := ⟨by simp [need0], rfl⟩
theorem needAt_next {gs : List Gt} {i : Nat} {m : List Bool} (h : needAt gs (i + 1) m) : needAt gs i (needStep gs m i) := ⟨by rw [needStep_length]; exact h.1, h.2⟩
theorem needAt_get {gs : List Gt} (hg : GoodG gs) {i : Nat} {m : List Bool} (h : needAt gs (i + 1) m) : m.getD i false = mark gs i := by
  unfold mark
  rw [← h.2, List.getD_eq_getElem?_getD, List.getD_eq_getElem?_getD, needDown_high hg (i + 1) m i (Nat.le_refl _)]

/-! ### Trimming -/
def moveG (f : Int → Int) (g : Gt) : Gt := if g.1 = 4 then (g.1, f g.2.1, g.2.2) else if g.1 = 5 ∨ g.1 = 6 then (g.1, f g.2.1, f g.2.2) else g
theorem moveG_congr {f f' : Int → Int} {g : Gt} (h : ∀ k ∈ insG g, f k = f' k) : moveG f g = moveG f' g := by
  obtain ⟨k, a, b⟩ := g
  unfold moveG
  unfold insG at h
  dsimp only at h ⊢
  by_cases h4 : k = 4
  · subst h4
    have := h a (by simp)
    simp [this]
  · by_cases h5 : k = 5 ∨ k = 6
    · have h6 := h a (by rw [if_neg h4, if_pos h5]; simp)
      have h7 := h b (by rw [if_neg h4, if_pos h5]; simp)
      rw [h6, h7]
    · rw [if_neg h4, if_neg h5, if_neg h4, if_neg h5]
/-- How many of the first k are marked. -/
def posG (gs : List Gt) (k : Int) : Int := countB (mark gs) k.toNat
/-- The marked ones among the first k, moved. -/
def trimTo (gs : List Gt) : Nat → List Gt
  | 0 => []
  | k + 1 => trimTo gs k ++ (if mark gs k then [moveG (posG gs) (gs.getD k g0)] else [])
def trimG (gs : List Gt) : List Gt := trimTo gs gs.length
theorem trimTo_length (gs : List Gt) (k : Nat) : (trimTo gs k).length = countB (mark gs) k := by
  induction k with
  | zero => rfl
  | succ k ih => simp only [trimTo, List.length_append, ih, countB]; split <;> rfl
/-- The indices of the needed gates among the first k. -/
def needTo (gs : List Gt) : Nat → List Int
  | 0 => []
  | k + 1 => needTo gs k ++ (if mark gs k then [(k : Int)] else [])
theorem needTo_length (gs : List Gt) (k : Nat) : (needTo gs k).length = countB (mark gs) k := by
  induction k with
  | zero => rfl
  | succ k ih => simp only [needTo, List.length_append, ih, countB]; split <;> rfl
theorem trimTo_eq (gs : List Gt) (k : Nat) : trimTo gs k = (needTo gs k).map fun i => moveG (posG gs) (gs.getD i.toNat g0) := by
  induction k with
  | zero => rfl
  | succ k ih => simp only [trimTo, needTo, List.map_append, ih]; split <;> simp [List.map]
theorem needTo_mem {gs : List Gt} {k : Nat} {x : Int} : x ∈ needTo gs k ↔ (0 ≤ x ∧ x < k ∧ mark gs x.toNat = true) := by
  induction k with
  | zero => simp [needTo]; omega
  | succ k ih =>
    simp only [needTo, List.mem_append, ih]
    split
    · rename_i h
      simp only [List.mem_singleton]
      constructor
      · rintro (⟨h1, h2, h3⟩ | rfl)
        · exact ⟨h1, by omega, h3⟩
        · exact ⟨by omega, by omega, by simpa using h⟩
      · rintro ⟨h1, h2, h3⟩
        by_cases hx : x = k
        · exact .inr hx
        · exact .inl ⟨h1, by omega, h3⟩
    · rename_i h
      simp only [List.not_mem_nil, or_false]
      constructor
      · rintro ⟨h1, h2, h3⟩; exact ⟨h1, by omega, h3⟩
      · rintro ⟨h1, h2, h3⟩
        refine ⟨h1, ?_, h3⟩
        have : x ≠ k := by rintro rfl; simp at h3; exact h h3
        omega
end Go.Proofs.Ytcbjaomjamfjcaa
