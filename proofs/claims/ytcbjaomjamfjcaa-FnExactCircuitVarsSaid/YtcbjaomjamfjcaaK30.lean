/-
  The variables of needed gates, in plain Lean: sorted lists without repetition; no condition.
-/
import Derived.Test.YtcbjaomjamfjcaaK11
import Derived.Lib.SlicesCompact
namespace Go.Proofs.Ytcbjaomjamfjcaa
set_option linter.unusedSimpArgs false
set_option linter.unusedVariables false
open Go.RowKit

/-- A number put into a rising list. -/
def putS : List Int → Int → List Int
  | [], x => [x]
  | y :: ys, x => if y < x then y :: putS ys x else if y = x then y :: ys else x :: y :: ys
theorem putS_mem {x y : Int} : ∀ {xs : List Int}, y ∈ putS xs x ↔ y = x ∨ y ∈ xs := by
  intro xs
  induction xs with
  | nil => simp [putS]
  | cons z zs ih =>
    simp only [putS]
    split
    · simp only [List.mem_cons, ih]
      constructor
      · rintro (h | h | h)
        · exact .inr (.inl h)
        · exact .inl h
        · exact .inr (.inr h)
      · rintro (h | h | h)
        · exact .inr (.inl h)
        · exact .inl h
        · exact .inr (.inr h)
    · split
      · rename_i h1 h2
        subst h2
        simp
      · simp
theorem putS_rises {x : Int} : ∀ {xs : List Int}, xs.Pairwise (· < ·) → (putS xs x).Pairwise (· < ·) := by
  intro xs
  induction xs with
  | nil => intro _; simp [putS]
  | cons z zs ih =>
    intro h
    rw [List.pairwise_cons] at h
    simp only [putS]
    split
    · rename_i h1
      rw [List.pairwise_cons]
      refine ⟨fun y hy => ?_, ih h.2⟩
      rcases putS_mem.1 hy with rfl | hy
      · exact h1
      · exact h.1 y hy
    · split
      · rw [List.pairwise_cons]; exact h
      · rename_i h1 h2
        rw [List.pairwise_cons, List.pairwise_cons]
        refine ⟨fun y hy => ?_, h⟩
        rcases List.mem_cons.1 hy with rfl | hy
        · omega
        · have := h.1 y hy; omega
theorem putS_len {x : Int} : ∀ {xs : List Int}, (putS xs x).length ≤ xs.length + 1 := by
  intro xs
  induction xs with
  | nil => simp [putS]
  | cons z zs ih =>
    simp only [putS]
    split
    · simp only [List.length_cons]; omega
    · split <;> simp
/-- Behind k places all of which are below x: the number is there, or is put there. -/
theorem putS_at {x : Int} : ∀ {xs : List Int} {k : Nat}, (∀ j y, j < k → xs[j]? = some y → y < x) → k ≤ xs.length → (∀ y, xs[k]? = some y → ¬ y < x) →
    putS xs x = if xs[k]? = some x then xs else xs.take k ++ (x :: xs.drop k) := by
  intro xs
  induction xs with
  | nil => intro k _ hk _; simp at hk; subst hk; simp [putS]
  | cons z zs ih =>
    intro k h1 hk h2
    cases k with
    | zero =>
      have := h2 z (by simp)
      simp only [putS, if_neg this]
      by_cases hz : z = x
      · rw [if_pos hz, if_pos (by simp [hz])]
      · rw [if_neg hz, if_neg (by simp [hz])]; simp
    | succ k =>
      have hz := h1 0 z (by omega) (by simp)
      simp only [putS, if_pos hz]
      rw [ih (k := k) (fun j y hj hy => h1 (j + 1) y (by omega) (by simpa using hy)) (by simpa using hk) (fun y hy => h2 y (by simpa using hy))]
      simp only [List.getElem?_cons_succ]
      split <;> simp
theorem rises_ext : ∀ {xs ys : List Int}, xs.Pairwise (· < ·) → ys.Pairwise (· < ·) → (∀ a, a ∈ xs ↔ a ∈ ys) → xs = ys := by
  intro xs
  induction xs with
  | nil =>
    intro ys _ _ h
    cases ys with
    | nil => rfl
    | cons y ys => exact absurd ((h y).2 (by simp)) (by simp)
  | cons x xs ih =>
    intro ys hx hy h
    cases ys with
    | nil => exact absurd ((h x).1 (by simp)) (by simp)
    | cons y ys =>
      rw [List.pairwise_cons] at hx hy
      have hxy : x = y := by
        rcases List.mem_cons.1 ((h x).1 (by simp)) with h1 | h1
        · exact h1
        · rcases List.mem_cons.1 ((h y).2 (by simp)) with h2 | h2
          · exact h2.symm
          · have := hx.1 y h2; have := hy.1 x h1; omega
      subst hxy
      rw [ih hx.2 hy.2 (fun a => ?_)]
      constructor
      · intro ha
        rcases List.mem_cons.1 ((h a).1 (List.mem_cons_of_mem _ ha)) with rfl | h1
        · have := hx.1 a ha; omega
        · exact h1
      · intro ha
        rcases List.mem_cons.1 ((h a).2 (List.mem_cons_of_mem _ ha)) with rfl | h1
        · have := hy.1 a ha; omega
        · exact h1
/-- What remains of a list in order when repeated ones go. -/
theorem compact_to {ys : List Int} (h : ys.Pairwise (· ≤ ·)) : ∀ m, m ≤ ys.length → (Lib.compactUpTo ys.toArray m).Pairwise (· < ·) ∧ (∀ a, a ∈ Lib.compactUpTo ys.toArray m ↔ ∃ j : Nat, j < m ∧ ys[j]? = some a) := by
  have hget : ∀ j, j < ys.length → ys[j]? = some (ys.toArray[j]!) := fun j hj => by
    rw [List.getElem?_eq_getElem hj]; simp [hj]
  have hle : ∀ i j, i < j → j < ys.length → ys.toArray[i]! ≤ ys.toArray[j]! := fun i j hij hj => by
    have h1 := List.pairwise_iff_getElem.1 h i j (by omega) hj hij
    have h2 := hget i (by omega)
    have h3 := hget j hj
    rw [List.getElem?_eq_getElem (by omega)] at h2 h3
    injection h2 with h2; injection h3 with h3
    rw [← h2, ← h3]; exact h1
  intro m
  induction m with
  | zero => intro _; simp [Lib.compactUpTo]
  | succ m ih =>
    intro hm
    obtain ⟨i1, i2⟩ := ih (by omega)
    rw [Lib.compactUpTo_succ]
    cases hk : Lib.keeps ys.toArray m
    · simp only [Bool.false_eq_true, if_false, List.append_nil]
      refine ⟨i1, fun a => ?_⟩
      rw [i2]
      have hd : m ≠ 0 ∧ ys.toArray[m]! = ys.toArray[m - 1]! := by
        unfold Lib.keeps at hk
        simp only [decide_eq_false_iff_not, not_or, ne_eq, Classical.not_not] at hk
        exact hk
      constructor
      · rintro ⟨j, hj, ha⟩; exact ⟨j, by omega, ha⟩
      · rintro ⟨j, hj, ha⟩
        by_cases hjm : j = m
        · subst hjm
          refine ⟨j - 1, by omega, ?_⟩
          rw [hget j (by omega)] at ha
          rw [hget (j - 1) (by omega), ← hd.2]; exact ha
        · exact ⟨j, by omega, ha⟩
    · simp only [if_true]
      refine ⟨?_, fun a => ?_⟩
      · rw [List.pairwise_append]
        refine ⟨i1, by simp, fun a ha b hb => ?_⟩
        rw [List.mem_singleton] at hb
        subst hb
        obtain ⟨j, hj, haj⟩ := (i2 a).1 ha
        rw [hget j (by omega)] at haj
        injection haj with haj
        subst haj
        have h1 := hle j m hj (by omega)
        have h2 : ys.toArray[m]! ≠ ys.toArray[m - 1]! := by
          unfold Lib.keeps at hk
          simp only [decide_eq_true_eq] at hk
          rcases hk with hk | hk
          · omega
          · exact hk
        by_cases hjm : j = m - 1
        · subst hjm; omega
        · have h3 := hle j (m - 1) (by omega) (by omega)
          have h4 := hle (m - 1) m (by omega) (by omega)
          omega
      · rw [List.mem_append, List.mem_singleton, i2]
        constructor
        · rintro (⟨j, hj, ha⟩ | rfl)
          · exact ⟨j, by omega, ha⟩
          · exact ⟨m, by omega, hget m (by omega)⟩
        · rintro ⟨j, hj, ha⟩
          by_cases hjm : j = m
          · subst hjm
            rw [hget j (by omega)] at ha
            injection ha with ha
            exact .inr ha.symm
          · exact .inl ⟨j, by omega, ha⟩
theorem foldl_putS_facts : ∀ (zs acc : List Int), acc.Pairwise (· < ·) → (zs.foldl putS acc).Pairwise (· < ·) ∧ ∀ a, a ∈ zs.foldl putS acc ↔ a ∈ acc ∨ a ∈ zs := by
  intro zs
  induction zs with
  | nil => intro acc h; exact ⟨h, by simp⟩
  | cons z zs ih =>
    intro acc h
    obtain ⟨h1, h2⟩ := ih (putS acc z) (putS_rises h)
    refine ⟨h1, fun a => ?_⟩
    simp only [List.foldl_cons, h2, putS_mem, List.mem_cons]
    constructor
    · rintro ((h | h) | h)
      · exact .inr (.inl h)
      · exact .inl h
      · exact .inr (.inr h)
    · rintro (h | h | h)
      · exact .inl (.inr h)
      · exact .inl (.inl h)
      · exact .inr h
theorem compact_sort (zs : List Int) : Lib.compact (zs.mergeSort fun x y => decide (x ≤ y)) = zs.foldl putS [] := by
  obtain ⟨ys, hys⟩ : ∃ ys, ys = zs.mergeSort fun x y => decide (x ≤ y) := ⟨_, rfl⟩
  rw [← hys]
  have hs : ys.Pairwise (· ≤ ·) := by
    have := List.pairwise_mergeSort (le := fun x y : Int => decide (x ≤ y)) (fun a b c => by simp; omega) (fun a b => by simp; omega) zs
    rw [← hys] at this
    exact this.imp (by simp)
  have hm : ∀ a, a ∈ ys ↔ a ∈ zs := fun a => by rw [hys]; exact (List.mergeSort_perm zs _).mem_iff
  obtain ⟨h1, h2⟩ := foldl_putS_facts zs [] List.Pairwise.nil
  obtain ⟨h3, h4⟩ := compact_to hs ys.length (Nat.le_refl _)
  refine rises_ext h3 h1 (fun a => ?_)
  rw [show Lib.compactUpTo ys.toArray ys.length = Lib.compactUpTo ys.toArray ys.length from rfl] at h4
  unfold Lib.compact
  rw [h4, h2]
  simp only [List.not_mem_nil, false_or, ← hm]
  rw [List.mem_iff_getElem?]
  constructor
  · rintro ⟨j, _, h⟩; exact ⟨j, h⟩
  · rintro ⟨j, h⟩; exact ⟨j, (List.getElem?_eq_some_iff.1 h).1, h⟩
/-- The variables of the needed gates among the first k. -/
def varTo (gs : List Gt) : Nat → List Int
  | 0 => []
  | k + 1 => varTo gs k ++ (if mark gs k && decide ((gs.getD k g0).1 = 1) then [(gs.getD k g0).2.1] else [])
def cvarsG (gs : List Gt) : List Int := (varTo gs gs.length).foldl putS []
theorem varTo_len (gs : List Gt) (k : Nat) : (varTo gs k).length ≤ k := by
  induction k with
  | zero => simp [varTo]
  | succ k ih => simp only [varTo, List.length_append]; split <;> simp <;> omega
theorem foldl_putS_len : ∀ (zs acc : List Int), (zs.foldl putS acc).length ≤ acc.length + zs.length := by
  intro zs
  induction zs with
  | nil => intro acc; simp
  | cons z zs ih =>
    intro acc
    have h1 := ih (putS acc z)
    have h2 := putS_len (xs := acc) (x := z)
    simp only [List.foldl_cons, List.length_cons]
    omega
theorem varTo_need (gs : List Gt) (k : Nat) : varTo gs k = ((needTo gs k).filter fun i => decide ((gs.getD i.toNat g0).1 = 1)).map fun i => (gs.getD i.toNat g0).2.1 := by
  induction k with
  | zero => rfl
  | succ k ih =>
    simp only [varTo, needTo, ih, List.filter_append, List.map_append]
    congr 1
    cases mark gs k
    · simp
    · by_cases h : (gs.getD k g0).1 = 1
      · rw [List.getD_eq_getElem?_getD] at h; simp [h]
      · rw [List.getD_eq_getElem?_getD] at h; simp [h]
end Go.Proofs.Ytcbjaomjamfjcaa
