/-
  Sets of nodes as bits; the nodes under a node: plain laws.
-/
import Derived.Test.YtialpmmdomhobaaK0
import Derived.Test.YtialpmmdomhobaaC14
namespace Go.Proofs.Ytialpmmdomhobaa
set_option linter.unusedSimpArgs false
set_option linter.unusedVariables false
open Go.RowKit

/-- The predecessors of a node. -/
def prd (xss : List (List Int)) (x : Nat) : List Int := xss.getD x []
/-- Every predecessor lies below its node. -/
def GoodD (xss : List (List Int)) : Prop := ∀ x, ∀ p ∈ prd xss x, 0 ≤ p ∧ p < x
/-- A list of nodes as bits. -/
def bitsOf (xs : List Int) : Nat := xs.foldl (fun s x => s ||| 2 ^ x.toNat) 0
theorem bitsOf_snoc (xs : List Int) (x : Int) : bitsOf (xs ++ [x]) = bitsOf xs ||| 2 ^ x.toNat := by simp [bitsOf]
theorem or_small {a b : Nat} (ha : a < 1024) (hb : b < 1024) : a ||| b < 1024 := Nat.or_lt_two_pow (n := 10) ha hb
theorem pow_small10 {x : Nat} (h : x ≤ 9) : 2 ^ x < 1024 := by
  have : ∀ x < 10, 2 ^ x < 1024 := by decide
  exact this x (by omega)
/-- The nodes under a node, as bits. -/
def undF (xss : List (List Int)) : Nat → Nat → Nat
  | 0, _ => 0
  | f + 1, x => (prd xss x).foldl (fun s p => s ||| undF xss f p.toNat) (2 ^ x)
def und (xss : List (List Int)) (x : Nat) : Nat := undF xss (x + 1) x
theorem foldl_congr_mem {α β} (f g : β → α → β) (xs : List α) (h : ∀ x ∈ xs, ∀ s, f s x = g s x) : ∀ s, xs.foldl f s = xs.foldl g s := by
  induction xs with
  | nil => intro s; rfl
  | cons x xs ih => intro s; simp only [List.foldl_cons, h x (by simp)]; exact ih (fun y hy => h y (by simp [hy])) _
theorem undF_eq {xss : List (List Int)} (hg : GoodD xss) : ∀ x f, x < f → undF xss f x = und xss x := by
  intro x
  induction x using Nat.strongRecOn with
  | _ x ih =>
    intro f hf
    obtain ⟨f, rfl⟩ : ∃ f', f = f' + 1 := ⟨f - 1, by omega⟩
    unfold und
    simp only [undF]
    refine foldl_congr_mem _ _ _ (fun p hp s => ?_) _
    have h1 := hg x p hp
    rw [ih p.toNat (by omega) f (by omega), ih p.toNat (by omega) x (by omega)]
theorem und_eq {xss : List (List Int)} (hg : GoodD xss) (x : Nat) : und xss x = (prd xss x).foldl (fun s p => s ||| und xss p.toNat) (2 ^ x) := by
  unfold und
  simp only [undF]
  refine foldl_congr_mem _ _ _ (fun p hp s => ?_) _
  have h1 := hg x p hp
  rw [undF_eq hg p.toNat x (by omega)]; rfl
theorem foldl_or_bit {α} (f : α → Nat) (xs : List α) (j : Nat) : ∀ s, (xs.foldl (fun s p => s ||| f p) s).testBit j = (s.testBit j || xs.any fun p => (f p).testBit j) := by
  induction xs with
  | nil => intro s; simp
  | cons x xs ih => intro s; simp only [List.foldl_cons, ih, List.any_cons, Nat.testBit_or, Bool.or_assoc]
theorem und_bit {xss : List (List Int)} (hg : GoodD xss) (x j : Nat) : (und xss x).testBit j = true ↔ (j = x ∨ ∃ p ∈ prd xss x, (und xss p.toNat).testBit j = true) := by
  rw [und_eq hg, foldl_or_bit, Bool.or_eq_true, List.any_eq_true, Nat.testBit_two_pow, decide_eq_true_eq]
  constructor
  · rintro (h | h)
    · exact .inl h.symm
    · exact .inr h
  · rintro (h | h)
    · exact .inl h.symm
    · exact .inr h
theorem und_le {xss : List (List Int)} (hg : GoodD xss) : ∀ x j, (und xss x).testBit j = true → j ≤ x := by
  intro x
  induction x using Nat.strongRecOn with
  | _ x ih =>
    intro j hj
    rcases (und_bit hg x j).1 hj with rfl | ⟨p, hp, hb⟩
    · exact Nat.le_refl _
    · have h1 := hg x p hp
      have := ih p.toNat (by omega) j hb
      omega
theorem und_closed {xss : List (List Int)} (hg : GoodD xss) : ∀ x i, (und xss x).testBit i = true → ∀ p ∈ prd xss i, (und xss x).testBit p.toNat = true := by
  intro x
  induction x using Nat.strongRecOn with
  | _ x ih =>
    intro i hi p hp
    rcases (und_bit hg x i).1 hi with rfl | ⟨q, hq, hb⟩
    · exact (und_bit hg i p.toNat).2 (.inr ⟨p, hp, (und_bit hg p.toNat p.toNat).2 (.inl rfl)⟩)
    · have h1 := hg x q hq
      exact (und_bit hg x p.toNat).2 (.inr ⟨q, hq, ih q.toNat (by omega) i hb p hp⟩)
theorem und_small {xss : List (List Int)} (hg : GoodD xss) {x : Nat} (hx : x ≤ 9) : und xss x < 1024 := by
  refine Nat.lt_pow_two_of_testBit (n := 10) _ (fun i hi => ?_)
  cases h : (und xss x).testBit i with
  | false => rfl
  | true => have := und_le hg x i h; omega

/-! ### The reference's marks -/
def dStep (xss : List (List Int)) (m : List Bool) (i : Nat) : List Bool := if m.getD i false then setT m (prd xss i) else m
def dDown (xss : List (List Int)) : Nat → List Bool → List Bool
  | 0, m => m
  | i + 1, m => dDown xss i (dStep xss m i)
def dMarks (xss : List (List Int)) (x : Nat) : List Bool := dDown xss (x + 1) ((List.replicate xss.length false).set x true)
theorem dStep_length (xss : List (List Int)) (m : List Bool) (i : Nat) : (dStep xss m i).length = m.length := by
  unfold dStep; split
  · exact setT_length _ _
  · rfl
theorem dDown_length (xss : List (List Int)) (i : Nat) : ∀ m, (dDown xss i m).length = m.length := by
  induction i with
  | zero => intro m; rfl
  | succ i ih => intro m; simp only [dDown]; rw [ih, dStep_length]
theorem setT_only {m : List Bool} {ks : List Int} {j : Nat} (h : (setT m ks).getD j false = true) : m.getD j false = true ∨ ∃ k ∈ ks, k.toNat = j := by
  induction ks generalizing m with
  | nil => exact .inl h
  | cons k ks ih =>
    simp only [setT, List.foldl_cons] at ih h
    rcases ih h with h1 | ⟨k', hk', h2⟩
    · rw [List.getD_eq_getElem?_getD, List.getElem?_set] at h1
      by_cases hkj : k.toNat = j
      · exact .inr ⟨k, by simp, hkj⟩
      · rw [if_neg hkj, ← List.getD_eq_getElem?_getD] at h1; exact .inl h1
    · exact .inr ⟨k', by simp [hk'], h2⟩
theorem dDown_only {xss : List (List Int)} (hg : GoodD xss) (x : Nat) (i : Nat) : ∀ m : List Bool, (∀ j, m.getD j false = true → (und xss x).testBit j = true) → ∀ j, (dDown xss i m).getD j false = true → (und xss x).testBit j = true := by
  induction i with
  | zero => intro m h; exact h
  | succ i ih =>
    intro m h
    simp only [dDown]
    refine ih _ (fun j hj => ?_)
    unfold dStep at hj
    split at hj
    · rename_i hi
      rcases setT_only hj with h1 | ⟨k, hk, rfl⟩
      · exact h j h1
      · exact und_closed hg x i (h i hi) k hk
    · exact h j hj
theorem dDown_keeps {xss : List (List Int)} (i : Nat) : ∀ (m : List Bool) (j : Nat), m[j]? = some true → (dDown xss i m)[j]? = some true := by
  induction i with
  | zero => intro m j h; exact h
  | succ i ih =>
    intro m j h
    simp only [dDown]
    refine ih _ _ ?_
    unfold dStep
    split
    · exact setT_keeps h
    · exact h
theorem dDown_high {xss : List (List Int)} (hg : GoodD xss) (i : Nat) : ∀ (m : List Bool) (j : Nat), i ≤ j + 1 → (dDown xss i m)[j]? = m[j]? := by
  induction i with
  | zero => intro m j _; rfl
  | succ i ih =>
    intro m j hj
    simp only [dDown]
    by_cases hij : i ≤ j
    · rw [ih _ j (by omega)]
      unfold dStep
      split
      · exact setT_high (i := i) (fun k hk => by have := hg i k hk; omega) hij
      · rfl
    · omega
theorem dDown_closed {xss : List (List Int)} (hg : GoodD xss) (i : Nat) : ∀ (m : List Bool) (j : Nat), j < i → i ≤ m.length → (dDown xss i m).getD j false = true → ∀ k ∈ prd xss j, (dDown xss i m)[k.toNat]? = some true := by
  induction i with
  | zero => intro m j hj; omega
  | succ i ih =>
    intro m j hj hl hm k hk
    simp only [dDown] at hm ⊢
    by_cases hij : j < i
    · exact ih _ j hij (by rw [dStep_length]; omega) hm k hk
    · obtain rfl : j = i := by omega
      have hlow := hg j k hk
      refine dDown_keeps j _ _ ?_
      have h1 : (dStep xss m j).getD j false = true := by
        rw [List.getD_eq_getElem?_getD] at hm ⊢
        rwa [dDown_high hg j _ j (by omega)] at hm
      have h2 : m.getD j false = true := by
        cases hc : m.getD j false with
        | true => rfl
        | false => unfold dStep at h1; rw [hc] at h1; simp at h1; rw [List.getD_eq_getElem?_getD, h1] at hc; simp at hc
      unfold dStep
      rw [if_pos h2]
      exact setT_hits hk (by omega)
theorem dMarks_bit {xss : List (List Int)} (hg : GoodD xss) {x : Nat} (hx : x < xss.length) (j : Nat) : (dMarks xss x).getD j false = (und xss x).testBit j := by
  have h0 : ((List.replicate xss.length false).set x true)[x]? = some true := by rw [List.getElem?_set]; simp [hx]
  have hall : ∀ a, a ≤ x → (dMarks xss x).getD a false = true → ∀ j, (und xss a).testBit j = true → (dMarks xss x).getD j false = true := by
    intro a
    induction a using Nat.strongRecOn with
    | _ a ih =>
      intro ha hm j hj
      rcases (und_bit hg a j).1 hj with rfl | ⟨p, hp, hb⟩
      · exact hm
      · have h1 := hg a p hp
        have h2 := dDown_closed hg (x + 1) ((List.replicate xss.length false).set x true) a (by omega) (by simp; omega) hm p hp
        exact ih p.toNat (by omega) (by omega) (by unfold dMarks; rw [List.getD_eq_getElem?_getD, h2]; rfl) j hb
  rw [Bool.eq_iff_iff]
  constructor
  · intro h
    refine dDown_only hg x (x + 1) _ (fun j hj => ?_) j h
    rw [List.getD_eq_getElem?_getD, List.getElem?_set] at hj
    by_cases hxj : x = j
    · subst hxj; exact (und_bit hg x x).2 (.inl rfl)
    · rw [if_neg hxj, List.getElem?_replicate] at hj
      split at hj <;> simp at hj
  · intro h
    refine hall x (Nat.le_refl _) ?_ j h
    unfold dMarks
    rw [List.getD_eq_getElem?_getD, dDown_keeps _ _ _ h0]; rfl
theorem pickAll_more {p : Nat → Bool} {n m : Nat} (hnm : n ≤ m) (h : ∀ j, n ≤ j → p j = false) : pickAll p m = pickAll p n := by
  induction m with
  | zero => obtain rfl : n = 0 := by omega
            rfl
  | succ m ih =>
    by_cases hn : n ≤ m
    · rw [pickAll_miss (h m hn), ih hn]
    · obtain rfl : n = m + 1 := by omega
      rfl
theorem dag_good {xss : List (List Int)} (h : dagOk xss = true) : GoodD xss := by
  obtain ⟨-, h2⟩ := and2_true h
  rw [List.all_eq_true] at h2
  intro x p hp
  unfold prd at hp
  by_cases hx : x < xss.length
  · have h3 := h2 x (by simpa using hx)
    unfold dagRow rising at h3
    rw [List.all_eq_true] at h3
    obtain ⟨i, hi⟩ := List.getElem?_of_mem hp
    have hil := (List.getElem?_eq_some_iff.1 hi).1
    have h4 := h3 i (by simpa using hil)
    unfold riseAt at h4
    rw [getD_of (hide hi)] at h4
    have := within_true (and2_true h4).1
    omega
  · rw [List.getD_eq_getElem?_getD, List.getElem?_eq_none (by omega)] at hp
    simp at hp
end Go.Proofs.Ytialpmmdomhobaa
