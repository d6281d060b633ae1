/-
  Pebbling in plain Lean: moves, positions, counts; no condition.
-/
import Derived.Test.YtialpmmdomhobaaD2
import Derived.Test.YtialpmmdomhobaaD3
namespace Go.Proofs.Ytialpmmdomhobaa
set_option linter.unusedSimpArgs false
set_option linter.unusedVariables false
open Go.RowKit

/-- Do all predecessors have a pebble? -/
def fedB (xss : List (List Int)) (s x : Nat) : Bool := (prd xss x).all fun p => s.testBit p.toNat
/-- The position behind a move. -/
def moveP (xss : List (List Int)) (rev : Bool) (s : Nat) (m : Mv) : Option Nat :=
  if within m.2 0 ((xss.length : Int) - 1) then
    if m.1 = 1 then (if !s.testBit m.2.toNat && fedB xss s m.2.toNat then some (s ||| 2 ^ m.2.toNat) else none)
    else if m.1 = 2 then (if s.testBit m.2.toNat && (!rev || fedB xss s m.2.toNat) then some (s - 2 ^ m.2.toNat) else none)
    else none
  else none
/-- The positions behind the first k moves, the last one first told apart. -/
def posTo (xss : List (List Int)) (rev : Bool) (ms : List Mv) : Nat → Option (List Nat × Nat)
  | 0 => some ([], 0)
  | k + 1 => match posTo xss rev ms k with
    | none => none
    | some (ps, s) => (moveP xss rev s (ms.getD k (0, 0))).map fun t => (ps ++ [s], t)
theorem sub_small {s x : Nat} (hs : s < 1024) : s - 2 ^ x < 1024 := Nat.lt_of_le_of_lt (Nat.sub_le _ _) hs
theorem moveP_small {xss : List (List Int)} {rev : Bool} {s : Nat} {m : Mv} {t : Nat} (hl : xss.length ≤ 10) (hs : s < 1024) (h : moveP xss rev s m = some t) : t < 1024 := by
  unfold moveP at h
  split at h
  · rename_i hw
    have hw := within_true hw
    split at h
    · split at h
      · injection h with h; subst h
        exact or_small hs (pow_small10 (by omega))
      · cases h
    · split at h
      · split at h
        · injection h with h; subst h; exact sub_small hs
        · cases h
      · cases h
  · cases h
theorem posTo_none {xss : List (List Int)} {rev : Bool} {ms : List Mv} {k : Nat} (h : posTo xss rev ms k = none) : ∀ n, k ≤ n → posTo xss rev ms n = none := by
  intro n
  induction n with
  | zero => intro hk; obtain rfl : k = 0 := by omega
            exact h
  | succ n ih =>
    intro hk
    by_cases hkn : k = n + 1
    · subst hkn; exact h
    · simp only [posTo, ih (by omega)]
theorem posTo_next {xss : List (List Int)} {rev : Bool} {ms : List Mv} {k : Nat} {m : Mv} {ps : List Nat} {s : Nat} (h : posTo xss rev ms k = some (ps, s)) (hm : Hid (ms[k]? = some m)) :
    posTo xss rev ms (k + 1) = (moveP xss rev s m).map fun t => (ps ++ [s], t) := by
  simp only [posTo, h, getD_of hm]
theorem posTo_small {xss : List (List Int)} {rev : Bool} {ms : List Mv} (hl : xss.length ≤ 10) : ∀ (k : Nat) (ps : List Nat) (s : Nat), posTo xss rev ms k = some (ps, s) → s < 1024 ∧ (∀ p ∈ ps, p < 1024) ∧ ps.length = k := by
  intro k
  induction k with
  | zero => intro ps s h; simp [posTo] at h; obtain ⟨rfl, rfl⟩ := h; simp
  | succ k ih =>
    intro ps s h
    simp only [posTo] at h
    split at h
    · cases h
    · rename_i qs t hq
      obtain ⟨h1, h2, h3⟩ := ih _ _ hq
      cases hm : moveP xss rev t (ms.getD k (0, 0)) with
      | none => rw [hm] at h; cases h
      | some u =>
        rw [hm] at h
        simp at h
        obtain ⟨rfl, rfl⟩ := h
        exact ⟨moveP_small hl h1 hm, by intro p hp; simp at hp; rcases hp with hp | rfl; exact h2 p hp; exact h1, by simp [h3]⟩
/-- How many bits a number has. -/
def cntB (s : Nat) : Nat := (List.range 10).foldl (fun c i => c + s / 2 ^ i % 2) 0
/-- The greatest count among positions. -/
def mostB (ps : List Nat) : Nat := ps.foldl (fun m s => max m (cntB s)) 0
theorem mostB_snoc (ps : List Nat) (s : Nat) : mostB (ps ++ [s]) = max (mostB ps) (cntB s) := by simp [mostB]

theorem and_bit {s x : Nat} : (s &&& 2 ^ x = 0) ↔ s.testBit x = false := by
  constructor
  · intro h
    have := congrArg (fun n => n.testBit x) h
    simpa [Nat.testBit_and, Nat.testBit_two_pow] using this
  · intro h
    apply Nat.eq_of_testBit_eq
    intro i
    rw [Nat.testBit_and, Nat.testBit_two_pow, Nat.zero_testBit]
    by_cases hi : x = i
    · subst hi; simp [h]
    · simp [hi]
theorem bit_le {s x : Nat} (h : s.testBit x = true) : 2 ^ x ≤ s := Nat.ge_two_pow_of_testBit h
theorem bitsOf_bit (xs : List Int) (j : Nat) : (bitsOf xs).testBit j = xs.any fun p => decide (p.toNat = j) := by
  unfold bitsOf
  rw [foldl_or_bit (fun p : Int => 2 ^ p.toNat)]
  simp [Nat.testBit_two_pow]
/-- Go's test 's & preds == preds'. -/
theorem and_bits (s : Nat) (xs : List Int) : (s &&& bitsOf xs = bitsOf xs) ↔ (xs.all fun p => s.testBit p.toNat) = true := by
  rw [List.all_eq_true]
  constructor
  · intro h p hp
    have h1 := congrArg (fun n => n.testBit p.toNat) h
    simp only [Nat.testBit_and] at h1
    have h2 : (bitsOf xs).testBit p.toNat = true := by rw [bitsOf_bit, List.any_eq_true]; exact ⟨p, hp, by simp⟩
    rw [h2] at h1
    simpa using h1
  · intro h
    apply Nat.eq_of_testBit_eq
    intro i
    rw [Nat.testBit_and]
    cases hb : (bitsOf xs).testBit i with
    | false => simp
    | true =>
      rw [bitsOf_bit, List.any_eq_true] at hb
      obtain ⟨p, hp, hpi⟩ := hb
      have := h p hp
      simp at hpi
      subst hpi
      simp [this]
/-- Taking one bit away. -/
theorem sub_bit {s x : Nat} (hs : s < 1024) (hx : x ≤ 9) (h : s.testBit x = true) : s &&& (1023 - 2 ^ x) = s - 2 ^ x := by
  have : ∀ s < 1024, ∀ x < 10, s.testBit x = true → s &&& (1023 - 2 ^ x) = s - 2 ^ x := by decide +kernel
  exact this s hs x (by omega) h
end Go.Proofs.Ytialpmmdomhobaa
