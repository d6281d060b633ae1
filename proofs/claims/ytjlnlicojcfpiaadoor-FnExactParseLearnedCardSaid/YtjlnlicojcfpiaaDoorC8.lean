/-
  Inequalities: validity, whether they hold for bits, and the ranges of their left sides.
-/
import Derived.Test.YtjlnlicojcfpiaaDoorC3
import Derived.Test.YtjlnlicojcfpiaaDoorC7
namespace Go.Proofs.YtjlnlicojcfpiaaDoor
set_option linter.unusedSimpArgs false
set_option linter.unusedVariables false
open Go.RowKit

/-! ### Bits of an int -/
theorem ofInt_nat64 (a : Nat) (ha : a < 9223372036854775808) : (BitVec.ofInt 64 (a : Int)).toNat = a := by
  rw [BitVec.ofInt_natCast, BitVec.toNat_ofNat]; exact Nat.mod_eq_of_lt (by omega)
theorem and_one_nat (a : Nat) (ha : a < 9223372036854775808) : bits .and .i64 (a : Int) 1 = ((a % 2 : Nat) : Int) := by
  show IntKind.i64.wrap ((BitVec.ofInt 64 (a : Int) &&& BitVec.ofInt 64 1).toNat : Int) = _
  rw [BitVec.toNat_and, ofInt_nat64 a ha, show (BitVec.ofInt 64 1).toNat = 1 from rfl, Nat.and_one_is_mod]
  exact IntWalk.i64_in _ (by omega)
theorem bit_eq (b i : Nat) (hb : b ≤ 1000000) : (bits .and .i64 ((b : Int) / 2 ^ i) 1 == 1) = b.testBit i := by
  have h1 : ((b : Int) / 2 ^ i) = ((b / 2 ^ i : Nat) : Int) := by simp
  have h2 : b / 2 ^ i ≤ b := Nat.div_le_self _ _
  rw [h1, and_one_nat _ (by omega), Nat.testBit_eq_decide_div_mod_eq, Bool.eq_iff_iff]
  simp only [beq_iff_eq, decide_eq_true_eq]
  omega
theorem pow_small {v : Nat} (h : v ≤ 12) : 1 ≤ (2 : Int) ^ v ∧ (2 : Int) ^ v ≤ 4096 := by
  have : ∀ v < 13, 1 ≤ (2 : Int) ^ v ∧ (2 : Int) ^ v ≤ 4096 := by decide
  exact this v (by omega)

/-! ### The plain functions -/
def ineqOk (v bd : Int) (xs : List Int) : Bool := within v 0 12 && decide ((xs.length : Int) = v) && within bd (-10000) 10000 && xs.all (fun x => within x (-1000) 1000)
/-- The left side for bits b, of the first k coefficients. -/
def psum (xs : List Int) (b : Nat) : Nat → Int
  | 0 => 0
  | k + 1 => psum xs b k + (if b.testBit k then xs.getD k 0 else 0)
theorem psum_yes {xs : List Int} {b k : Nat} {x : Int} (hx : Hid (xs[k]? = some x)) (h : b.testBit k = true) : psum xs b (k + 1) = psum xs b k + x := by
  simp only [psum, h, if_true, getD_of hx]
theorem psum_no {xs : List Int} {b k : Nat} (h : b.testBit k = false) : psum xs b (k + 1) = psum xs b k := by
  simp [psum, h]
theorem psum_le {xs : List Int} (h : ∀ x ∈ xs, -1000 ≤ x ∧ x ≤ 1000) (b k : Nat) : -(1000 * (k : Int)) ≤ psum xs b k ∧ psum xs b k ≤ 1000 * (k : Int) := by
  induction k with
  | zero => simp [psum]
  | succ k ih =>
    simp only [psum]
    split
    · rw [List.getD_eq_getElem?_getD]
      cases hx : xs[k]? with
      | none => simp; omega
      | some x => have := h x (List.mem_of_getElem? hx); simp; omega
    · omega
def planeAt (xs : List Int) (bd : Int) (b : Nat) : Bool := decide (bd ≤ psum xs b xs.length)
theorem ineq_facts {v bd : Int} {xs : List Int} (h : ineqOk v bd xs = true) : (0 ≤ v ∧ v ≤ 12) ∧ (xs.length : Int) = v ∧ (-10000 ≤ bd ∧ bd ≤ 10000) ∧ ∀ x ∈ xs, -1000 ≤ x ∧ x ≤ 1000 := by
  obtain ⟨h1, h2, h3, h4⟩ := and4_true h
  refine ⟨within_true h1, by simpa using h2, within_true h3, fun x hx => ?_⟩
  rw [List.all_eq_true] at h4
  exact within_true (h4 x hx)

/-- The least and the greatest left side, of the first k coefficients. -/
def lowSum (xs : List Int) : Int := (xs.map fun x => min x 0).sum
def highSum (xs : List Int) : Int := (xs.map fun x => max x 0).sum
theorem lowSum_succ {xs : List Int} {i : Nat} {x : Int} (hx : Hid (xs[i]? = some x)) : lowSum (xs.take (i + 1)) = lowSum (xs.take i) + min x 0 := by rw [take_succ_of hx]; simp [lowSum]
theorem highSum_succ {xs : List Int} {i : Nat} {x : Int} (hx : Hid (xs[i]? = some x)) : highSum (xs.take (i + 1)) = highSum (xs.take i) + max x 0 := by rw [take_succ_of hx]; simp [highSum]
theorem low_high_le {xs : List Int} (h : ∀ x ∈ xs, -1000 ≤ x ∧ x ≤ 1000) (k : Nat) : -(1000 * (k : Int)) ≤ lowSum (xs.take k) ∧ lowSum (xs.take k) ≤ 0 ∧ 0 ≤ highSum (xs.take k) ∧ highSum (xs.take k) ≤ 1000 * (k : Int) := by
  induction k with
  | zero => simp [lowSum, highSum]
  | succ k ih =>
    by_cases hk : k < xs.length
    · have hx : Hid (xs[k]? = some xs[k]) := hide (List.getElem?_eq_getElem hk)
      rw [lowSum_succ hx, highSum_succ hx]
      have := h _ (List.getElem_mem hk)
      omega
    · rw [List.take_of_length_le (by omega)] at ih ⊢
      omega
end Go.Proofs.YtjlnlicojcfpiaaDoor
