/-
  The code of an assignment and the assignment of a code: the exported functions of the reference and of the program.
-/
import Derived.Test.YtaigjmbhgpcalaaC4
import Derived.Test.YtaigjmbhgpcalaaC5
import Derived.Test.YtaigjmbhgpcalaaC2

namespace Go.Proofs.Ytaigjmbhgpcalaa
set_option linter.unusedSimpArgs false
set_option linter.unusedVariables false
open Go.RowKit

theorem clause_facts {v : Int} {c : List Int} (h : clauseOk v c = true) : (0 ≤ v ∧ v ≤ 12) ∧ (∀ x ∈ c, -v ≤ x ∧ x ≤ v ∧ x ≠ 0) ∧ (c.length : Int) ≤ v := by
  obtain ⟨h1, h2⟩ := and2_true h
  have hv := within_true h1
  rw [List.all_eq_true] at h2
  have hat : ∀ i, (hi : i < c.length) → (-v ≤ c[i] ∧ c[i] ≤ v ∧ c[i] ≠ 0) := by
    intro i hi
    have h3 := h2 i (by simpa using hi)
    unfold litAt at h3
    obtain ⟨h4, _⟩ := and2_true h3
    rw [getD_of (hide (List.getElem?_eq_getElem hi))] at h4
    exact isLit_true h1 h4
  have habs : ∀ i, (hi : i < c.length) → (i : Int) + 1 ≤ absW c[i] := by
    intro i
    induction i with
    | zero =>
      intro hi
      have := hat 0 hi
      unfold absW wrap64
      split <;> omega
    | succ i ih =>
      intro hi
      have h3 := h2 (i + 1) (by simpa using hi)
      unfold litAt at h3
      obtain ⟨_, h5⟩ := and2_true h3
      rw [getD_of (hide (List.getElem?_eq_getElem hi)), show i + 1 - 1 = i by omega, getD_of (hide (List.getElem?_eq_getElem (show i < c.length by omega)))] at h5
      simp at h5
      have := ih (by omega)
      omega
  refine ⟨hv, ?_, ?_⟩
  · intro x hx
    obtain ⟨i, hi, rfl⟩ := List.getElem_of_mem hx
    exact hat i hi
  · rcases Nat.eq_zero_or_pos c.length with h0 | h0
    · omega
    · have h6 := habs (c.length - 1) (by omega)
      have h7 := hat (c.length - 1) (by omega)
      have : absW c[c.length - 1] ≤ v := by unfold absW wrap64; split <;> omega
      omega

def codeAsgOk (v : Int) (c : List Int) : Bool := within v 0 6 && clauseOk v c
def codeAsg (v : Int) (c : List Int) : Int := if codeAsgOk v c then (codeOf c : Int) else 0
def asgCodeOk (v c : Int) : Bool := within v 0 6 && within c 0 ((pow3 v.toNat : Int) - 1)
def asgOf (v c : Int) : List Int := if asgCodeOk v c then codeLits v.toNat 1 c.toNat else []
end Go.Proofs.Ytaigjmbhgpcalaa

/-
  Inequalities: what the program's and the reference's small functions on them compute.
-/
namespace Go.Proofs.Ytaigjmbhgpcalaa
set_option linter.unusedSimpArgs false
set_option linter.unusedVariables false
open Go.RowKit

end Go.Proofs.Ytaigjmbhgpcalaa

/-
  slices.IndexFunc and ContainsFunc at []int, for whatever function value only reads.
-/
namespace Go.Proofs.Ytaigjmbhgpcalaa
set_option linter.unusedSimpArgs false
set_option linter.unusedVariables false
open Go.RowKit

/-- The first place where p holds, or -1. -/
def idxOf {α : Type} (p : α → Bool) : List α → Nat → Int
  | [], _ => -1
  | x :: xs, k => if p x then (k : Int) else idxOf p xs (k + 1)
/-- A function with a body: calling its value enters it. -/
def Enters (P : Program) (f : FuncId) : Prop := ∀ (args : Array Value) (w : World), (callFunc f args).run P w = .ok (.enter f args) w
theorem enters_of {P : Program} {f : FuncId} {fn : Func} (hf : P.funcs[f]? = some fn) (hname : (fn.name == "runtime.NumGoroutine") = false) (hb : fn.body.isNone = false) : Enters P f := by
  intro args w
  have h1 : fn.name ≠ "runtime.NumGoroutine" := by simpa using hname
  have h2 : fn.body ≠ none := by intro h; rw [h] at hb; simp at hb
  simp [callFunc, go_sem, hf, h1, h2]
theorem idxOf_drop {α : Type} {p : α → Bool} {xs : List α} {i : Nat} {x : α} (hx : Hid (xs[i]? = some x)) : idxOf p (xs.drop i) i = if p x then (i : Int) else idxOf p (xs.drop (i + 1)) (i + 1) := by
  have h := hx.out
  obtain ⟨hi, rfl⟩ := List.getElem?_eq_some_iff.1 h
  rw [List.drop_eq_getElem_cons hi]
  rfl
theorem idxOf_neg {α : Type} {p : α → Bool} (xs : List α) : ∀ k, (idxOf p xs k < 0 ↔ xs.any p = false) := by
  induction xs with
  | nil => intro k; simp [idxOf]
  | cons x xs ih =>
    intro k
    unfold idxOf
    cases hp : p x
    · simp [ih, hp]
    · simp [hp]

set_option maxRecDepth 100000 in
theorem IndexFunc_int_c (fid : FuncId) (cap : Array Value) (p : Int → Bool) (A : Option Addr) (n d : Nat) (xs : List Int) (w : World) (h : Ints w A n xs)
    (hent : Enters Try.prog fid) (hf : ∀ x wr, x ∈ xs → Ext w wr → Calls Try.prog fid (#[.int .i64 x] ++ cap) wr fun e w' => e = .returned (.bool (p x)) ∧ Ext wr w') :
    Calls Try.prog 110 #[.slice A n d, .func (.func fid) #[] cap] w fun e w' => e = .returned (.int .i64 (idxOf p xs 0)) ∧ Ext w w' := by
  have hb := h.bound
  have HF := hide hf
  clear hf
  go_enter Try.func110, Try.ntmps110
  go_wp2
  refine wp_loop (fun acT wr => ∃ s0 s1 s2 s3 s4 s5 s6 s7 s8 s9 s10 s11 s12 s13 s14 s15 s16 s17 s18 : Value, (s0 = .slice A n d ∧ s1 = .func (.func fid) #[] cap ∧ s7 = .int .i64 n ∧ (Ext w wr ∧ ∃ i : Nat, i ≤ n ∧ s8 = .int .i64 (i : Int) ∧ Hid (idxOf p (xs.drop i) i = idxOf p xs 0))) ∧ acT = ⟨#[s0, s1, s2, s3, s4, s5, s6, s7, s8, s9, s10, s11, s12, s13, s14, s15, s16, s17, s18], []⟩) (fun acT wr => (fun (s8 : Value) (wr : World) => n - (intOf s8).toNat) (acT.tmps.getD 8 undef) wr) ?_ ?_
  · (refine ⟨_, _, _, _, _, _, _, _, _, _, _, _, _, _, _, _, _, _, _, ⟨rfl, rfl, rfl, ?_⟩, rfl⟩; exact ⟨Ext.refl _, 0, Nat.zero_le _, rfl, by simp [Hid]⟩)
  intro _ wr hinv; obtain ⟨s0, s1, s2, s3, s4, s5, s6, s7, s8, s9, s10, s11, s12, s13, s14, s15, s16, s17, s18, ⟨rfl, rfl, rfl, hrel⟩, rfl⟩ := hinv; (try dsimp only)
  obtain ⟨he, i, hi, rfl, hq⟩ := hrel
  have hl := h.len
  have HL := hide hl
  clear hl
  by_cases hlt : i < n
  · obtain ⟨ad, x, rfl, hx, hc⟩ := (h.ext he).at_ hlt
    have hcall := HF.out x wr (List.mem_of_getElem? hx.out) he
    have HC := hide hcall
    clear hcall
    have hen := hent (#[.int .i64 x] ++ cap) wr
    have hd := hide (idxOf_drop (p := p) hx)
    cases hpx : p x
    · have hq' : Hid (idxOf p (xs.drop (i + 1)) (i + 1) = idxOf p xs 0) := hide (by rw [← hq.out, hd.out, hpx]; simp)
      have HC' := HC
      rw [hpx] at HC'
      clear hpx HC
      go_wp2_with (refine HC'.out.mono ?_; rintro e w1 ⟨rfl, he1⟩)
      exact ⟨⟨(by first | trivial | rfl), (by first | trivial | rfl), (by first | trivial | rfl), by (repeat (first | with_reducible exact Ext.refl _ | with_reducible assumption | ((with_reducible refine Ext.setCell ?_ ?_ _); rotate_left; focus (first | omega | (simp <;> omega))) | with_reducible refine Ext.alloc ?_ _ | with_reducible refine Ext.drewN ?_ _ | with_reducible refine Ext.drew ?_ | with_reducible refine Ext.trans ?_ (by with_reducible assumption))), i + 1, by omega, by go_num, hq'⟩, (by simp [intOf] <;> omega)⟩
    · have hq' : Hid (idxOf p xs 0 = (i : Int)) := hide (by rw [← hq.out, hd.out, hpx]; simp)
      have HC' := HC
      rw [hpx] at HC'
      clear hpx HC
      go_wp2_with (refine HC'.out.mono ?_; rintro e w1 ⟨rfl, he1⟩)
      go_ret
      exact ⟨ret_int hq'.out.symm, by (repeat (first | with_reducible exact Ext.refl _ | with_reducible assumption | ((with_reducible refine Ext.setCell ?_ ?_ _); rotate_left; focus (first | omega | (simp <;> omega))) | with_reducible refine Ext.alloc ?_ _ | with_reducible refine Ext.drewN ?_ _ | with_reducible refine Ext.drew ?_ | with_reducible refine Ext.trans ?_ (by with_reducible assumption)))⟩
  · obtain rfl : i = n := by omega
    have hq' : Hid (idxOf p xs 0 = -1) := hide (by rw [← hq.out, List.drop_eq_nil_of_le (by rw [HL.out]; exact Nat.le_refl _)]; rfl)
    go_wp2
    go_ret
    exact ⟨ret_int hq'.out.symm, he⟩
end Go.Proofs.Ytaigjmbhgpcalaa

/-
  Inequalities: validity, whether they hold for bits, and the ranges of their left sides.
-/
namespace Go.Proofs.Ytaigjmbhgpcalaa
set_option linter.unusedSimpArgs false
set_option linter.unusedVariables false
open Go.RowKit

/-! ### Bits of an int -/
theorem ofInt_nat64 (a : Nat) (ha : a < 9223372036854775808) : (BitVec.ofInt 64 (a : Int)).toNat = a := by
  rw [BitVec.ofInt_natCast, BitVec.toNat_ofNat]; exact Nat.mod_eq_of_lt (by omega)
theorem and_one_nat (a : Nat) (ha : a < 9223372036854775808) : bits .and .i64 (a : Int) 1 = ((a % 2 : Nat) : Int) := by
  show IntKind.i64.wrap ((BitVec.ofInt 64 (a : Int) &&& BitVec.ofInt 64 1).toNat : Int) = _
  rw [BitVec.toNat_and, ofInt_nat64 a ha, show (BitVec.ofInt 64 1).toNat = 1 from rfl, Nat.and_one_is_mod]
  exact IntWalk.i64_in _ (by omega)
theorem bit_eq (b i : Nat) (hb : b ≤ 1000000) : (bits .and .i64 ((b : Int) / 2 ^ i) 1 == 1) = b.testBit i := by
  have h1 : ((b : Int) / 2 ^ i) = ((b / 2 ^ i : Nat) : Int) := by simp
  have h2 : b / 2 ^ i ≤ b := Nat.div_le_self _ _
  rw [h1, and_one_nat _ (by omega), Nat.testBit_eq_decide_div_mod_eq, Bool.eq_iff_iff]
  simp only [beq_iff_eq, decide_eq_true_eq]
  omega
theorem pow_small {v : Nat} (h : v ≤ 12) : 1 ≤ (2 : Int) ^ v ∧ (2 : Int) ^ v ≤ 4096 := by
  have : ∀ v < 13, 1 ≤ (2 : Int) ^ v ∧ (2 : Int) ^ v ≤ 4096 := by decide
  exact this v (by omega)

/-! ### The plain functions -/
def ineqOk (v bd : Int) (xs : List Int) : Bool := within v 0 12 && decide ((xs.length : Int) = v) && within bd (-10000) 10000 && xs.all (fun x => within x (-1000) 1000)
/-- The left side for bits b, of the first k coefficients. -/
def psum (xs : List Int) (b : Nat) : Nat → Int
  | 0 => 0
  | k + 1 => psum xs b k + (if b.testBit k then xs.getD k 0 else 0)
theorem psum_yes {xs : List Int} {b k : Nat} {x : Int} (hx : Hid (xs[k]? = some x)) (h : b.testBit k = true) : psum xs b (k + 1) = psum xs b k + x := by
  simp only [psum, h, if_true, getD_of hx]
theorem psum_no {xs : List Int} {b k : Nat} (h : b.testBit k = false) : psum xs b (k + 1) = psum xs b k := by
  simp [psum, h]
theorem psum_le {xs : List Int} (h : ∀ x ∈ xs, -1000 ≤ x ∧ x ≤ 1000) (b k : Nat) : -(1000 * (k : Int)) ≤ psum xs b k ∧ psum xs b k ≤ 1000 * (k : Int) := by
  induction k with
  | zero => simp [psum]
  | succ k ih =>
    simp only [psum]
    split
    · rw [List.getD_eq_getElem?_getD]
      cases hx : xs[k]? with
      | none => simp; omega
      | some x => have := h x (List.mem_of_getElem? hx); simp; omega
    · omega
def planeAt (xs : List Int) (bd : Int) (b : Nat) : Bool := decide (bd ≤ psum xs b xs.length)
theorem ineq_facts {v bd : Int} {xs : List Int} (h : ineqOk v bd xs = true) : (0 ≤ v ∧ v ≤ 12) ∧ (xs.length : Int) = v ∧ (-10000 ≤ bd ∧ bd ≤ 10000) ∧ ∀ x ∈ xs, -1000 ≤ x ∧ x ≤ 1000 := by
  obtain ⟨h1, h2, h3, h4⟩ := and4_true h
  refine ⟨within_true h1, by simpa using h2, within_true h3, fun x hx => ?_⟩
  rw [List.all_eq_true] at h4
  exact within_true (h4 x hx)

/-- The least and the greatest left side, of the first k coefficients. -/
def lowSum (xs : List Int) : Int := (xs.map fun x => min x 0).sum
def highSum (xs : List Int) : Int := (xs.map fun x => max x 0).sum
theorem lowSum_succ {xs : List Int} {i : Nat} {x : Int} (hx : Hid (xs[i]? = some x)) : lowSum (xs.take (i + 1)) = lowSum (xs.take i) + min x 0 := by rw [take_succ_of hx]; simp [lowSum]
theorem highSum_succ {xs : List Int} {i : Nat} {x : Int} (hx : Hid (xs[i]? = some x)) : highSum (xs.take (i + 1)) = highSum (xs.take i) + max x 0 := by rw [take_succ_of hx]; simp [highSum]
theorem low_high_le {xs : List Int} (h : ∀ x ∈ xs, -1000 ≤ x ∧ x ≤ 1000) (k : Nat) : -(1000 * (k : Int)) ≤ lowSum (xs.take k) ∧ lowSum (xs.take k) ≤ 0 ∧ 0 ≤ highSum (xs.take k) ∧ highSum (xs.take k) ≤ 1000 * (k : Int) := by
  induction k with
  | zero => simp [lowSum, highSum]
  | succ k ih =>
    by_cases hk : k < xs.length
    · have hx : Hid (xs[k]? = some xs[k]) := hide (List.getElem?_eq_getElem hk)
      rw [lowSum_succ hx, highSum_succ hx]
      have := h _ (List.getElem_mem hk)
      omega
    · rw [List.take_of_length_le (by omega)] at ih ⊢
      omega
end Go.Proofs.Ytaigjmbhgpcalaa
