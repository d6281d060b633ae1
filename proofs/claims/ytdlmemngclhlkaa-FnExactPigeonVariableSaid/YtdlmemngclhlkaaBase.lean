/-
  Words for memory and small lemmas that the walks of this seat share: plain theorems, no condition.
-/
import Derived.WalkKit
import Derived.WalkSpells
import Derived.WalkLawsBesides
import Derived.Deep.QuietTactic
import Derived.Deep.Draws
import Derived.BigQuiet
import Derived.IntWalk
namespace Go.Proofs.Ytdlmemngclhlkaa
open Go.RowKit

/-- Nothing that was there has turned. -/
def Ext (w w' : World) : Prop := Below w.heap.size w w'

theorem Ext.refl (w : World) : Ext w w := Below.refl _ _
theorem Ext.trans {a b c : World} (h : Ext a b) (k : Ext b c) : Ext a c :=
  Below.trans h (Below.mono k h.size)
theorem Ext.drew {a b : World} (h : Ext a b) : Ext a b.drew := Below.drew h
theorem Ext.drewN {a b : World} (h : Ext a b) (n : Nat) : Ext a (b.drewN n) := ⟨h.os, h.tape, h.output, h.size, h.block⟩
theorem Ext.alloc {a b : World} (h : Ext a b) (o : Obj) : Ext a (b.alloc o) := Below.alloc h h.size o
theorem Ext.setCell {a b : World} (h : Ext a b) {p : Addr} (hp : a.heap.size ≤ p.block) (u : Value) : Ext a (b.setCell p u) := Below.setCell h hp u
theorem Ext.cell {w w' : World} (h : Ext w w') {p : Addr} {u : Value} (hc : w.cell? p = some u) : w'.cell? p = some u :=
  (Below.cell h (World.block_lt_of_cell? w p hc)).trans hc
theorem Ext.grown {a b c : World} {row : Option Nat} (h : Ext a b) (hg : b.grownBy c row) (hr : ∀ k, row = some k → a.heap.size ≤ k) : Ext a c :=
  Below.grown h hg h.size hr
/-- The cells of a block that lies at the end of the world w, later. -/
theorem Ext.box {w w' : World} {cs : Array Value} {t : TypeId} (h : Ext (w.alloc (.cells cs t)) w') (j : Nat) (u : Value) (hu : cs[j]? = some u) :
    w'.cell? ⟨w.heap.size, j, none⟩ = some u := by
  refine h.cell ?_
  rw [cell_of_row _ _ _ cs t (0, 0) (heap_alloc_new w _), hu]

/-- A slice's address reads as the list of values us. -/
def Reads (w : World) (A : Option Addr) (us : List Value) : Prop :=
  us ≠ [] → ∃ ad, A = some ad ∧ ∀ j u, us[j]? = some u → w.cell? (ad.add j) = some u

theorem Reads.ext {w w' : World} {A : Option Addr} {us : List Value} (h : Reads w A us) (he : Ext w w') : Reads w' A us := fun hn =>
  let ⟨ad, e, hc⟩ := h hn
  ⟨ad, e, fun j u hu => he.cell (hc j u hu)⟩

/-- A slice of ints: address A, n elements, reads as xs. -/
structure Ints (w : World) (A : Option Addr) (n : Nat) (xs : List Int) : Prop where
  len : n = xs.length
  bound : n ≤ 140737488355328
  reads : Reads w A (xs.map (Value.int .i64))

theorem Ints.ext {w w' : World} {A : Option Addr} {n : Nat} {xs : List Int} (h : Ints w A n xs) (he : Ext w w') : Ints w' A n xs := ⟨h.len, h.bound, h.reads.ext he⟩
theorem Ints.at_ {w : World} {A : Option Addr} {n : Nat} {xs : List Int} (h : Ints w A n xs) {k : Nat} (hk : k < n) :
    ∃ ad x, A = some ad ∧ Hid (xs[k]? = some x) ∧ w.cell? (ad.add k) = some (.int .i64 x) := by
  have hl := h.len
  have hne : xs.map (Value.int .i64) ≠ [] := by intro hh; have := congrArg List.length hh; simp at this; subst this; simp at hl; omega
  obtain ⟨ad, e, hc⟩ := h.reads hne
  have hx : xs[k]? = some (xs[k]'(by omega)) := List.getElem?_eq_getElem (by omega)
  exact ⟨ad, _, e, hx, hc k _ (by rw [List.getElem?_map, hx]; rfl)⟩

theorem hide {p : Prop} (h : p) : Hid p := h
theorem ret_bool {a b : Bool} (h : a = b) : Ending.returned (.bool a) = .returned (.bool b) := by rw [h]
theorem ret_int {k : IntKind} {a b : Int} (h : a = b) : Ending.returned (.int k a) = .returned (.int k b) := by rw [h]

def within (x a b : Int) : Bool := decide (a ≤ x) && decide (x ≤ b)
theorem within_true {x a b : Int} (h : within x a b = true) : a ≤ x ∧ x ≤ b := by simpa [within] using h

theorem all_false_of {α} {xs : List α} {p : α → Bool} {k : Nat} {x : α} (hx : Hid (xs[k]? = some x)) (hp : p x = false) : xs.all p = false := by
  rw [List.all_eq_false]; exact ⟨x, List.mem_of_getElem? hx, by simp [hp]⟩
theorem all_take_succ {α} {xs : List α} {p : α → Bool} {k : Nat} {x : α} (hx : Hid (xs[k]? = some x)) (h : Hid ((xs.take k).all p = true)) (hp : p x = true) : Hid ((xs.take (k+1)).all p = true) := by
  have hx := hx.out
  have h := h.out
  unfold Hid
  rw [List.take_add_one, hx]; simp at h ⊢; exact ⟨h, hp⟩
theorem all_take_all {α} {xs : List α} {p : α → Bool} {k : Nat} (h : Hid ((xs.take k).all p = true)) (hk : xs.length ≤ k) : xs.all p = true := by
  have h := h.out
  rwa [List.take_of_length_le hk] at h

theorem mul_small (a b : Int) (ha : -1000000 ≤ a ∧ a ≤ 1000000) (hb : -1000000 ≤ b ∧ b ≤ 1000000) : -1000000000000 ≤ a * b ∧ a * b ≤ 1000000000000 := by
  have h := Int.natAbs_mul a b
  have h1 : a.natAbs ≤ 1000000 := by omega
  have h2 : b.natAbs ≤ 1000000 := by omega
  have h3 := Nat.mul_le_mul h1 h2
  omega

/-- Go's absolute value, with the wrap. -/
def absW (l : Int) : Int := if l < 0 then wrap64 (-l) else l
theorem absW_max (l : Int) : absW l = max l (wrap64 (-l)) := by
  unfold absW wrap64
  split <;> omega
/-- A literal over so many variables, with the wrap of '-vars'. -/
def isLit (vars l : Int) : Bool := (l != 0) && within l (wrap64 (-vars)) vars

def pow3 : Nat → Nat
  | 0 => 1
  | n + 1 => 3 * pow3 n
theorem pow3_pos (n : Nat) : 0 < pow3 n := by induction n <;> simp [pow3]; omega
theorem pow3_mono {a b : Nat} (h : a ≤ b) : pow3 a ≤ pow3 b := by
  induction b with
  | zero => have : a = 0 := by omega
            subst this; exact Nat.le_refl _
  | succ b ih =>
    by_cases hb : a = b + 1
    · subst hb; exact Nat.le_refl _
    · have := ih (by omega); simp only [pow3]; omega

/-- The binomial numbers, as both texts reckon them. -/
def binom (n : Nat) : Nat → Nat
  | 0 => 1
  | k + 1 => binom n k * (n - k) / (k + 1)
def binomSum (n : Nat) : Nat → Nat
  | 0 => 0
  | k + 1 => binomSum n k + binom n k
theorem binom_small {n k : Nat} (hn : n ≤ 6) (hk : k ≤ 7) : binom n k ≤ 20 := by
  have : ∀ n < 7, ∀ k < 8, binom n k ≤ 20 := by decide
  exact this n (by omega) k (by omega)
theorem binomSum_small {n k : Nat} (hn : n ≤ 6) (hk : k ≤ 7) : binomSum n k ≤ 64 := by
  have : ∀ n < 7, ∀ k < 8, binomSum n k ≤ 64 := by decide
  exact this n (by omega) k (by omega)
def pigeonOk (n i j : Int) : Bool := within n 1 3 && within i 1 (n + 1) && within j 1 n

theorem and2_false {a b : Bool} (h : (a && b) = false) : a = false ∨ (a = true ∧ b = false) := by cases a <;> simp_all
theorem and3_false {a b c : Bool} (h : (a && b && c) = false) : a = false ∨ (a = true ∧ b = false) ∨ (a = true ∧ b = true ∧ c = false) := by cases a <;> cases b <;> simp_all
theorem and4_false {a b c d : Bool} (h : (a && b && c && d) = false) : a = false ∨ (a = true ∧ b = false) ∨ (a = true ∧ b = true ∧ c = false) ∨ (a = true ∧ b = true ∧ c = true ∧ d = false) := by cases a <;> cases b <;> cases c <;> simp_all
theorem and2_true {a b : Bool} (h : (a && b) = true) : a = true ∧ b = true := by simpa using h
theorem and3_true {a b c : Bool} (h : (a && b && c) = true) : a = true ∧ b = true ∧ c = true := by simpa [and_assoc] using h
theorem and4_true {a b c d : Bool} (h : (a && b && c && d) = true) : a = true ∧ b = true ∧ c = true ∧ d = true := by simpa [and_assoc] using h
theorem ret2_ib {a c : Int} {b d : Bool} (h : a = c) (k : b = d) : Ending.returned (.tuple #[.int .i64 a, .bool b]) = .returned (.tuple #[.int .i64 c, .bool d]) := by rw [h, k]
theorem ret2_bb {a c : Bool} {b d : Bool} (h : a = c) (k : b = d) : Ending.returned (.tuple #[.bool a, .bool b]) = .returned (.tuple #[.bool c, .bool d]) := by rw [h, k]
theorem int_nat {i : Int} (h : 0 ≤ i) : ∃ n : Nat, i = n := ⟨i.toNat, by omega⟩
def leafOk (v s : Int) : Bool := within v 0 6 && within s 0 v
end Go.Proofs.Ytdlmemngclhlkaa
