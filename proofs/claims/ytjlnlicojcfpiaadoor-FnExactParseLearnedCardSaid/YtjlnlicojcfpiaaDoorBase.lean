/-
  Words for memory and small lemmas that the walks of this seat share: plain theorems, no condition.
-/
import Derived.WalkKit
import Derived.WalkSpells
import Derived.WalkLawsBesides
import Derived.Deep.QuietTactic
import Derived.Deep.Draws
import Derived.BigQuiet
import Derived.IntWalk
import Derived.Deep.AppendLies
import Derived.Maps.AppendAt
import Derived.Laws.OwnMore
import Derived.Deep.RegionHeld3
import Derived.StillTailTactics
import Derived.Deep.RegionWith
namespace Go.Proofs.YtjlnlicojcfpiaaDoor
set_option linter.unusedSimpArgs false
set_option linter.unusedVariables false
open Go.RowKit

/-- Nothing that was there has turned. -/
def Ext (w w' : World) : Prop := Below w.heap.size w w'

theorem Ext.refl (w : World) : Ext w w := Below.refl _ _
theorem Ext.trans {a b c : World} (h : Ext a b) (k : Ext b c) : Ext a c :=
  Below.trans h (Below.mono k h.size)
theorem Ext.drew {a b : World} (h : Ext a b) : Ext a b.drew := Below.drew h
theorem Ext.drewN {a b : World} (h : Ext a b) (n : Nat) : Ext a (b.drewN n) := ⟨h.os, h.tape, h.output, h.size, h.block⟩
theorem Ext.alloc {a b : World} (h : Ext a b) (o : Obj) : Ext a (b.alloc o) := Below.alloc h h.size o
theorem Ext.setCell {a b : World} (h : Ext a b) {p : Addr} (hp : a.heap.size ≤ p.block) (u : Value) : Ext a (b.setCell p u) := Below.setCell h hp u
theorem Ext.cell {w w' : World} (h : Ext w w') {p : Addr} {u : Value} (hc : w.cell? p = some u) : w'.cell? p = some u :=
  (Below.cell h (World.block_lt_of_cell? w p hc)).trans hc
theorem Ext.grown {a b c : World} {row : Option Nat} (h : Ext a b) (hg : b.grownBy c row) (hr : ∀ k, row = some k → a.heap.size ≤ k) : Ext a c :=
  Below.grown h hg h.size hr
/-- The cells of a block that lies at the end of the world w, later. -/
theorem Ext.box {w w' : World} {cs : Array Value} {t : TypeId} (h : Ext (w.alloc (.cells cs t)) w') (j : Nat) (u : Value) (hu : cs[j]? = some u) :
    w'.cell? ⟨w.heap.size, j, none⟩ = some u := by
  refine h.cell ?_
  rw [cell_of_row _ _ _ cs t (0, 0) (heap_alloc_new w _), hu]

/-- A slice's address reads as the list of values us. -/
def Reads (w : World) (A : Option Addr) (us : List Value) : Prop :=
  us ≠ [] → ∃ ad, A = some ad ∧ ∀ j u, us[j]? = some u → w.cell? (ad.add j) = some u

theorem Reads.ext {w w' : World} {A : Option Addr} {us : List Value} (h : Reads w A us) (he : Ext w w') : Reads w' A us := fun hn =>
  let ⟨ad, e, hc⟩ := h hn
  ⟨ad, e, fun j u hu => he.cell (hc j u hu)⟩

/-- A slice of ints: address A, n elements, reads as xs. -/
structure Ints (w : World) (A : Option Addr) (n : Nat) (xs : List Int) : Prop where
  len : n = xs.length
  bound : n ≤ 9223372036854775807
  reads : Reads w A (xs.map (Value.int .i64))

theorem Ints.ext {w w' : World} {A : Option Addr} {n : Nat} {xs : List Int} (h : Ints w A n xs) (he : Ext w w') : Ints w' A n xs := ⟨h.len, h.bound, h.reads.ext he⟩
theorem Ints.at_ {w : World} {A : Option Addr} {n : Nat} {xs : List Int} (h : Ints w A n xs) {k : Nat} (hk : k < n) :
    ∃ ad x, A = some ad ∧ Hid (xs[k]? = some x) ∧ w.cell? (ad.add k) = some (.int .i64 x) := by
  have hl := h.len
  have hne : xs.map (Value.int .i64) ≠ [] := by intro hh; have := congrArg List.length hh; simp at this; subst this; simp at hl; omega
  obtain ⟨ad, e, hc⟩ := h.reads hne
  have hx : xs[k]? = some (xs[k]'(by omega)) := List.getElem?_eq_getElem (by omega)
  exact ⟨ad, _, e, hx, hc k _ (by rw [List.getElem?_map, hx]; rfl)⟩

theorem hide {p : Prop} (h : p) : Hid p := h
theorem ret_bool {a b : Bool} (h : a = b) : Ending.returned (.bool a) = .returned (.bool b) := by rw [h]
theorem ret_int {k : IntKind} {a b : Int} (h : a = b) : Ending.returned (.int k a) = .returned (.int k b) := by rw [h]

def within (x a b : Int) : Bool := decide (a ≤ x) && decide (x ≤ b)
theorem within_true {x a b : Int} (h : within x a b = true) : a ≤ x ∧ x ≤ b := by simpa [within] using h

theorem all_false_of {α} {xs : List α} {p : α → Bool} {k : Nat} {x : α} (hx : Hid (xs[k]? = some x)) (hp : p x = false) : xs.all p = false := by
  rw [List.all_eq_false]; exact ⟨x, List.mem_of_getElem? hx, by simp [hp]⟩
theorem all_take_succ {α} {xs : List α} {p : α → Bool} {k : Nat} {x : α} (hx : Hid (xs[k]? = some x)) (h : Hid ((xs.take k).all p = true)) (hp : p x = true) : Hid ((xs.take (k+1)).all p = true) := by
  have hx := hx.out
  have h := h.out
  unfold Hid
  rw [List.take_add_one, hx]; simp at h ⊢; exact ⟨h, hp⟩
theorem all_take_all {α} {xs : List α} {p : α → Bool} {k : Nat} (h : Hid ((xs.take k).all p = true)) (hk : xs.length ≤ k) : xs.all p = true := by
  have h := h.out
  rwa [List.take_of_length_le hk] at h

theorem mul_small (a b : Int) (ha : -1000000 ≤ a ∧ a ≤ 1000000) (hb : -1000000 ≤ b ∧ b ≤ 1000000) : -1000000000000 ≤ a * b ∧ a * b ≤ 1000000000000 := by
  have h := Int.natAbs_mul a b
  have h1 : a.natAbs ≤ 1000000 := by omega
  have h2 : b.natAbs ≤ 1000000 := by omega
  have h3 := Nat.mul_le_mul h1 h2
  omega

/-- Go's absolute value, with the wrap. -/
def absW (l : Int) : Int := if l < 0 then wrap64 (-l) else l
theorem absW_max (l : Int) : absW l = max l (wrap64 (-l)) := by
  unfold absW wrap64
  split <;> omega
/-- A literal over so many variables, with the wrap of '-vars'. -/
def isLit (vars l : Int) : Bool := (l != 0) && within l (wrap64 (-vars)) vars

def pow3 : Nat → Nat
  | 0 => 1
  | n + 1 => 3 * pow3 n
theorem pow3_pos (n : Nat) : 0 < pow3 n := by induction n <;> simp [pow3]; omega
theorem pow3_mono {a b : Nat} (h : a ≤ b) : pow3 a ≤ pow3 b := by
  induction b with
  | zero => have : a = 0 := by omega
            subst this; exact Nat.le_refl _
  | succ b ih =>
    by_cases hb : a = b + 1
    · subst hb; exact Nat.le_refl _
    · have := ih (by omega); simp only [pow3]; omega

/-- The binomial numbers, as both texts reckon them. -/
def binom (n : Nat) : Nat → Nat
  | 0 => 1
  | k + 1 => binom n k * (n - k) / (k + 1)
def binomSum (n : Nat) : Nat → Nat
  | 0 => 0
  | k + 1 => binomSum n k + binom n k
theorem binom_small {n k : Nat} (hn : n ≤ 6) (hk : k ≤ 7) : binom n k ≤ 20 := by
  have : ∀ n < 7, ∀ k < 8, binom n k ≤ 20 := by decide
  exact this n (by omega) k (by omega)
theorem binomSum_small {n k : Nat} (hn : n ≤ 6) (hk : k ≤ 7) : binomSum n k ≤ 64 := by
  have : ∀ n < 7, ∀ k < 8, binomSum n k ≤ 64 := by decide
  exact this n (by omega) k (by omega)
def pigeonOk (n i j : Int) : Bool := within n 1 3 && within i 1 (n + 1) && within j 1 n

theorem and2_false {a b : Bool} (h : (a && b) = false) : a = false ∨ (a = true ∧ b = false) := by cases a <;> simp_all
theorem and3_false {a b c : Bool} (h : (a && b && c) = false) : a = false ∨ (a = true ∧ b = false) ∨ (a = true ∧ b = true ∧ c = false) := by cases a <;> cases b <;> simp_all
theorem and4_false {a b c d : Bool} (h : (a && b && c && d) = false) : a = false ∨ (a = true ∧ b = false) ∨ (a = true ∧ b = true ∧ c = false) ∨ (a = true ∧ b = true ∧ c = true ∧ d = false) := by cases a <;> cases b <;> cases c <;> simp_all
theorem and2_true {a b : Bool} (h : (a && b) = true) : a = true ∧ b = true := by simpa using h
theorem and3_true {a b c : Bool} (h : (a && b && c) = true) : a = true ∧ b = true ∧ c = true := by simpa [and_assoc] using h
theorem and4_true {a b c d : Bool} (h : (a && b && c && d) = true) : a = true ∧ b = true ∧ c = true ∧ d = true := by simpa [and_assoc] using h
theorem ret2_ib {a c : Int} {b d : Bool} (h : a = c) (k : b = d) : Ending.returned (.tuple #[.int .i64 a, .bool b]) = .returned (.tuple #[.int .i64 c, .bool d]) := by rw [h, k]
theorem ret2_bb {a c : Bool} {b d : Bool} (h : a = c) (k : b = d) : Ending.returned (.tuple #[.bool a, .bool b]) = .returned (.tuple #[.bool c, .bool d]) := by rw [h, k]
theorem int_nat {i : Int} (h : 0 ≤ i) : ∃ n : Nat, i = n := ⟨i.toNat, by omega⟩
def leafOk (v s : Int) : Bool := within v 0 6 && within s 0 v

/-! ### Rows of the call's own -/
def Own (w : World) (base : Nat) (e : TypeId) (size : Nat) (A : Option Addr) (n c : Nat) (us : List Value) : Prop := w.ownsRow base e size (.slice A n c) n us

theorem Own.nil (w : World) (base : Nat) (e : TypeId) (size : Nat) : Own w base e size none 0 0 [] := World.ownsRow_nil _ _ _ _
theorem Own.len {w : World} {base : Nat} {e : TypeId} {size : Nat} {A : Option Addr} {n c : Nat} {us : List Value} (h : Own w base e size A n c us) : us.length = n * size := h.1
theorem Own.form {w : World} {base : Nat} {e : TypeId} {size : Nat} {A : Option Addr} {n c : Nat} {us : List Value} (h : Own w base e size A n c us) (hn : 0 < n) :
    ∃ g, A = some ⟨g, 0, none⟩ ∧ base ≤ g ∧ g < w.heap.size := by
  obtain ⟨g, cap, hv, hb, hl⟩ := World.ownsRow.form h hn
  injection hv with hA
  exact ⟨g, hA, hb, hl⟩
theorem Own.lt {w : World} {base : Nat} {e : TypeId} {size : Nat} {A : Option Addr} {n c : Nat} {us : List Value} (h : Own w base e size A n c us) :
    ∀ k, (Value.slice A n c).ownBlock = some k → base ≤ k ∧ k < w.heap.size := World.ownsRow.lt h
theorem Own.reads {w : World} {base : Nat} {e : TypeId} {size : Nat} {A : Option Addr} {n c : Nat} {us : List Value} (h : Own w base e size A n c us) : Reads w A us := by
  intro hne
  have hl := h.len
  have hn : 0 < n := by
    rcases Nat.eq_zero_or_pos n with h0 | h0
    · subst h0
      exact absurd (List.eq_nil_of_length_eq_zero (by simpa using hl)) hne
    · exact h0
  obtain ⟨g, rfl, _, _⟩ := h.form hn
  exact ⟨_, rfl, World.ownsRow.cells h rfl⟩
theorem Own.kept {w w' : World} {base : Nat} {e : TypeId} {size : Nat} {A : Option Addr} {n c : Nat} {us : List Value} (h : Own w base e size A n c us)
    {row : Option Nat} (hg : w.grownBy w' row) (hne : (Value.slice A n c).ownBlock = none ∨ (Value.slice A n c).ownBlock ≠ row) : Own w' base e size A n c us :=
  World.ownsRow.kept h hg hne
theorem Ext.grownBy {w w' : World} (h : Ext w w') (row : Option Nat) : w.grownBy w' row := ⟨h.os, h.tape, h.output, h.size, fun k hk _ => h.block k hk⟩
theorem Own.ext {w w' : World} {base : Nat} {e : TypeId} {size : Nat} {A : Option Addr} {n c : Nat} {us : List Value} (h : Own w base e size A n c us) (he : Ext w w') : Own w' base e size A n c us :=
  h.kept (he.grownBy none) (by cases hv : (Value.slice A n c).ownBlock <;> simp)
theorem Own.lower {w : World} {base base' : Nat} {e : TypeId} {size : Nat} {A : Option Addr} {n c : Nat} {us : List Value} (h : Own w base e size A n c us) (hb : base' ≤ base) : Own w base' e size A n c us := by
  refine ⟨h.1, ?_⟩
  rcases h.2 with hn | ⟨g, cap, cur, hv, hg, r⟩
  · exact .inl hn
  · exact .inr ⟨g, cap, cur, hv, Nat.le_trans hb hg, r⟩
theorem Own.cell {w : World} {base : Nat} {e : TypeId} {size : Nat} {g n c : Nat} {us : List Value} (h : Own w base e size (some ⟨g, 0, none⟩) n c us) {j : Nat} {u : Value} (hu : us[j]? = some u) :
    w.cell? ⟨g, j, none⟩ = some u := by
  have hj : j < n * size := by have := h.len; have := (List.getElem?_eq_some_iff.1 hu).1; omega
  rw [World.ownsRow.cellAt h j hj, hu]
theorem Own.frozen {w : World} {base : Nat} {e : TypeId} {size : Nat} {g n c : Nat} {us : List Value} (h : Own w base e size (some ⟨g, 0, none⟩) n c us) (j : Nat) :
    w.frozen? ⟨g, j, none⟩ = false := World.ownsRow.frozenAt h j
theorem Own.store {w : World} {base : Nat} {e : TypeId} {size : Nat} {g n c : Nat} {us : List Value} (h : Own w base e size (some ⟨g, 0, none⟩) n c us) (j : Nat) (u : Value) :
    Own (w.setCell ⟨g, j, none⟩ u) base e size (some ⟨g, 0, none⟩) n c (us.set j u) := (World.ownsRow.stored h j u).1
theorem Own.storeOther {w : World} {base : Nat} {e : TypeId} {size : Nat} {A : Option Addr} {n c : Nat} {us : List Value} (h : Own w base e size A n c us) {p : Addr} (u : Value)
    (hne : (Value.slice A n c).ownBlock ≠ some p.block) : Own (w.setCell p u) base e size A n c us :=
  h.kept (row := some p.block) ⟨rfl, rfl, rfl, by simp [World.setCell], fun k _ hk => Below.heap_setCell _ _ _ _ (fun e => hk (by rw [e]))⟩ (.inr hne)
theorem Own.made {w : World} {base : Nat} {e : TypeId} (z : Value) (n : Nat) (hb : base ≤ w.heap.size) (hm : n ≤ maxLen) :
    Own (w.alloc (.cells (madeCells #[z] n) e)) base e 1 (some ⟨w.heap.size, 0, none⟩) n n (List.replicate n z) := by
  have h := World.ownsRow_lit (base := base) (e := e) (size := 1) w (madeCells #[z] n) n hb hm (by simp [madeCells])
  rwa [toList_madeCells_one] at h
theorem Own.lit {w : World} {base : Nat} {e : TypeId} {size : Nat} (cs : List Value) (n : Nat) (hb : base ≤ w.heap.size) (hm : n ≤ maxLen) (hs : cs.length = n * size) :
    Own (w.alloc (.cells cs.toArray e)) base e size (some ⟨w.heap.size, 0, none⟩) n n cs :=
  World.ownsRow_lit (base := base) (e := e) (size := size) w cs.toArray n hb hm (by simpa using hs)
theorem Own.ints {w : World} {base : Nat} {e : TypeId} {A : Option Addr} {n c : Nat} {xs : List Int} (h : Own w base e 1 A n c (xs.map (Value.int .i64))) (hn : n ≤ 9223372036854775807) : Ints w A n xs :=
  ⟨by have := h.len; simpa using this.symm, hn, h.reads⟩
theorem Ext.own {w w1 w' : World} (h : Ext w w1) {e : TypeId} {size : Nat} {A : Option Addr} {n c : Nat} {us : List Value} (ho : Own w1 w.heap.size e size A n c us)
    (hg : w1.grownBy w' (Value.slice A n c).ownBlock) : Ext w w' := h.grown hg fun k hk => (ho.lt k hk).1
theorem Ext.trans_own {w w1 w' : World} {base : Nat} (h : Ext w w1) (hb : w.heap.size ≤ base) {e : TypeId} {size : Nat} {A : Option Addr} {n c : Nat} {us : List Value} (ho : Own w1 base e size A n c us)
    (hg : w1.grownBy w' (Value.slice A n c).ownBlock) : Ext w w' := h.grown hg fun k hk => Nat.le_trans hb (ho.lt k hk).1

/-! ### append, make -/
section
variable {P : Program}
theorem wpList_app {w0 : World} {ops : Array Oper} {rest : List Oper} {o : Oper} {a : Act} {Q : Exit → Act → World → Prop} (hgd : o.guard = none) (s x : Operand) (t e : TypeId)
    (ho : o.op = .call { callee := .builtin .append, args := #[s, x], argTypes := #[t, t] }) (ht : P.underlying t = some (.slice e))
    (z : Value) (size bytes : Nat) (hinfo : (P.info? e).map (fun i => (i.zero, i.size, i.bytes)) = some (some z, size, bytes)) (hzs : z.cells.size = size) (hsz : 0 < size)
    {base : Nat} {A : Option Addr} {n c : Nat} {us : List Value} (hs : a.eval s = .slice A n c) (hown : Own w0 base e size A n c us)
    (m : Nat) (news : List Value) (hx : a.eval x = .slice (some ⟨w0.heap.size, 0, none⟩) m m) (hl : news.length = m * size) (h1 : ∀ u ∈ news, u.oneCell' = true)
    (h63 : n + m ≤ 140737488355328) (hbytes : (n + m) * bytes ≤ 140737488355328) (hbase : base ≤ w0.heap.size)
    (h : ∀ A' c' w', Own w' base e size A' (n + m) c' (us ++ news) → w0.grownBy w' (Value.slice A n c).ownBlock →
      ((Value.slice A' (n + m) c').ownBlock = (Value.slice A n c).ownBlock ∨ ∃ k, (Value.slice A' (n + m) c').ownBlock = some k ∧ w0.heap.size ≤ k) →
      wpList P ops Q rest (a.put o.dst (.slice A' (n + m) c')) w') :
    wpList P ops Q (o :: rest) a (w0.alloc (.cells news.toArray e)) := by
  obtain ⟨i, hi, hz, hsize, hby⟩ := info_parts hinfo
  have hown' : (w0.alloc (.cells news.toArray e)).ownsRow base e size (.slice A n c) n us := World.ownsRow.alloc hown _
  refine wpList_append_own_at (w0.alloc (.cells news.toArray e)) hgd s x t ho base e i z size bytes ht hi hz hsize hby hzs hsz _ n us hs hown' ⟨w0.heap.size, 0, none⟩ m m news hx hl
    (fun j u hu => ?_) h1 (by simp only [maxLen]; omega) hbytes (by simp; omega) ?_
  · have hadd : (⟨w0.heap.size, 0, none⟩ : Addr).add j = ⟨w0.heap.size, j, none⟩ := by unfold Addr.add; split <;> simp_all
    rw [hadd, cell_of_row _ _ _ news.toArray e (0, 0) (heap_alloc_new w0 _)]
    simpa using hu
  · intro v' w' h2 h3 _ h5
    have hv : ∃ A' c', v' = .slice A' (n + m) c' := by
      rcases h2.2 with ⟨rfl, h0⟩ | ⟨g, cap, cur, rfl, _⟩
      · exact ⟨none, 0, by rw [h0]⟩
      · exact ⟨_, _, rfl⟩
    obtain ⟨A', c', rfl⟩ := hv
    refine h A' c' w' h2 ((World.grownBy_alloc w0 _ _).trans h3) ?_
    rcases h5 with h5 | h5
    · exact .inl h5
    · exact .inr ⟨_, h5, by simp⟩
theorem make_eq (t e : TypeId) (ht : P.underlying t = some (.slice e)) (z : Value) (bytes : Nat) (hinfo : (P.info? e).map (fun i => (i.zero, i.size, i.bytes)) = some (some z, 1, bytes)) (hz1 : z.cells = #[z])
    (n : Nat) (h63 : n ≤ 140737488355328) (hb : bytes * n ≤ 281474976710656) (w : World) :
    (Instr.makeSlice t (.int .i64 (n : Int)) (.int .i64 (n : Int))).run P w = .ok (.slice (some ⟨w.heap.size, 0, none⟩) n n) (w.alloc (.cells (madeCells #[z] n) e)) := by
  obtain ⟨i, hi, hz, hsize, hby⟩ := info_parts hinfo
  have hb' : (i.bytes : Int) * (n : Int) ≤ 281474976710656 := by
    have h : ((i.bytes * n : Nat) : Int) ≤ 281474976710656 := by rw [hby]; omega
    rwa [Int.natCast_mul] at h
  have hr := run_make (P := P) w t e i z ht hi hz .i64 .i64 n n (by omega) (by omega) hb' (by omega)
  simp only [Int.toNat_natCast, hsize, Nat.mul_one, hz1] at hr
  exact hr
end

/-! ### What turns only blocks lo .. hi - 1 -/
structure Touch (lo hi : Nat) (w w' : World) : Prop where
  os : w'.os = w.os
  tape : w'.tape = w.tape
  output : w'.output = w.output
  size : w.heap.size ≤ w'.heap.size
  block : ∀ k, k < w.heap.size → (k < lo ∨ hi ≤ k) → w'.heap[k]? = w.heap[k]?

theorem Ext.touch {w w' : World} (h : Ext w w') (lo hi : Nat) : Touch lo hi w w' := ⟨h.os, h.tape, h.output, h.size, fun k hk _ => h.block k hk⟩
theorem Touch.trans {lo hi : Nat} {a b c : World} (h : Touch lo hi a b) (k : Touch lo hi b c) : Touch lo hi a c :=
  ⟨k.os.trans h.os, k.tape.trans h.tape, k.output.trans h.output, Nat.le_trans h.size k.size, fun i hi hj => (k.block i (Nat.lt_of_lt_of_le hi h.size) hj).trans (h.block i hi hj)⟩
theorem Touch.wider {lo hi lo' hi' : Nat} {a b : World} (h : Touch lo hi a b) (h1 : lo' ≤ lo) (h2 : hi ≤ hi') : Touch lo' hi' a b :=
  ⟨h.os, h.tape, h.output, h.size, fun k hk hj => h.block k hk (by omega)⟩
theorem Touch.refl (lo hi : Nat) (w : World) : Touch lo hi w w := (Ext.refl w).touch lo hi
theorem Ext.touched {a b c : World} {lo hi : Nat} (h : Ext a b) (t : Touch lo hi b c) (hl : a.heap.size ≤ lo) : Ext a c :=
  ⟨t.os.trans h.os, t.tape.trans h.tape, t.output.trans h.output, Nat.le_trans h.size t.size, fun k hk => (t.block k (Nat.lt_of_lt_of_le hk h.size) (.inl (by omega))).trans (h.block k hk)⟩
theorem grown_touch {w w' : World} {row : Option Nat} {lo hi : Nat} (h : w.grownBy w' row) (hr : ∀ k, row = some k → lo ≤ k ∧ k < hi) : Touch lo hi w w' :=
  ⟨h.os, h.tape, h.output, h.size, fun k hk hj => h.block k hk (fun e => by have := hr k e.symm; omega)⟩
theorem Own.touch {w w' : World} {base lo hi : Nat} {e : TypeId} {size : Nat} {A : Option Addr} {n c : Nat} {us : List Value} (h : Own w base e size A n c us) (t : Touch lo hi w w') (hb : hi ≤ base) : Own w' base e size A n c us := by
  refine ⟨h.1, ?_⟩
  rcases h.2 with hn | ⟨g, cap, cur, hv, hg, hh, r⟩
  · exact .inl hn
  · exact .inr ⟨g, cap, cur, hv, hg, by rw [t.block g (Array.getElem?_eq_some_iff.1 hh).1 (.inr (by omega))]; exact hh, r⟩
theorem Own.touch_below {w w' : World} {base lo hi : Nat} {e : TypeId} {size : Nat} {A : Option Addr} {n c : Nat} {us : List Value} (h : Own w base e size A n c us) (t : Touch lo hi w w')
    (hb : ∀ k, (Value.slice A n c).ownBlock = some k → k < lo ∨ hi ≤ k) : Own w' base e size A n c us := by
  refine ⟨h.1, ?_⟩
  rcases h.2 with hn | ⟨g, cap, cur, hv, hg, hh, r⟩
  · exact .inl hn
  · exact .inr ⟨g, cap, cur, hv, hg, by rw [t.block g (Array.getElem?_eq_some_iff.1 hh).1 (hb g (by rw [hv]; rfl))]; exact hh, r⟩
theorem Reads.touch {w0 w w' : World} {lo hi : Nat} {A : Option Addr} {us : List Value} (h : Reads w0 A us) (he : Ext w0 w) (t : Touch lo hi w w') (hl : w0.heap.size ≤ lo) : Reads w' A us :=
  h.ext (he.touched t hl)

/-! ### A slice of int slices -/
/-- The value reads as the list of ints. -/
def IntsV (w : World) (v : Value) (xs : List Int) : Prop := ∃ A c, v = .slice A xs.length c ∧ Ints w A xs.length xs
theorem IntsV.ext {w w' : World} {v : Value} {xs : List Int} (h : IntsV w v xs) (he : Ext w w') : IntsV w' v xs :=
  let ⟨A, c, e, k⟩ := h
  ⟨A, c, e, k.ext he⟩
structure Intss (w : World) (A : Option Addr) (n : Nat) (xss : List (List Int)) : Prop where
  len : n = xss.length
  bound : n ≤ 9223372036854775807
  reads : ∃ us : List Value, us.length = n ∧ Reads w A us ∧ ∀ (i : Nat) (u : Value) (xs : List Int), us[i]? = some u → xss[i]? = some xs → IntsV w u xs
theorem Intss.ext {w w' : World} {A : Option Addr} {n : Nat} {xss : List (List Int)} (h : Intss w A n xss) (he : Ext w w') : Intss w' A n xss :=
  ⟨h.len, h.bound, let ⟨us, hl, hr, hi⟩ := h.reads; ⟨us, hl, hr.ext he, fun i u xs hu hx => (hi i u xs hu hx).ext he⟩⟩
theorem Intss.at_ {w : World} {A : Option Addr} {n : Nat} {xss : List (List Int)} (h : Intss w A n xss) {k : Nat} (hk : k < n) :
    ∃ ad xs B m c, A = some ad ∧ Hid (xss[k]? = some xs) ∧ w.cell? (ad.add k) = some (.slice B m c) ∧ Ints w B m xs := by
  obtain ⟨us, hl, hr, hi⟩ := h.reads
  have hlen := h.len
  obtain ⟨ad, e, hc⟩ := hr (by intro hh; subst hh; simp at hl; omega)
  have hx : xss[k]? = some (xss[k]'(by omega)) := List.getElem?_eq_getElem (by omega)
  have hu : us[k]? = some (us[k]'(by omega)) := List.getElem?_eq_getElem (by omega)
  obtain ⟨B, c, hv, hint⟩ := hi k _ _ hu hx
  exact ⟨ad, _, B, _, c, e, hx, by rw [hc k _ hu, hv], hint⟩

/-- One inner row: its value u, owned in blocks lo .. hi - 1. -/
def RowV (w : World) (lo hi : Nat) (ei : TypeId) (u : Value) (xs : List Int) : Prop :=
  ∃ B d, u = .slice B xs.length d ∧ Own w lo ei 1 B xs.length d (xs.map (Value.int .i64)) ∧ xs.length ≤ 140737488355328 ∧ ∀ k, (Value.slice B xs.length d).ownBlock = some k → k < hi
/-- Rows of the call's own: the outer row and every inner one lie in blocks lo .. hi - 1; no two inner ones share a block. eo, ei: the element types. -/
structure OwnRows (w : World) (lo hi : Nat) (eo ei : TypeId) (A : Option Addr) (n c : Nat) (xss : List (List Int)) (us : List Value) : Prop where
  len : n = xss.length
  outer : Own w lo eo 1 A n c us
  below : ∀ k, (Value.slice A n c).ownBlock = some k → k < hi
  inner : ∀ (i : Nat) (u : Value) (xs : List Int), us[i]? = some u → xss[i]? = some xs → RowV w lo hi ei u xs
  apart : ∀ (i j : Nat) (u v : Value) (k : Nat), us[i]? = some u → us[j]? = some v → u.ownBlock = some k → v.ownBlock = some k → i = j

theorem Own.block_type {w : World} {base : Nat} {e : TypeId} {size : Nat} {A : Option Addr} {n c : Nat} {us : List Value} (h : Own w base e size A n c us) {k : Nat} (hk : (Value.slice A n c).ownBlock = some k) :
    ∃ cs, w.heap[k]? = some (.cells cs e (0, 0)) := by
  rcases h.2 with ⟨hv, _⟩ | ⟨g, cap, cur, hv, _, hh, _⟩
  · rw [hv] at hk; simp [Value.ownBlock] at hk
  · rw [hv] at hk; simp [Value.ownBlock] at hk; subst hk; exact ⟨cur, hh⟩
theorem Own.ne_type {w : World} {b1 b2 : Nat} {e1 e2 : TypeId} {s1 s2 : Nat} {A B : Option Addr} {n c m d : Nat} {us vs : List Value} (h : Own w b1 e1 s1 A n c us) (k : Own w b2 e2 s2 B m d vs) (hne : e1 ≠ e2) :
    (Value.slice A n c).ownBlock = none ∨ (Value.slice A n c).ownBlock ≠ (Value.slice B m d).ownBlock := by
  cases hA : (Value.slice A n c).ownBlock with
  | none => exact .inl rfl
  | some g =>
    refine .inr fun e => ?_
    obtain ⟨cs, h1⟩ := h.block_type hA
    obtain ⟨ds, h2⟩ := k.block_type e.symm
    rw [h1] at h2
    simp at h2
    exact hne h2.2

section
variable {w w' : World} {lo hi : Nat} {eo ei : TypeId} {A : Option Addr} {n c : Nat} {xss : List (List Int)} {us : List Value}
theorem RowV.ext {u : Value} {xs : List Int} (h : RowV w lo hi ei u xs) (he : Ext w w') : RowV w' lo hi ei u xs :=
  let ⟨B, d, e, ho, hb, hk⟩ := h
  ⟨B, d, e, ho.ext he, hb, hk⟩
theorem RowV.wider {u : Value} {xs : List Int} {hi' : Nat} (h : RowV w lo hi ei u xs) (he : hi ≤ hi') : RowV w lo hi' ei u xs :=
  let ⟨B, d, e, ho, hb, hk⟩ := h
  ⟨B, d, e, ho, hb, fun k hk' => Nat.lt_of_lt_of_le (hk k hk') he⟩
theorem RowV.intsV {u : Value} {xs : List Int} (h : RowV w lo hi ei u xs) : IntsV w u xs :=
  let ⟨B, d, e, ho, hb, _⟩ := h
  ⟨B, d, e, ho.ints (by omega)⟩
theorem RowV.kept {u : Value} {xs : List Int} (h : RowV w lo hi ei u xs) {row : Option Nat} (hg : w.grownBy w' row) (hne : u.ownBlock = none ∨ u.ownBlock ≠ row) : RowV w' lo hi ei u xs := by
  obtain ⟨B, d, rfl, ho, hb, hk⟩ := h
  exact ⟨B, d, rfl, ho.kept hg hne, hb, hk⟩
theorem RowV.nil : RowV w lo hi ei (.slice none 0 0) [] := ⟨none, 0, rfl, Own.nil _ _ _ _, by simp, by simp [Value.ownBlock]⟩
theorem OwnRows.ulen (h : OwnRows w lo hi eo ei A n c xss us) : us.length = n := by simpa using h.outer.len
theorem OwnRows.intss (h : OwnRows w lo hi eo ei A n c xss us) (hn : n ≤ 9223372036854775807) : Intss w A n xss :=
  ⟨h.len, hn, us, h.ulen, h.outer.reads, fun i u xs hu hx => (h.inner i u xs hu hx).intsV⟩
theorem OwnRows.ext (h : OwnRows w lo hi eo ei A n c xss us) (he : Ext w w') : OwnRows w' lo hi eo ei A n c xss us :=
  ⟨h.len, h.outer.ext he, h.below, fun i u xs hu hx => (h.inner i u xs hu hx).ext he, h.apart⟩
theorem OwnRows.wider {hi' : Nat} (h : OwnRows w lo hi eo ei A n c xss us) (he : hi ≤ hi') : OwnRows w lo hi' eo ei A n c xss us :=
  ⟨h.len, h.outer, fun k hk => Nat.lt_of_lt_of_le (h.below k hk) he, fun i u xs hu hx => (h.inner i u xs hu hx).wider he, h.apart⟩
theorem OwnRows.nil : OwnRows w lo hi eo ei none 0 0 [] [] := ⟨rfl, Own.nil _ _ _ _, by simp [Value.ownBlock], by simp, by simp⟩
theorem RowV.touch {u : Value} {xs : List Int} {l h' : Nat} (h : RowV w lo hi ei u xs) (t : Touch l h' w w') (hb : h' ≤ lo) : RowV w' lo hi ei u xs := by
  obtain ⟨B, d, rfl, ho, hb', hk⟩ := h
  exact ⟨B, d, rfl, ho.touch t hb, hb', hk⟩
theorem OwnRows.touch {l h' : Nat} (h : OwnRows w lo hi eo ei A n c xss us) (t : Touch l h' w w') (hb : h' ≤ lo) : OwnRows w' lo hi eo ei A n c xss us :=
  ⟨h.len, h.outer.touch t hb, h.below, fun i u xs hu hx => (h.inner i u xs hu hx).touch t hb, h.apart⟩
/-- Writing one inner row's cells (by whoever): the outer row and the other rows stay. -/
theorem OwnRows.rewrite (h : OwnRows w lo hi eo ei A n c xss us) (hne : eo ≠ ei) {i : Nat} {u : Value} {xs xs' : List Int} (hu : us[i]? = some u) (hx : xss[i]? = some xs)
    (hg : w.grownBy w' u.ownBlock) (hnew : RowV w' lo hi ei u xs') : OwnRows w' lo hi eo ei A n c (xss.set i xs') us := by
  refine ⟨by simpa using h.len, ?_, h.below, ?_, h.apart⟩
  · obtain ⟨B, d, rfl, ho, _, _⟩ := h.inner i u xs hu hx
    exact h.outer.kept hg (h.outer.ne_type ho hne)
  · intro j v ys hv hy
    rw [List.getElem?_set] at hy
    by_cases hij : i = j
    · subst hij
      rw [if_pos rfl] at hy
      have hvu : v = u := by rw [hu] at hv; injection hv with hv; exact hv.symm
      split at hy
      · injection hy with hy; subst hy; rw [hvu]; exact hnew
      · cases hy
    · rw [if_neg hij] at hy
      refine (h.inner j v ys hv hy).kept hg ?_
      cases hvb : v.ownBlock with
      | none => exact .inl rfl
      | some k => exact .inr fun e => hij (h.apart i j u v k hu hv e.symm hvb)
theorem RowV.lower {u : Value} {xs : List Int} {lo' : Nat} (h : RowV w lo hi ei u xs) (he : lo' ≤ lo) : RowV w lo' hi ei u xs :=
  let ⟨B, d, e, ho, hb, hk⟩ := h
  ⟨B, d, e, ho.lower he, hb, hk⟩
theorem RowV.lt {u : Value} {xs : List Int} (h : RowV w lo hi ei u xs) {k : Nat} (hk : u.ownBlock = some k) : lo ≤ k ∧ k < hi ∧ k < w.heap.size := by
  obtain ⟨B, d, rfl, ho, _, hk'⟩ := h
  exact ⟨(ho.lt k hk).1, hk' k hk, (ho.lt k hk).2⟩
theorem RowV.ne_outer {u : Value} {xs : List Int} {lo' : Nat} (hr : RowV w lo' hi ei u xs) (h : Own w lo eo 1 A n c us) (hne : eo ≠ ei) :
    u.ownBlock = none ∨ u.ownBlock ≠ (Value.slice A n c).ownBlock := by
  obtain ⟨B, d, rfl, ho, _, _⟩ := hr
  exact Own.ne_type ho h (Ne.symm hne)
theorem OwnRows.ulow (h : OwnRows w lo hi eo ei A n c xss us) {j : Nat} {v : Value} {k : Nat} (hv : us[j]? = some v) (hk : v.ownBlock = some k) : k < hi := by
  have hjl : j < xss.length := by have := (List.getElem?_eq_some_iff.1 hv).1; have := h.ulen; have := h.len; omega
  exact ((h.inner j v _ hv (List.getElem?_eq_getElem hjl)).lt hk).2.1
/-- A new row stored at place i. -/
theorem OwnRows.store {g i : Nat} {u : Value} {xs : List Int} (h : OwnRows w lo hi eo ei (some ⟨g, 0, none⟩) n c xss us) (hne : eo ≠ ei) {hi' : Nat} (hlo : lo ≤ hi) (hhi : hi ≤ hi')
    (hr : RowV w hi hi' ei u xs) : OwnRows (w.setCell ⟨g, i, none⟩ u) lo hi' eo ei (some ⟨g, 0, none⟩) n c (xss.set i xs) (us.set i u) := by
  have hG : w.grownBy (w.setCell ⟨g, i, none⟩ u) (Value.slice (some ⟨g, 0, none⟩) n c).ownBlock := (World.ownsRow.stored h.outer i _).2
  refine ⟨by simpa using h.len, h.outer.store i _, fun k hk => Nat.lt_of_lt_of_le (h.below k hk) hhi, ?_, ?_⟩
  · intro j v ys hv hy
    rw [List.getElem?_set] at hv hy
    by_cases hij : i = j
    · subst hij
      rw [if_pos rfl] at hv hy
      split at hv
      · split at hy
        · injection hv with hv; injection hy with hy; subst hv; subst hy
          exact (hr.kept hG (hr.ne_outer h.outer hne)).lower hlo
        · cases hy
      · cases hv
    · rw [if_neg hij] at hv hy
      have := h.inner j v ys hv hy
      exact (this.kept hG (this.ne_outer h.outer hne)).wider hhi
  · intro a b x v k hx hv hku hkv
    rw [List.getElem?_set] at hx hv
    by_cases hia : i = a
    · subst hia
      rw [if_pos rfl] at hx
      split at hx
      · injection hx with hx; subst hx
        by_cases hib : i = b
        · exact hib
        · rw [if_neg hib] at hv
          have h1 := h.ulow hv hkv
          have h2 := (hr.lt hku).1
          omega
      · cases hx
    · rw [if_neg hia] at hx
      by_cases hib : i = b
      · subst hib
        rw [if_pos rfl] at hv
        split at hv
        · injection hv with hv; subst hv
          have h1 := h.ulow hx hku
          have h2 := (hr.lt hkv).1
          omega
        · cases hv
      · rw [if_neg hib] at hv
        exact h.apart a b x v k hx hv hku hkv
/-- A new row appended: the outer row as the append's law leaves it. -/
theorem OwnRows.push {u : Value} {xs : List Int} {A' : Option Addr} {c' : Nat} (h : OwnRows w lo hi eo ei A n c xss us) (hne : eo ≠ ei) {hi' : Nat} (hlo : lo ≤ hi) (hhi : hi ≤ hi') (hw : hi' ≤ w'.heap.size)
    (hr : RowV w hi hi' ei u xs) (hown : Own w' lo eo 1 A' (n + 1) c' (us ++ [u])) (hg : w.grownBy w' (Value.slice A n c).ownBlock) :
    OwnRows w' lo w'.heap.size eo ei A' (n + 1) c' (xss ++ [xs]) (us ++ [u]) := by
  have hul := h.ulen
  have hxl := h.len
  refine ⟨by simp; omega, hown, fun k hk => (hown.lt k hk).2, ?_, ?_⟩
  · intro j v ys hv hy
    by_cases hj : j < n
    · rw [List.getElem?_append_left (by omega)] at hv hy
      have := h.inner j v ys hv hy
      exact (this.kept hg (this.ne_outer h.outer hne)).wider (by omega)
    · have hj' : j = n := by
        have h1 := (List.getElem?_eq_some_iff.1 hv).1
        simp at h1; omega
      subst hj'
      rw [List.getElem?_append_right (by omega)] at hv hy
      simp [hul] at hv
      simp [← hxl] at hy
      subst hv; subst hy
      exact ((hr.kept hg (hr.ne_outer h.outer hne)).lower hlo).wider (by omega)
  · have hlast : ∀ j v, (us ++ [u])[j]? = some v → (j < n ∧ us[j]? = some v) ∨ (j = n ∧ v = u) := by
      intro j v hv
      by_cases hj : j < n
      · rw [List.getElem?_append_left (by omega)] at hv; exact .inl ⟨hj, hv⟩
      · have hj' : j = n := by
          have h1 := (List.getElem?_eq_some_iff.1 hv).1
          simp at h1; omega
        subst hj'
        rw [List.getElem?_append_right (by omega)] at hv
        simp [hul] at hv
        exact .inr ⟨rfl, hv.symm⟩
    intro a b x v k hx hv hku hkv
    rcases hlast a x hx with ⟨ha, hx'⟩ | ⟨rfl, rfl⟩ <;> rcases hlast b v hv with ⟨hb, hv'⟩ | ⟨rfl, rfl⟩
    · exact h.apart a b x v k hx' hv' hku hkv
    · have h1 := h.ulow hx' hku
      have h2 := (hr.lt hkv).1
      omega
    · have h1 := h.ulow hv' hkv
      have h2 := (hr.lt hku).1
      omega
    · rfl
end

/-! ### Plain lemmas on lists -/
def upFrom (k : Int) (n : Nat) : List Int := (List.range n).map fun i : Nat => k + (i : Int)
theorem upFrom_length (k : Int) (n : Nat) : (upFrom k n).length = n := by simp [upFrom]
theorem upFrom_succ (k : Int) (n : Nat) : upFrom k (n + 1) = upFrom k n ++ [k + n] := by simp [upFrom, List.range_succ]
theorem upFrom_get {k : Int} {n i : Nat} (h : i < n) : (upFrom k n)[i]? = some (k + i) := by simp [upFrom, h]
theorem take_set_succ {α} (ys : List α) (i : Nat) (x : α) (h : i < ys.length) : (ys.set i x).take (i + 1) = ys.take i ++ [x] := by
  apply List.ext_getElem?
  intro j
  simp only [List.getElem?_take, List.getElem?_append, List.length_take, List.getElem?_set]
  by_cases h1 : j < i
  · rw [if_pos (by omega), if_neg (by omega), if_pos (by omega), if_pos h1]
  · by_cases h2 : j = i
    · subst h2
      rw [if_pos (by omega), if_pos rfl, if_pos h, if_neg (by omega)]
      simp [show min j ys.length = j by omega]
    · rw [if_neg (by omega), if_neg (by omega)]
      symm; apply List.getElem?_eq_none; simp; omega
theorem take_succ_of {α} {xs : List α} {i : Nat} {x : α} (hx : Hid (xs[i]? = some x)) : xs.take (i + 1) = xs.take i ++ [x] := by
  rw [List.take_add_one, hx.out]; rfl
theorem ne_of_get {xs ys : List Int} {i : Nat} {x y : Int} (hx : Hid (xs[i]? = some x)) (hy : Hid (ys[i]? = some y)) (h : x ≠ y) : decide (xs = ys) = false := by
  rw [decide_eq_false_iff_not]
  rintro rfl
  have h1 := hx.out
  have h2 := hy.out
  rw [h1] at h2
  exact h (by injection h2)
theorem take_eq_succ {xs ys : List Int} {i : Nat} {x y : Int} (hx : Hid (xs[i]? = some x)) (hy : Hid (ys[i]? = some y)) (h : x = y) (hq : Hid (xs.take i = ys.take i)) : Hid (xs.take (i + 1) = ys.take (i + 1)) := by
  unfold Hid
  rw [take_succ_of hx, take_succ_of hy, hq.out, h]
theorem take_eq_all {α} {xs ys : List α} {i : Nat} (hq : Hid (xs.take i = ys.take i)) (h1 : xs.length ≤ i) (h2 : ys.length ≤ i) : xs = ys := by
  have h := hq.out
  rwa [List.take_of_length_le h1, List.take_of_length_le h2] at h
theorem get_map_int {xs : List Int} {i : Nat} {x : Int} (hx : xs[i]? = some x) : (xs.map (Value.int .i64))[i]? = some (.int .i64 x) := by rw [List.getElem?_map, hx]; rfl
theorem set_map_int (xs : List Int) (i : Nat) (x : Int) : (xs.map (Value.int .i64)).set i (.int .i64 x) = (xs.set i x).map (Value.int .i64) := by rw [List.map_set]

theorem Ext.frozen {w w' : World} (h : Ext w w') {p : Addr} (hp : p.block < w.heap.size) (hf : w.frozen? p = false) : w'.frozen? p = false := (Below.frozen h hp).trans hf
theorem Own.setLow {w : World} {base : Nat} {e : TypeId} {size : Nat} {A : Option Addr} {n c : Nat} {us : List Value} (h : Own w base e size A n c us) {p : Addr} (hp : p.block < base) (u : Value) : Own (w.setCell p u) base e size A n c us :=
  h.storeOther u (fun e => by have := (h.lt _ e).1; omega)
theorem Own.arr {w : World} {base : Nat} {e : TypeId} {size : Nat} (cs : Array Value) (n : Nat) (us : List Value) (hb : base ≤ w.heap.size) (hm : n ≤ maxLen) (hs : us.length = n * size) (hu : cs.toList = us) :
    Own (w.alloc (.cells cs e)) base e size (some ⟨w.heap.size, 0, none⟩) n n us := by
  subst hu
  exact World.ownsRow_lit (base := base) (e := e) (size := size) w cs n hb hm (by simpa using hs)
theorem toList_made_set (z u : Value) (n i : Nat) : ((madeCells #[z] n).setIfInBounds i u).toList = (List.replicate n z).set i u := by
  rw [Array.toList_setIfInBounds, toList_madeCells_one]

theorem Own.arr_at {w : World} {base g : Nat} {e : TypeId} {size : Nat} (cs : Array Value) (n : Nat) (us : List Value) (hg : g = w.heap.size) (hb : base ≤ w.heap.size) (hm : n ≤ 140737488355328) (hs : us.length = n * size) (hu : cs.toList = us) :
    Own (w.alloc (.cells cs e)) base e size (some ⟨g, 0, none⟩) n n us := by
  subst hg
  exact Own.arr cs n us hb (by simp only [maxLen]; omega) hs hu
theorem made_get (z : Value) (n i : Nat) (h : i < n) : (madeCells #[z] n)[i]? = some z := by
  rw [← Array.getElem?_toList, toList_madeCells_one, List.getElem?_replicate, if_pos h]

theorem Own.alloc {w : World} {base : Nat} {e : TypeId} {size : Nat} {A : Option Addr} {n c : Nat} {us : List Value} (h : Own w base e size A n c us) (o : Obj) : Own (w.alloc o) base e size A n c us := h.ext ((Ext.refl _).alloc _)

def planeLitOk (v l : Int) : Bool := within v 0 12 && isLit v l
theorem isLit_true {v l : Int} (h1 : within v 0 12 = true) (h : isLit v l = true) : -v ≤ l ∧ l ≤ v ∧ l ≠ 0 := by
  obtain ⟨h2, h3⟩ := and2_true h
  have h4 := within_true h3
  have h1 := within_true h1
  have hw : wrap64 (-v) = -v := by unfold wrap64; omega
  rw [hw] at h4
  simp at h2
  omega
/-- The inequality of a literal: its coefficients and its bound. -/
def planeLit (v l : Int) : List Int × Int :=
  if planeLitOk v l then ((List.replicate v.toNat 0).set (l.natAbs - 1) (if l < 0 then -1 else 1), if l < 0 then -1 else 0) else ([], 0)

theorem Touch.cell {lo hi : Nat} {w w' : World} (t : Touch lo hi w w') {p : Addr} {u : Value} (hc : w.cell? p = some u) (h : p.block < lo ∨ hi ≤ p.block) : w'.cell? p = some u :=
  (World.cell?_of_block (t.block p.block (World.block_lt_of_cell? w p hc) h)).trans hc
theorem Own.hi {w : World} {base : Nat} {e : TypeId} {size : Nat} {A : Option Addr} {n c : Nat} {us : List Value} (h : Own w base e size A n c us) {w' w'' : World} (_ : Ext w w')
    (hg : w'.grownBy w'' (Value.slice A n c).ownBlock) : Touch base w.heap.size w' w'' :=
  grown_touch hg fun k hk => h.lt k hk

/-- The literals of a code, from variable v on, n of them. -/
def codeLits : Nat → Nat → Nat → List Int
  | 0, _, _ => []
  | n + 1, v, c => (if c % 3 = 1 then [-(v : Int)] else if c % 3 = 2 then [(v : Int)] else []) ++ codeLits n (v + 1) (c / 3)
theorem codeLits_length (n : Nat) : ∀ v c, (codeLits n v c).length ≤ n := by
  induction n with
  | zero => intro v c; simp [codeLits]
  | succ n ih =>
    intro v c
    have := ih (v + 1) (c / 3)
    simp only [codeLits, List.length_append]
    split
    · simp; omega
    · split <;> simp <;> omega

theorem codeLits_hit1 {n v c : Nat} {ys zs : List Int} (h : c % 3 = 1) (hq : Hid (ys ++ codeLits (n + 1) v c = zs)) : Hid ((ys ++ [-(v : Int)]) ++ codeLits n (v + 1) (c / 3) = zs) := by
  have hq := hq.out
  simpa [Hid, codeLits, h] using hq
theorem codeLits_hit2 {n v c : Nat} {ys zs : List Int} (h : c % 3 = 2) (hq : Hid (ys ++ codeLits (n + 1) v c = zs)) : Hid ((ys ++ [(v : Int)]) ++ codeLits n (v + 1) (c / 3) = zs) := by
  have hq := hq.out
  simpa [Hid, codeLits, h] using hq
theorem codeLits_hit0 {n v c : Nat} {ys zs : List Int} (h1 : c % 3 ≠ 1) (h2 : c % 3 ≠ 2) (hq : Hid (ys ++ codeLits (n + 1) v c = zs)) : Hid (ys ++ codeLits n (v + 1) (c / 3) = zs) := by
  have hq := hq.out
  simpa [Hid, codeLits, h1, h2] using hq

theorem quiet_left {P : Program} {f : FuncId} {args : Array Value} {w : World} {n : Nat} {v : Value}
    (h : Calls P f args (w.drewN n) fun e w' => e = .returned v ∧ w.drewN n = w') : Calls P f args (w.drewN n) fun e w'' => e = .returned v ∧ ∃ m, w'' = w.drewN m :=
  h.mono fun _ _ ⟨he, hm⟩ => ⟨he, n, hm.symm⟩
theorem quiet_left2 {P : Program} {f : FuncId} {args : Array Value} {w : World} {a n : Nat} {v : Value}
    (h : Calls P f args (w.drewN (a + n)) fun e w' => e = .returned v ∧ w.drewN (a + n) = w') : Calls P f args (w.drewN (a + n)) fun e w'' => e = .returned v ∧ ∃ m, w'' = w.drewN (a + m) :=
  h.mono fun _ _ ⟨he, hm⟩ => ⟨he, n, hm.symm⟩

/-! ### 'for all of a range' -/
theorem rangeAll_succ {p : Nat → Bool} {k : Nat} (h : Hid ((List.range k).all p = true)) (hp : p k = true) : Hid ((List.range (k + 1)).all p = true) := by
  have h := h.out
  unfold Hid
  rw [List.range_succ, List.all_append, h]; simp [hp]
theorem rangeAll_false {p : Nat → Bool} {n k : Nat} (hk : k < n) (hp : p k = false) : (List.range n).all p = false := by
  rw [List.all_eq_false]; exact ⟨k, by simpa using hk, by simp [hp]⟩
theorem getD_of {α} {xs : List α} {i : Nat} {x d : α} (hx : Hid (xs[i]? = some x)) : xs.getD i d = x := by rw [List.getD_eq_getElem?_getD, hx.out]; rfl
/-- Is place i of a clause as it must be? -/
def litAt (v : Int) (c : List Int) (i : Nat) : Bool := isLit v (c.getD i 0) && (decide (i = 0) || decide (absW (c.getD (i - 1) 0) < absW (c.getD i 0)))
def clauseOk (v : Int) (c : List Int) : Bool := within v 0 12 && (List.range c.length).all (litAt v c)
theorem litAt_no {v : Int} {c : List Int} {i : Nat} {x : Int} (hx : Hid (c[i]? = some x)) (h : isLit v x = false) : litAt v c i = false := by
  unfold litAt; rw [getD_of hx, h]; rfl
theorem litAt_first {v : Int} {c : List Int} {x : Int} (hx : Hid (c[0]? = some x)) (h : isLit v x = true) : litAt v c 0 = true := by
  unfold litAt; rw [getD_of hx, h]; rfl
theorem litAt_next {v : Int} {c : List Int} {i : Nat} {x y : Int} (hi : 0 < i) (hx : Hid (c[i]? = some x)) (hy : Hid (c[i - 1]? = some y)) (h : isLit v x = true) : litAt v c i = decide (absW y < absW x) := by
  unfold litAt; rw [getD_of hx, getD_of hy, h]; simp; omega

theorem Own.int_at {w : World} {base : Nat} {e : TypeId} {g n c : Nat} {xs : List Int} (h : Own w base e 1 (some ⟨g, 0, none⟩) n c (xs.map (Value.int .i64))) {q : Nat} (hq : q < n) :
    ∃ x, Hid (xs[q]? = some x) ∧ w.cell? ⟨g, q, none⟩ = some (.int .i64 x) ∧ w.frozen? ⟨g, q, none⟩ = false := by
  have hl : xs.length = n := by have := h.len; simpa using this
  exact ⟨_, List.getElem?_eq_getElem (by omega), h.cell (get_map_int (List.getElem?_eq_getElem (by omega))), h.frozen q⟩
theorem Own.setInt {w : World} {base : Nat} {e : TypeId} {g n c : Nat} {xs : List Int} (h : Own w base e 1 (some ⟨g, 0, none⟩) n c (xs.map (Value.int .i64))) (q : Nat) (x : Int) :
    Own (w.setCell ⟨g, q, none⟩ (.int .i64 x)) base e 1 (some ⟨g, 0, none⟩) n c ((xs.set q x).map (Value.int .i64)) := by
  have := h.store q (.int .i64 x)
  rwa [set_map_int] at this

/-- append as a step of a region that draws its order: the appended cells lie in a block of their own. -/
theorem step_app {P : Program} {w : World} {ops : Array Oper} {o : Oper} {a : Act} {K : Act → World → Prop} {Q : Exit → Act → World → Prop} {E : Prop} (hgd : o.guard = none) (s x : Operand) (t e : TypeId)
    (ho : o.op = .call { callee := .builtin .append, args := #[s, x], argTypes := #[t, t] }) (ht : P.underlying t = some (.slice e))
    (z : Value) (size bytes : Nat) (hinfo : (P.info? e).map (fun i => (i.zero, i.size, i.bytes)) = some (some z, size, bytes)) (hzs : z.cells.size = size) (hsz : 0 < size)
    {base : Nat} {A : Option Addr} {n c : Nat} {us : List Value} (hs : a.eval s = .slice A n c) (hown : Own w base e size A n c us)
    (B m : Nat) (news : List Value) (hx : a.eval x = .slice (some ⟨B, 0, none⟩) m m) (hl : news.length = m * size) (hblk : w.heap[B]? = some (.cells news.toArray e (0, 0))) (h1 : ∀ u ∈ news, u.oneCell' = true)
    (h63 : n + m ≤ 140737488355328) (hbytes : (n + m) * bytes ≤ 140737488355328) (hbase : base ≤ w.heap.size)
    (h : ∀ A' c' w', Own w' base e size A' (n + m) c' (us ++ news) → w.grownBy w' (Value.slice A n c).ownBlock → K (a.put o.dst (.slice A' (n + m) c')) w') :
    if Region.wanted o (yielded ops a.tmps) = true then Oper.wp P o a w K Q else E := by
  obtain ⟨i, hi, hz, hsize, hby⟩ := info_parts hinfo
  have hw : Region.wanted o (yielded ops a.tmps) = true := by simp [Region.wanted, hgd]
  rw [if_pos hw]
  obtain ⟨v', w', hr, h2, h3, _, _⟩ := run_append_own_at (P := P) w base t o.type e i z size bytes ht hi hz hsize hby hzs hsz _ n us hown ⟨B, 0, none⟩ m m news hl
    (World.news_of_block (by simpa using hblk)) h1 (by simp only [maxLen]; omega) hbytes hbase
  have hv : ∃ A' c', v' = .slice A' (n + m) c' := by
    rcases h2.2 with ⟨rfl, h0⟩ | ⟨g, cap, cur, rfl, _⟩
    · exact ⟨none, 0, by rw [h0]⟩
    · exact ⟨_, _, rfl⟩
  obtain ⟨A', c', rfl⟩ := hv
  unfold Oper.wp execOp
  simp only [ho, resolve, invoke, builtin, Sem.run_bind, Sem.run_pure, Result.andThen_ok, List.map_toArray, List.map_cons, List.map_nil, hs, hx, hr]
  exact h A' c' w' h2 h3

/-! ### A region that draws its order, walked by hand: take an operation first; carry one out -/
theorem heldTake {P : Program} {Q : Exit → Act → World → Prop} {md : Region.Mode} {S : World → Prop} {l : List Oper} (i : Nat) {oi : Oper} {v : Value} {fuel : Nat} {listed : Array Bool} {a : Act} {w : World} (hi : l[i]? = some oi)
    (hs : Region.noSelect l.toArray = true) (hf : Region.free md l.toArray listed i = true) (hr : (Region.ready md l.toArray listed).contains i = true)
    (hQ : ∀ c a w, Q (.panic c) (a.put oi.dst v) w → Q (.panic c) a w) (hy : YieldsIf P l.toArray S oi v a) (hS : S w)
    (h : wpAnyH P md l.toArray Q S fuel (listed.setIfInBounds i true) (a.put oi.dst v) w) : wpAnyH P md l.toArray Q S (fuel + 1) listed a w :=
  wpAnyH_take (by simpa using hi) hs hf hr hQ hy hS h
theorem heldStep {P : Program} {Q : Exit → Act → World → Prop} {md : Region.Mode} {S : World → Prop} {l : List Oper} {fuel : Nat} {listed : Array Bool} {a : Act} {w : World} (i : Nat) {o : Oper} {rs : List Nat} (ho : l[i]? = some o)
    (h : ∀ K' : Act → World → Prop, Shut (∀ a w, S w → (S w → wpAnyH P md l.toArray Q S fuel (listed.setIfInBounds i true) a w) → K' a w) → if Region.wanted o (yielded l.toArray a.tmps) = true then Oper.wp P o a w K' Q else K' (a.put o.dst undef) w)
    (hs : AllReadyH P md l.toArray Q S fuel listed a w rs) : AllReadyH P md l.toArray Q S fuel listed a w (i :: rs) := AllReadyH.cons (by simpa using ho) h hs

/-! ### What a loop leaves alone -/
def KeptM : List Bool → List Value → List Value → Prop
  | true :: m, x :: xs, y :: ys => x = y ∧ KeptM m xs ys
  | false :: m, _ :: xs, _ :: ys => KeptM m xs ys
  | _, _, _ => True
theorem wp_loopK {P : Program} {Q : Exit → Act → World → Prop} {a : Act} {w : World} {c : Code} (K : List Value) (_hK : a.tmps = K.toArray) (I : List Value → Act → World → Prop) (μ : Act → World → Nat) (h₀ : I K a w)
    (round : ∀ a w, I K a w → c.wp P (Exit.then (fun a' w' => I K a' w' ∧ μ a' w' < μ a w) Q) a w) : (Code.loop c).wp P Q a w := wp_loop (I K) μ h₀ round
/-! ### A loop's frame as a function of the slot (frames of many slots) -/
def KeptF (n : Nat) (K : List Value) : List Nat → Act → Prop
  | [], a => a.defers = [] ∧ a.tmps.size = n ∧ True
  | i :: m, a => a.tmps.getD i undef = K.getD i undef ∧ KeptF n K m a
def KeptV (K : List Value) (ks : Nat → Value) : List Nat → Prop
  | [] => True
  | i :: m => ks i = K.getD i undef ∧ KeptV K ks m
/-- The frame: the kept slots as they were, the others as f says. -/
def frameF (n : Nat) (m : List Nat) (ks f : Nat → Value) : List Value := (List.range n).map fun i => if m.contains i then ks i else f i
theorem KeptF.size {n : Nat} {K : List Value} : ∀ {m : List Nat} {a : Act}, KeptF n K m a → a.defers = [] ∧ a.tmps.size = n
  | [], _, h => ⟨h.1, h.2.1⟩
  | _ :: _, _, h => KeptF.size h.2
theorem KeptF.self {K : List Value} {a : Act} (hK : a.tmps = K.toArray) (hd : a.defers = []) : ∀ m : List Nat, KeptF K.length K m a
  | [] => ⟨hd, by rw [hK]; simp, trivial⟩
  | i :: m => ⟨by rw [hK]; simp [Array.getD, List.getD_eq_getElem?_getD]; split <;> simp_all, KeptF.self hK hd m⟩
theorem KeptF.vals {n : Nat} {K : List Value} : ∀ {m : List Nat} {a : Act}, KeptF n K m a → KeptV K (fun i => a.tmps.getD i undef) m
  | [], _, _ => trivial
  | _ :: _, _, h => ⟨h.1, KeptF.vals h.2⟩
theorem KeptF.frame {n : Nat} {K : List Value} {m : List Nat} {a : Act} (h : KeptF n K m a) : a = ⟨(frameF n m (fun i => a.tmps.getD i undef) fun i => a.tmps.getD i undef).toArray, []⟩ := by
  obtain ⟨h1, h2⟩ := h.size
  cases a with
  | mk tmps defers =>
    simp only at h1 h2
    subst h1
    congr 1
    apply Array.ext
    · simp [frameF, h2]
    · intro i hi hi'
      simp [frameF, Array.getD, hi]
theorem wp_loopF {P : Program} {Q : Exit → Act → World → Prop} {a : Act} {w : World} {c : Code} (n : Nat) (K : List Value) (hK : a.tmps = K.toArray) (hn : K.length = n) (m : List Nat) (hd : a.defers = []) (R : (Nat → Value) → World → Prop) (μ : (Nat → Value) → World → Nat)
    (h₀ : R (fun i => a.tmps.getD i undef) w)
    (round : ∀ (ks f : Nat → Value) (wr : World), KeptV K ks m → R f wr → c.wp P (Exit.then (fun a' w' => (KeptF n K m a' ∧ R (fun i => a'.tmps.getD i undef) w') ∧ μ (fun i => a'.tmps.getD i undef) w' < μ f wr) Q) ⟨(frameF n m ks f).toArray, []⟩ wr) : (Code.loop c).wp P Q a w := by
  subst hn
  refine wp_loop (fun a w => KeptF K.length K m a ∧ R (fun i => a.tmps.getD i undef) w) (fun a w => μ (fun i => a.tmps.getD i undef) w) ⟨KeptF.self hK hd m, h₀⟩ ?_
  intro a w ⟨h1, h2⟩
  have h3 := round (fun i => a.tmps.getD i undef) (fun i => a.tmps.getD i undef) w h1.vals h2
  rw [← h1.frame] at h3
  exact h3
/-- The numbers below n at which p holds: how many. -/
def countB (p : Nat → Bool) : Nat → Nat
  | 0 => 0
  | k + 1 => countB p k + (if p k then 1 else 0)
theorem countB_le (p : Nat → Bool) (k : Nat) : countB p k ≤ k := by
  induction k with
  | zero => simp [countB]
  | succ k ih => simp only [countB]; split <;> omega
end Go.Proofs.YtjlnlicojcfpiaaDoor
