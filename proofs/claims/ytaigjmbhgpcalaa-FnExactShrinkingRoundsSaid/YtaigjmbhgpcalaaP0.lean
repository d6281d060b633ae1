/-
  Sums, multiples and quotients of inequalities.
-/
import Derived.Test.YtaigjmbhgpcalaaC14
import Derived.Test.YtaigjmbhgpcalaaC8
import Derived.Deep.RegionLaw

namespace Go.Proofs.Ytaigjmbhgpcalaa
set_option linter.unusedSimpArgs false
set_option linter.unusedVariables false
open Go.RowKit

/-- One int appended to a row of the call's own behind a box. -/
theorem pushedI {w wr w' : World} {b base : Nat} {D e : TypeId} {A A' : Option Addr} {n c c' : Nat} {cs : Array Value} {us vs : List Value}
    (he : Ext w wr) (hbx : BoxAt wr b D cs) (ho : Own wr base e 1 A n c us) (hD : D ≠ e) (hlo : w.heap.size ≤ base) (hb : w.heap.size ≤ b)
    (ho' : Own w' base e 1 A' (n + 1) c' vs) (hg' : wr.grownBy w' (Value.slice A n c).ownBlock) :
    Ext w w' ∧ BoxAt w' b D cs ∧ Ext w (w'.setCell ⟨b, 0, none⟩ (.slice A' (n + 1) c')) ∧ BoxAt (w'.setCell ⟨b, 0, none⟩ (.slice A' (n + 1) c')) b D (cs.setIfInBounds 0 (.slice A' (n + 1) c')) ∧
      Own (w'.setCell ⟨b, 0, none⟩ (.slice A' (n + 1) c')) base e 1 A' (n + 1) c' vs := by
  have hbx' := hbx.grown ho hD hg'
  have hee : Ext w w' := Ext.trans_own he hlo ho hg'
  exact ⟨hee, hbx', hee.setCell hb _, hbx'.set 0 _, ho'.storeOther (p := ⟨b, 0, none⟩) _ (fun e => hbx'.ne ho' hD e)⟩

theorem zip_take_succ {f : Int → Int → Int} {xs ys : List Int} {i : Nat} {x y : Int} (hx : Hid (xs[i]? = some x)) (hy : Hid (ys[i]? = some y)) :
    Hid ((List.zipWith f xs ys).take (i + 1) = (List.zipWith f xs ys).take i ++ [f x y]) :=
  take_succ_of (hide (by rw [List.getElem?_zipWith, hx.out, hy.out]))
theorem map_take_succ {f : Int → Int} {xs : List Int} {i : Nat} {x : Int} (hx : Hid (xs[i]? = some x)) :
    Hid ((xs.map f).take (i + 1) = (xs.map f).take i ++ [f x]) :=
  take_succ_of (hide (by rw [List.getElem?_map, hx.out]; rfl))

end Go.Proofs.Ytaigjmbhgpcalaa

/-
  The functions that give sums, multiples and quotients of inequalities.
-/
namespace Go.Proofs.Ytaigjmbhgpcalaa
set_option linter.unusedSimpArgs false
set_option linter.unusedVariables false
open Go.RowKit

/-- Divided by a positive number, rounded up. -/
def upDiv (a k : Int) : Int := if 0 < a then (a + k - 1) / k else -((-a) / k)
theorem tdiv_neg' (a k : Int) (ha : a ≤ 0) : a.tdiv k = -((-a) / k) := by
  obtain ⟨b, rfl⟩ : ∃ b, a = -b := ⟨-a, by omega⟩
  rw [Int.neg_tdiv, Int.neg_neg, Int.tdiv_eq_ediv_of_nonneg (by omega)]
theorem tmod_neg' (a k : Int) (ha : a ≤ 0) : a.tmod k = -((-a) % k) := by
  obtain ⟨b, rfl⟩ : ∃ b, a = -b := ⟨-a, by omega⟩
  rw [Int.neg_tmod, Int.neg_neg, Int.tmod_eq_emod_of_nonneg (by omega)]
theorem ceil_eq (a k : Int) (hk : 1 ≤ k) : (a + k - 1) / k = if 0 < a % k then a / k + 1 else a / k := by
  have h1 := Int.mul_ediv_add_emod a k
  have h2 := Int.emod_nonneg a (show k ≠ 0 by omega)
  have h3 := Int.emod_lt_of_pos a (show 0 < k by omega)
  have h4 : (a + k - 1) / k = a / k + (a % k + k - 1) / k := by
    have h5 : a + k - 1 = (a % k + k - 1) + k * (a / k) := by rw [← h1]; simp only [Int.mul_ediv_add_emod]; omega
    rw [h5, Int.add_mul_ediv_left _ _ (by omega)]; omega
  rw [h4]
  generalize a % k = r at *
  split
  · have : (r + k - 1) / k = 1 := by
      rw [show r + k - 1 = (r - 1) + k * 1 by omega, Int.add_mul_ediv_left _ _ (by omega), Int.ediv_eq_zero_of_lt (by omega) (by omega)]; omega
    omega
  · have : (r + k - 1) / k = 0 := Int.ediv_eq_zero_of_lt (by omega) (by omega)
    omega
theorem upDiv_go (a k : Int) (hk : 1 ≤ k) : (if 0 < a.tmod k then a.tdiv k + 1 else a.tdiv k) = upDiv a k := by
  unfold upDiv
  by_cases ha : 0 < a
  · rw [if_pos ha, ceil_eq a k hk, Int.tmod_eq_emod_of_nonneg (by omega), Int.tdiv_eq_ediv_of_nonneg (by omega)]
  · rw [if_neg ha, tmod_neg' a k (by omega), tdiv_neg' a k (by omega), if_neg]
    have := Int.emod_nonneg (-a) (show k ≠ 0 by omega)
    omega
theorem upDiv_exact (a k : Int) (hk : 1 ≤ k) (h : a.tmod k = 0) : upDiv a k = a.tdiv k := by rw [← upDiv_go a k hk, if_neg (by omega)]
theorem ediv_small (b k : Int) (hb : 0 ≤ b) (hk : 1 ≤ k) : 0 ≤ b / k ∧ b / k ≤ b := ⟨Int.ediv_nonneg hb (by omega), Int.ediv_le_self k hb⟩
theorem tdiv_small (a k : Int) (hk : 1 ≤ k) : (a ≤ 0 → a ≤ a.tdiv k ∧ a.tdiv k ≤ 0) ∧ (0 ≤ a → 0 ≤ a.tdiv k ∧ a.tdiv k ≤ a) := by
  refine ⟨fun h => ?_, fun h => ?_⟩
  · rw [tdiv_neg' a k h]
    have := ediv_small (-a) k (by omega) hk
    omega
  · rw [Int.tdiv_eq_ediv_of_nonneg h]
    exact ediv_small a k h hk
theorem upDiv_small (a k : Int) (hk : 1 ≤ k) : (a ≤ 0 → a ≤ upDiv a k ∧ upDiv a k ≤ 0) ∧ (0 ≤ a → 0 ≤ upDiv a k ∧ upDiv a k ≤ a) := by
  refine ⟨fun h => ?_, fun h => ?_⟩
  · unfold upDiv
    rw [if_neg (by omega)]
    have := ediv_small (-a) k (by omega) hk
    omega
  · by_cases h0 : a = 0
    · subst h0; simp [upDiv]
    · unfold upDiv
      rw [if_pos (by omega)]
      have h1 : a + k - 1 ≤ a * k := by
        obtain ⟨j, rfl⟩ : ∃ j, k = j + 1 := ⟨k - 1, by omega⟩
        rw [Int.mul_add]
        have : j ≤ a * j := by
          have := Int.mul_le_mul_of_nonneg_right (show 1 ≤ a by omega) (show 0 ≤ j by omega)
          omega
        omega
      exact ⟨Int.ediv_nonneg (by omega) (by omega), Int.ediv_le_of_le_mul (by omega) h1⟩

end Go.Proofs.Ytaigjmbhgpcalaa

/-
  The inequality of a clause.
-/
namespace Go.Proofs.Ytaigjmbhgpcalaa
set_option linter.unusedSimpArgs false
set_option linter.unusedVariables false
open Go.RowKit

def litCells (n : Nat) (c : List Int) : List Int := c.foldl (fun q l => q.set (l.natAbs - 1) (if 0 < l then 1 else -1)) (List.replicate n 0)
def litBound (c : List Int) : Int := c.foldl (fun b l => if 0 < l then b else b - 1) 1
theorem litCells_succ {n : Nat} {c : List Int} {i : Nat} {x : Int} (hx : Hid (c[i]? = some x)) : litCells n (c.take (i + 1)) = (litCells n (c.take i)).set (x.natAbs - 1) (if 0 < x then 1 else -1) := by
  rw [take_succ_of hx]; simp [litCells]
theorem litBound_succ {c : List Int} {i : Nat} {x : Int} (hx : Hid (c[i]? = some x)) : litBound (c.take (i + 1)) = if 0 < x then litBound (c.take i) else litBound (c.take i) - 1 := by
  rw [take_succ_of hx]; simp [litBound]
theorem litCells_length (n : Nat) (c : List Int) : (litCells n c).length = n := by
  have : ∀ (c : List Int) (q : List Int), (c.foldl (fun q l => q.set (l.natAbs - 1) (if 0 < l then 1 else -1)) q).length = q.length := by
    intro c
    induction c with
    | nil => intro q; rfl
    | cons x c ih => intro q; rw [List.foldl_cons, ih]; simp
  rw [litCells, this]; simp
theorem litBound_le (c : List Int) (i : Nat) : 1 - (i : Int) ≤ litBound (c.take i) ∧ litBound (c.take i) ≤ 1 := by
  induction i with
  | zero => simp [litBound]
  | succ i ih =>
    by_cases h : i < c.length
    · rw [litBound_succ (hide (List.getElem?_eq_getElem h))]
      split <;> omega
    · rw [List.take_of_length_le (by omega)] at ih ⊢
      omega
theorem Own.setBox {w : World} {base : Nat} {e : TypeId} {A : Option Addr} {n c : Nat} {us : List Value} (h : Own w base e 1 A n c us) {b : Nat} {t : TypeId} {cs : Array Value} (hb : BoxAt w b t cs) (hne : t ≠ e) (j : Nat) (u : Value) :
    Own (w.setCell ⟨b, j, none⟩ u) base e 1 A n c us := h.storeOther (p := ⟨b, j, none⟩) u (hb.ne h hne)

end Go.Proofs.Ytaigjmbhgpcalaa

/-
  Steps of plane proofs in plain Lean; no condition.
-/
namespace Go.Proofs.Ytaigjmbhgpcalaa
set_option linter.unusedSimpArgs false
set_option linter.unusedVariables false
open Go.RowKit

/-- A step: its coefficients and bound, its kind, its three numbers. -/
abbrev Ps := List Int × Int × Int × Int × Int × Int
def ps0 : Ps := ([], 0, 0, 0, 0, 0)
def okP (v : Int) (s : Ps) : Bool := ineqOk v s.2.1 s.1
/-- Is there an earlier step at i whose inequality is valid? -/
def befB (v : Int) (ss : List Ps) (k : Nat) (i : Int) : Bool := within i 0 ((k : Int) - 1) && okP v (ss.getD i.toNat ps0)
def single (v : Nat) (a c : Int) : List Int := (List.replicate v 0).set (a.toNat - 1) c
def axOk (cls : List (List Int)) (a b q : Int) : Bool := within a 0 ((cls.length : Int) - 1) && decide (b = 0) && decide (q = 0)
def varOk (v : Nat) (a b q : Int) : Bool := within a 1 v && decide (b = 0) && decide (q = 0)
/-- The inequality that a step must have. -/
def due (v : Nat) (cls : List (List Int)) (ss : List Ps) (k : Nat) (kd a b q : Int) : Option (List Int × Int) :=
  if kd = 1 then (if axOk cls a b q then some (litCells v (cls.getD a.toNat []), litBound (cls.getD a.toNat [])) else none)
  else if kd = 2 then (if varOk v a b q then some (single v a 1, 0) else none)
  else if kd = 3 then (if varOk v a b q then some (single v a (-1), -1) else none)
  else if kd = 4 then (if befB v ss k a && befB v ss k b && decide (q = 0) then some (List.zipWith (· + ·) (ss.getD a.toNat ps0).1 (ss.getD b.toNat ps0).1, (ss.getD a.toNat ps0).2.1 + (ss.getD b.toNat ps0).2.1) else none)
  else if kd = 5 then (if befB v ss k a && decide (b = 0) && within q 1 1000 then some ((ss.getD a.toNat ps0).1.map (· * q), (ss.getD a.toNat ps0).2.1 * q) else none)
  else if kd = 6 then (if befB v ss k a && decide (b = 0) && within q 2 1000 && (ss.getD a.toNat ps0).1.all (fun x => x.tmod q == 0) then some ((ss.getD a.toNat ps0).1.map (·.tdiv q), upDiv (ss.getD a.toNat ps0).2.1 q) else none)
  else none
def stepAt (v : Nat) (cls : List (List Int)) (ss : List Ps) (k : Nat) (s : Ps) : Bool :=
  okP v s && (match due v cls ss k s.2.2.1 s.2.2.2.1 s.2.2.2.2.1 s.2.2.2.2.2 with | none => false | some p => decide (p = (s.1, s.2.1)))
def stepB (v : Nat) (cls : List (List Int)) (ss : List Ps) (k : Nat) : Bool := stepAt v cls ss k (ss.getD k ps0)
/-- Where the first bad step stands, from k on; -1 if there is none among the next m. -/
def badFrom (v : Nat) (cls : List (List Int)) (ss : List Ps) (k : Nat) : Nat → Int
  | 0 => -1
  | m + 1 => if stepB v cls ss k then badFrom v cls ss (k + 1) m else (k : Int)
def firstBad (v : Nat) (cls : List (List Int)) (ss : List Ps) : Int := badFrom v cls ss 0 ss.length
theorem due_1 {v : Nat} {cls : List (List Int)} {ss : List Ps} {k : Nat} {a b q : Int} : due v cls ss k 1 a b q = (if axOk cls a b q then some (litCells v (cls.getD a.toNat []), litBound (cls.getD a.toNat [])) else none) := by simp [due]
theorem due_2 {v : Nat} {cls : List (List Int)} {ss : List Ps} {k : Nat} {a b q : Int} : due v cls ss k 2 a b q = (if varOk v a b q then some (single v a 1, 0) else none) := by simp [due]
theorem due_3 {v : Nat} {cls : List (List Int)} {ss : List Ps} {k : Nat} {a b q : Int} : due v cls ss k 3 a b q = (if varOk v a b q then some (single v a (-1), -1) else none) := by simp [due]
theorem due_4 {v : Nat} {cls : List (List Int)} {ss : List Ps} {k : Nat} {a b q : Int} : due v cls ss k 4 a b q = (if befB v ss k a && befB v ss k b && decide (q = 0) then some (List.zipWith (· + ·) (ss.getD a.toNat ps0).1 (ss.getD b.toNat ps0).1, (ss.getD a.toNat ps0).2.1 + (ss.getD b.toNat ps0).2.1) else none) := by simp [due]
theorem due_5 {v : Nat} {cls : List (List Int)} {ss : List Ps} {k : Nat} {a b q : Int} : due v cls ss k 5 a b q = (if befB v ss k a && decide (b = 0) && within q 1 1000 then some ((ss.getD a.toNat ps0).1.map (· * q), (ss.getD a.toNat ps0).2.1 * q) else none) := by simp [due]
theorem due_6 {v : Nat} {cls : List (List Int)} {ss : List Ps} {k : Nat} {a b q : Int} : due v cls ss k 6 a b q = (if befB v ss k a && decide (b = 0) && within q 2 1000 && (ss.getD a.toNat ps0).1.all (fun x => x.tmod q == 0) then some ((ss.getD a.toNat ps0).1.map (·.tdiv q), upDiv (ss.getD a.toNat ps0).2.1 q) else none) := by simp [due]
theorem due_no {v : Nat} {cls : List (List Int)} {ss : List Ps} {k : Nat} {kd a b q : Int} (h1 : kd ≠ 1) (h2 : kd ≠ 2) (h3 : kd ≠ 3) (h4 : kd ≠ 4) (h5 : kd ≠ 5) (h6 : kd ≠ 6) : due v cls ss k kd a b q = none := by simp [due, h1, h2, h3, h4, h5, h6]
/-- The size of steps, as the laws reckon it. -/
def stepsSize (ss : List Ps) : Nat := rowsSize (ss.map (·.1))
theorem badFrom_hit {v : Nat} {cls : List (List Int)} {ss : List Ps} {k m : Nat} (h : stepB v cls ss k = true) : badFrom v cls ss k (m + 1) = badFrom v cls ss (k + 1) m := by simp [badFrom, h]
theorem badFrom_miss {v : Nat} {cls : List (List Int)} {ss : List Ps} {k m : Nat} (h : stepB v cls ss k = false) : badFrom v cls ss k (m + 1) = (k : Int) := by simp [badFrom, h]
theorem badFrom_all {v : Nat} {cls : List (List Int)} {ss : List Ps} : ∀ {m k : Nat}, badFrom v cls ss k m = -1 → ∀ j, k ≤ j → j < k + m → stepB v cls ss j = true := by
  intro m
  induction m with
  | zero => intro k _ j h1 h2; omega
  | succ m ih =>
    intro k h j h1 h2
    cases hs : stepB v cls ss k
    · rw [badFrom_miss hs] at h; omega
    · rw [badFrom_hit hs] at h
      by_cases hj : j = k
      · subst hj; exact hs
      · exact ih h j (by omega) (by omega)
theorem badFrom_range {v : Nat} {cls : List (List Int)} {ss : List Ps} : ∀ {m k : Nat}, badFrom v cls ss k m = -1 ∨ ((k : Int) ≤ badFrom v cls ss k m ∧ badFrom v cls ss k m < k + m) := by
  intro m
  induction m with
  | zero => intro k; exact .inl rfl
  | succ m ih =>
    intro k
    cases hs : stepB v cls ss k
    · rw [badFrom_miss hs]; right; omega
    · rw [badFrom_hit hs]
      rcases ih (k := k + 1) with h | h
      · exact .inl h
      · right; omega
theorem stepB_ok {v : Nat} {cls : List (List Int)} {ss : List Ps} {k : Nat} (h : stepB v cls ss k = true) : okP v (ss.getD k ps0) = true := by
  unfold stepB stepAt at h
  exact (and2_true h).1
end Go.Proofs.Ytaigjmbhgpcalaa
