/-
  Steps of plane proofs in plain Lean; no condition.
-/
import Derived.Test.YtaigjmbhgpcalaaC8
import Derived.Test.YtaigjmbhgpcalaaC23

namespace Go.Proofs.Ytaigjmbhgpcalaa
set_option linter.unusedSimpArgs false
set_option linter.unusedVariables false
open Go.RowKit

/-- A step: its coefficients and bound, its kind, its three numbers. -/
abbrev Ps := List Int × Int × Int × Int × Int × Int
def ps0 : Ps := ([], 0, 0, 0, 0, 0)
def okP (v : Int) (s : Ps) : Bool := ineqOk v s.2.1 s.1
/-- Is there an earlier step at i whose inequality is valid? -/
def befB (v : Int) (ss : List Ps) (k : Nat) (i : Int) : Bool := within i 0 ((k : Int) - 1) && okP v (ss.getD i.toNat ps0)
def single (v : Nat) (a c : Int) : List Int := (List.replicate v 0).set (a.toNat - 1) c
def axOk (cls : List (List Int)) (a b q : Int) : Bool := within a 0 ((cls.length : Int) - 1) && decide (b = 0) && decide (q = 0)
def varOk (v : Nat) (a b q : Int) : Bool := within a 1 v && decide (b = 0) && decide (q = 0)
/-- The inequality that a step must have. -/
def due (v : Nat) (cls : List (List Int)) (ss : List Ps) (k : Nat) (kd a b q : Int) : Option (List Int × Int) :=
  if kd = 1 then (if axOk cls a b q then some (litCells v (cls.getD a.toNat []), litBound (cls.getD a.toNat [])) else none)
  else if kd = 2 then (if varOk v a b q then some (single v a 1, 0) else none)
  else if kd = 3 then (if varOk v a b q then some (single v a (-1), -1) else none)
  else if kd = 4 then (if befB v ss k a && befB v ss k b && decide (q = 0) then some (List.zipWith (· + ·) (ss.getD a.toNat ps0).1 (ss.getD b.toNat ps0).1, (ss.getD a.toNat ps0).2.1 + (ss.getD b.toNat ps0).2.1) else none)
  else if kd = 5 then (if befB v ss k a && decide (b = 0) && within q 1 1000 then some ((ss.getD a.toNat ps0).1.map (· * q), (ss.getD a.toNat ps0).2.1 * q) else none)
  else if kd = 6 then (if befB v ss k a && decide (b = 0) && within q 2 1000 && (ss.getD a.toNat ps0).1.all (fun x => x.tmod q == 0) then some ((ss.getD a.toNat ps0).1.map (·.tdiv q), upDiv (ss.getD a.toNat ps0).2.1 q) else none)
  else none
def stepAt (v : Nat) (cls : List (List Int)) (ss : List Ps) (k : Nat) (s : Ps) : Bool :=
  okP v s && (match due v cls ss k s.2.2.1 s.2.2.2.1 s.2.2.2.2.1 s.2.2.2.2.2 with | none => false | some p => decide (p = (s.1, s.2.1)))
def stepB (v : Nat) (cls : List (List Int)) (ss : List Ps) (k : Nat) : Bool := stepAt v cls ss k (ss.getD k ps0)
/-- Where the first bad step stands, from k on; -1 if there is none among the next m. -/
def badFrom (v : Nat) (cls : List (List Int)) (ss : List Ps) (k : Nat) : Nat → Int
  | 0 => -1
  | m + 1 => if stepB v cls ss k then badFrom v cls ss (k + 1) m else (k : Int)
def firstBad (v : Nat) (cls : List (List Int)) (ss : List Ps) : Int := badFrom v cls ss 0 ss.length
theorem due_1 {v : Nat} {cls : List (List Int)} {ss : List Ps} {k : Nat} {a b q : Int} : due v cls ss k 1 a b q = (if axOk cls a b q then some (litCells v (cls.getD a.toNat []), litBound (cls.getD a.toNat [])) else none) := by simp [due]
theorem due_2 {v : Nat} {cls : List (List Int)} {ss : List Ps} {k : Nat} {a b q : Int} : due v cls ss k 2 a b q = (if varOk v a b q then some (single v a 1, 0) else none) := by simp [due]
theorem due_3 {v : Nat} {cls : List (List Int)} {ss : List Ps} {k : Nat} {a b q : Int} : due v cls ss k 3 a b q = (if varOk v a b q then some (single v a (-1), -1) else none) := by simp [due]
theorem due_4 {v : Nat} {cls : List (List Int)} {ss : List Ps} {k : Nat} {a b q : Int} : due v cls ss k 4 a b q = (if befB v ss k a && befB v ss k b && decide (q = 0) then some (List.zipWith (· + ·) (ss.getD a.toNat ps0).1 (ss.getD b.toNat ps0).1, (ss.getD a.toNat ps0).2.1 + (ss.getD b.toNat ps0).2.1) else none) := by simp [due]
theorem due_5 {v : Nat} {cls : List (List Int)} {ss : List Ps} {k : Nat} {a b q : Int} : due v cls ss k 5 a b q = (if befB v ss k a && decide (b = 0) && within q 1 1000 then some ((ss.getD a.toNat ps0).1.map (· * q), (ss.getD a.toNat ps0).2.1 * q) else none) := by simp [due]
theorem due_6 {v : Nat} {cls : List (List Int)} {ss : List Ps} {k : Nat} {a b q : Int} : due v cls ss k 6 a b q = (if befB v ss k a && decide (b = 0) && within q 2 1000 && (ss.getD a.toNat ps0).1.all (fun x => x.tmod q == 0) then some ((ss.getD a.toNat ps0).1.map (·.tdiv q), upDiv (ss.getD a.toNat ps0).2.1 q) else none) := by simp [due]
theorem due_no {v : Nat} {cls : List (List Int)} {ss : List Ps} {k : Nat} {kd a b q : Int} (h1 : kd ≠ 1) (h2 : kd ≠ 2) (h3 : kd ≠ 3) (h4 : kd ≠ 4) (h5 : kd ≠ 5) (h6 : kd ≠ 6) : due v cls ss k kd a b q = none := by simp [due, h1, h2, h3, h4, h5, h6]
/-- The size of steps, as the laws reckon it. -/
def stepsSize (ss : List Ps) : Nat := rowsSize (ss.map (·.1))
theorem badFrom_hit {v : Nat} {cls : List (List Int)} {ss : List Ps} {k m : Nat} (h : stepB v cls ss k = true) : badFrom v cls ss k (m + 1) = badFrom v cls ss (k + 1) m := by simp [badFrom, h]
theorem badFrom_miss {v : Nat} {cls : List (List Int)} {ss : List Ps} {k m : Nat} (h : stepB v cls ss k = false) : badFrom v cls ss k (m + 1) = (k : Int) := by simp [badFrom, h]
theorem badFrom_all {v : Nat} {cls : List (List Int)} {ss : List Ps} : ∀ {m k : Nat}, badFrom v cls ss k m = -1 → ∀ j, k ≤ j → j < k + m → stepB v cls ss j = true := by
  intro m
  induction m with
  | zero => intro k _ j h1 h2; omega
  | succ m ih =>
    intro k h j h1 h2
    cases hs : stepB v cls ss k
    · rw [badFrom_miss hs] at h; omega
    · rw [badFrom_hit hs] at h
      by_cases hj : j = k
      · subst hj; exact hs
      · exact ih h j (by omega) (by omega)
theorem badFrom_range {v : Nat} {cls : List (List Int)} {ss : List Ps} : ∀ {m k : Nat}, badFrom v cls ss k m = -1 ∨ ((k : Int) ≤ badFrom v cls ss k m ∧ badFrom v cls ss k m < k + m) := by
  intro m
  induction m with
  | zero => intro k; exact .inl rfl
  | succ m ih =>
    intro k
    cases hs : stepB v cls ss k
    · rw [badFrom_miss hs]; right; omega
    · rw [badFrom_hit hs]
      rcases ih (k := k + 1) with h | h
      · exact .inl h
      · right; omega
theorem stepB_ok {v : Nat} {cls : List (List Int)} {ss : List Ps} {k : Nat} (h : stepB v cls ss k = true) : okP v (ss.getD k ps0) = true := by
  unfold stepB stepAt at h
  exact (and2_true h).1
end Go.Proofs.Ytaigjmbhgpcalaa
