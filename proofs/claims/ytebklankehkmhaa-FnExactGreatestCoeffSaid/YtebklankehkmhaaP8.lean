/-
  Helpers of the reference's l16Correct; no condition.
-/
import Derived.Test.YtebklankehkmhaaP3
import Derived.Test.YtebklankehkmhaaP4
import Derived.Test.YtebklankehkmhaaC30
namespace Go.Proofs.Ytebklankehkmhaa
set_option linter.unusedSimpArgs false
set_option linter.unusedVariables false
open Go.RowKit
def dueB (d : Option (List Int × Int)) (xs : List Int) (bd : Int) : Bool := match d with | none => false | some p => decide (p = (xs, bd))
theorem dueB_some {p : List Int × Int} {xs : List Int} {bd : Int} : dueB (some p) xs bd = decide (p = (xs, bd)) := rfl
theorem same_dec {xs ys : List Int} {bd be : Int} : sameB xs bd ys be = decide ((ys, be) = (xs, bd)) := by
  rw [Bool.eq_iff_iff]; simp only [sameB, Bool.and_eq_true, decide_eq_true_eq, Prod.mk.injEq]
  constructor <;> (rintro ⟨rfl, rfl⟩; exact ⟨rfl, rfl⟩)
theorem dueB_step {v : Nat} {cls : List (List Int)} {ss : List Ps} {k : Nat} {xs : List Int} {bd kd a b q : Int} (h : ss[k]? = some (xs, bd, kd, a, b, q)) : stepB v cls ss k = (ineqOk v bd xs && dueB (due v cls ss k kd a b q) xs bd) := by
  unfold stepB; rw [getD_of (hide h)]; rfl
theorem l16Plane_okP (v bd : Int) (A : Option Addr) (n c : Nat) (xs : List Int) (w : World) (h : Ints w A n xs) (hv : within v 0 12 = true) :
    Calls Try.prog 117 #[.int .i64 v, .agg #[.slice A n c, .int .i64 bd]] w fun e w' => e = .returned (.bool (ineqOk v bd xs)) ∧ Ext w w' := by
  refine (l16Plane_c v bd A n c xs w h).mono ?_
  rintro e w1 ⟨rfl, he⟩
  exact ⟨ret_bool (by unfold ineqOk; rw [hv, h.len]; simp), he⟩
end Go.Proofs.Ytebklankehkmhaa
