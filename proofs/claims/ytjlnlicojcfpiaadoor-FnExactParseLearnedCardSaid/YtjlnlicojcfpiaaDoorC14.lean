/-
  The functions that pick nodes of a dag: sources and sinks.
-/
import Derived.Test.YtjlnlicojcfpiaaDoorO
namespace Go.Proofs.YtjlnlicojcfpiaaDoor
set_option linter.unusedSimpArgs false
set_option linter.unusedVariables false
open Go.RowKit

/-- The numbers below n that p picks, ascending. -/
def pickAll (p : Nat → Bool) (n : Nat) : List Int := ((List.range n).filter p).map fun i : Nat => (i : Int)
theorem pickAll_hit {p : Nat → Bool} {n : Nat} (h : p n = true) : pickAll p (n + 1) = pickAll p n ++ [(n : Int)] := by simp [pickAll, List.range_succ, h]
theorem pickAll_miss {p : Nat → Bool} {n : Nat} (h : p n = false) : pickAll p (n + 1) = pickAll p n := by simp [pickAll, List.range_succ, h]
theorem pickAll_len (p : Nat → Bool) (n : Nat) : (pickAll p n).length ≤ n := by
  have := List.length_filter_le p (List.range n)
  simpa [pickAll] using this
def isSource (xss : List (List Int)) (x : Nat) : Bool := (xss.getD x []).length == 0
theorem isSource_get {xss : List (List Int)} {x : Nat} {xs : List Int} (hx : Hid (xss[x]? = some xs)) : isSource xss x = (xs.length == 0) := by simp [isSource, List.getD_eq_getElem?_getD, hx.out]
theorem dagOk_len {xss : List (List Int)} (h : dagOk xss = true) : xss.length ≤ 10 := by
  have := within_true (and2_true h).1
  omega

theorem ObI.empty {e : TypeId} {W : World} {lo : Nat} (h : lo ≤ W.heap.size) : ObI e (W.alloc (.cells #[] e)) lo (W.heap.size + 1) (some ⟨W.heap.size, 0, none⟩) 0 0 [] :=
  ⟨Own.arr #[] 0 [] h (by decide) rfl rfl, fun k hk => by simp [Value.ownBlock] at hk; omega, by omega⟩
theorem ObI.wider {e : TypeId} {w : World} {lo hi hi' : Nat} {A : Option Addr} {n c : Nat} {xs : List Int} (h : ObI e w lo hi A n c xs) (hh : hi ≤ hi') : ObI e w lo hi' A n c xs :=
  ⟨h.own, fun k hk => Nat.lt_of_lt_of_le (h.below k hk) hh, h.small⟩
theorem ObI.nil {e : TypeId} {w : World} {lo hi : Nat} : ObI e w lo hi none 0 0 [] := ⟨Own.nil _ _ _ _, by simp [Value.ownBlock], by omega⟩

end Go.Proofs.YtjlnlicojcfpiaaDoor
