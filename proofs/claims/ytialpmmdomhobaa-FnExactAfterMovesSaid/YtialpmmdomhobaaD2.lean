/-
  NodesUnder: both texts return the same.
-/
import Derived.Test.YtialpmmdomhobaaD1
import Derived.Test.YtialpmmdomhobaaK11
namespace Go.Proofs.Ytialpmmdomhobaa
set_option linter.unusedSimpArgs false
set_option linter.unusedVariables false
open Go.RowKit

def undOk (xss : List (List Int)) (x : Int) : Bool := dagOk xss && within x 0 ((xss.length : Int) - 1)
theorem pickAll_congr {p q : Nat → Bool} {n : Nat} (h : ∀ j, j < n → p j = q j) : pickAll p n = pickAll q n := by
  induction n with
  | zero => rfl
  | succ n ih =>
    have h1 := ih (fun j hj => h j (by omega))
    have h2 := h n (by omega)
    cases hp : p n
    · rw [pickAll_miss hp, pickAll_miss (by rw [← h2]; exact hp), h1]
    · rw [pickAll_hit hp, pickAll_hit (by rw [← h2]; exact hp), h1]
theorem und_pick {xss : List (List Int)} (hg : GoodD xss) {x : Nat} (hx : x < xss.length) (hl : xss.length ≤ 10) : pickAll (und xss x).testBit 10 = pickAll (fun j => (dMarks xss x).getD j false) (x + 1) := by
  rw [pickAll_more (n := x + 1) (by omega) (fun j hj => by
    cases h : (und xss x).testBit j with
    | false => rfl
    | true => have := und_le hg x j h; omega)]
  exact pickAll_congr (fun j _ => (dMarks_bit hg hx j).symm)
end Go.Proofs.Ytialpmmdomhobaa
