/-
  Slices of bools: the laws' helpers; GateValues: both texts return the same.
-/
import Derived.Test.YtialpmmdomhobaaK4
namespace Go.Proofs.Ytialpmmdomhobaa
set_option linter.unusedSimpArgs false
set_option linter.unusedVariables false
open Go.RowKit

structure Bools (w : World) (A : Option Addr) (n : Nat) (bs : List Bool) : Prop where
  len : n = bs.length
  bound : n ≤ 1099511627776
  reads : 0 < n → ∃ g, A = some ⟨g, 0, none⟩ ∧ ∀ j u, bs[j]? = some u → w.cell? ⟨g, j, none⟩ = some (.bool u)
theorem Bools.ext {w w' : World} {A : Option Addr} {n : Nat} {bs : List Bool} (h : Bools w A n bs) (he : Ext w w') : Bools w' A n bs :=
  ⟨h.len, h.bound, fun hn => let ⟨g, e, hc⟩ := h.reads hn; ⟨g, e, fun j u hu => he.cell (hc j u hu)⟩⟩
theorem Bools.at_ {w : World} {A : Option Addr} {n : Nat} {bs : List Bool} (h : Bools w A n bs) {i : Nat} (hi : i < n) :
    ∃ g x, A = some ⟨g, 0, none⟩ ∧ Hid (bs[i]? = some x) ∧ w.cell? ⟨g, i, none⟩ = some (.bool x) := by
  have hl := h.len
  obtain ⟨g, e, hc⟩ := h.reads (by omega)
  have h0 := List.getElem?_eq_getElem (show i < bs.length by omega)
  exact ⟨g, _, e, h0, hc _ _ h0⟩
structure ObB (w : World) (lo hi : Nat) (A : Option Addr) (n c : Nat) (bs : List Bool) : Prop where
  own : Own w lo 4 1 A n c (bs.map Value.bool)
  below : ∀ k, (Value.slice A n c).ownBlock = some k → k < hi
  small : n ≤ 1099511627776
section
variable {w w' : World} {lo hi : Nat} {A : Option Addr} {n c : Nat} {bs : List Bool}
theorem ObB.bools (h : ObB w lo hi A n c bs) : Bools w A n bs := ⟨by have := h.own.len; simp at this; omega, h.small, fun hn => by
    obtain ⟨g, rfl, _, _⟩ := h.own.form hn
    exact ⟨g, rfl, fun j u hu => h.own.cell (get_map_bool hu)⟩⟩
theorem ObB.ext (h : ObB w lo hi A n c bs) (he : Ext w w') : ObB w' lo hi A n c bs := ⟨h.own.ext he, h.below, h.small⟩
theorem ObB.of (h : Own w lo 4 1 A n c (bs.map Value.bool)) (hn : n ≤ 1099511627776) : ObB w lo w.heap.size A n c bs :=
  ⟨h, fun k hk => (h.lt k hk).2, hn⟩
theorem ObB.nil : ObB w lo hi none 0 0 [] := ⟨Own.nil _ _ _ _, by simp [Value.ownBlock], by omega⟩
theorem ObB.empty {W : World} (h : lo ≤ W.heap.size) : ObB (W.alloc (.cells #[] 4)) lo (W.heap.size + 1) (some ⟨W.heap.size, 0, none⟩) 0 0 [] :=
  ⟨Own.arr #[] 0 [] h (by decide) rfl rfl, fun k hk => by simp [Value.ownBlock] at hk; omega, by omega⟩
theorem ObB.touch {l r : Nat} (h : ObB w lo hi A n c bs) (t : Touch l r w w') (hd : r ≤ lo ∨ hi ≤ l) : ObB w' lo hi A n c bs := by
  refine ⟨?_, h.below, h.small⟩
  rcases hd with hd | hd
  · exact h.own.touch t hd
  · exact h.own.touch_below t (fun k hk => by have := h.below k hk; omega)
end
def upB (k : Int) (n : Nat) : List Bool := (List.range n).map fun i : Nat => ((k + (i : Int)) % 3 == 0)
theorem upB_length (k : Int) (n : Nat) : (upB k n).length = n := by simp [upB]
theorem upB_succ (k : Int) (n : Nat) : upB k (n + 1) = upB k n ++ [(k + n) % 3 == 0] := by simp [upB, List.range_succ]
theorem upB_get {k : Int} {n i : Nat} (h : i < n) : (upB k n)[i]? = some ((k + i) % 3 == 0) := by simp [upB, h]

/-- GateValues takes these arguments. -/
def gvOk (v : Int) (gs : List Gt) (bt : Int) : Bool := circB v gs && within bt 0 (2 ^ v.toNat - 1)
end Go.Proofs.Ytialpmmdomhobaa
