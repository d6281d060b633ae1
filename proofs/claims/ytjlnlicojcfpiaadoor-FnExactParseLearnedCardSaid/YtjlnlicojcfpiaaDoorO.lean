/-
  The laws' helpers once more, said of memory of the call's own in one form: what lies in blocks lo .. hi - 1.
-/
import Derived.Test.YtjlnlicojcfpiaaDoorC3
import Derived.Test.YtjlnlicojcfpiaaDoorC12
namespace Go.Proofs.YtjlnlicojcfpiaaDoor
set_option linter.unusedSimpArgs false
set_option linter.unusedVariables false
open Go.RowKit

theorem cell_two {w : World} {b : Nat} {u v x y : Value} (h0 : w.cell? ⟨b, 0, none⟩ = some x) (h1 : w.cell? ⟨b, 1, none⟩ = some y) :
    ((w.setCell ⟨b, 0, none⟩ u).setCell ⟨b, 1, none⟩ v).cell? ⟨b, 0, none⟩ = some u ∧ ((w.setCell ⟨b, 0, none⟩ u).setCell ⟨b, 1, none⟩ v).cell? ⟨b, 1, none⟩ = some v := by
  constructor <;> simp [go_sem, h0, h1]
structure ObI (e : TypeId) (w : World) (lo hi : Nat) (A : Option Addr) (n c : Nat) (xs : List Int) : Prop where
  own : Own w lo e 1 A n c (xs.map (Value.int .i64))
  below : ∀ k, (Value.slice A n c).ownBlock = some k → k < hi
  small : n ≤ 1099511627776
structure ObR (eo ei : TypeId) (w : World) (lo hi : Nat) (A : Option Addr) (n c : Nat) (xss : List (List Int)) : Prop where
  own : ∃ us, OwnRows w lo hi eo ei A n c xss us
  small : rowsSize xss ≤ 1099511627776
theorem ObI.of {e : TypeId} {w : World} {lo : Nat} {A : Option Addr} {n c : Nat} {xs : List Int} (h : Own w lo e 1 A n c (xs.map (Value.int .i64))) (hn : n ≤ 1099511627776) : ObI e w lo w.heap.size A n c xs :=
  ⟨h, fun k hk => (h.lt k hk).2, hn⟩
theorem ObI.ints {e : TypeId} {w : World} {lo hi : Nat} {A : Option Addr} {n c : Nat} {xs : List Int} (h : ObI e w lo hi A n c xs) : Ints w A n xs := h.own.ints (by have := h.small; omega)
theorem ObI.len {e : TypeId} {w : World} {lo hi : Nat} {A : Option Addr} {n c : Nat} {xs : List Int} (h : ObI e w lo hi A n c xs) : n = xs.length := h.ints.len
theorem ObI.ext {e : TypeId} {w w' : World} {lo hi : Nat} {A : Option Addr} {n c : Nat} {xs : List Int} (h : ObI e w lo hi A n c xs) (he : Ext w w') : ObI e w' lo hi A n c xs := ⟨h.own.ext he, h.below, h.small⟩
theorem ObI.touch {e : TypeId} {w w' : World} {lo hi l r : Nat} {A : Option Addr} {n c : Nat} {xs : List Int} (h : ObI e w lo hi A n c xs) (t : Touch l r w w') (hd : r ≤ lo ∨ hi ≤ l) : ObI e w' lo hi A n c xs :=
  ⟨h.own.touch_below t (fun k hk => by have := (h.own.lt k hk).1; have := h.below k hk; omega), h.below, h.small⟩
theorem ObR.intss {eo ei : TypeId} {w : World} {lo hi : Nat} {A : Option Addr} {n c : Nat} {xss : List (List Int)} (h : ObR eo ei w lo hi A n c xss) : Intss w A n xss := by
  obtain ⟨us, ho⟩ := h.own
  have := rowsSize_len ho.len h.small
  exact ho.intss (by omega)
theorem ObR.len {eo ei : TypeId} {w : World} {lo hi : Nat} {A : Option Addr} {n c : Nat} {xss : List (List Int)} (h : ObR eo ei w lo hi A n c xss) : n = xss.length := h.intss.len
theorem ObR.ext {eo ei : TypeId} {w w' : World} {lo hi : Nat} {A : Option Addr} {n c : Nat} {xss : List (List Int)} (h : ObR eo ei w lo hi A n c xss) (he : Ext w w') : ObR eo ei w' lo hi A n c xss :=
  ⟨h.own.imp fun _ k => k.ext he, h.small⟩
theorem RowV.touchAny {w w' : World} {lo hi l r : Nat} {ei : TypeId} {u : Value} {xs : List Int} (h : RowV w lo hi ei u xs) (t : Touch l r w w') (hd : r ≤ lo ∨ hi ≤ l) : RowV w' lo hi ei u xs := by
  obtain ⟨B, d, rfl, ho, hb, hk⟩ := h
  exact ⟨B, d, rfl, ho.touch_below t (fun k hk' => by have := (ho.lt k hk').1; have := hk k hk'; omega), hb, hk⟩
theorem OwnRows.touchAny {w w' : World} {lo hi l r : Nat} {eo ei : TypeId} {A : Option Addr} {n c : Nat} {xss : List (List Int)} {us : List Value} (h : OwnRows w lo hi eo ei A n c xss us) (t : Touch l r w w') (hd : r ≤ lo ∨ hi ≤ l) :
    OwnRows w' lo hi eo ei A n c xss us :=
  ⟨h.len, h.outer.touch_below t (fun k hk => by have := (h.outer.lt k hk).1; have := h.below k hk; omega), h.below, fun i u xs hu hx => (h.inner i u xs hu hx).touchAny t hd, h.apart⟩
theorem ObR.touch {eo ei : TypeId} {w w' : World} {lo hi l r : Nat} {A : Option Addr} {n c : Nat} {xss : List (List Int)} (h : ObR eo ei w lo hi A n c xss) (t : Touch l r w w') (hd : r ≤ lo ∨ hi ≤ l) : ObR eo ei w' lo hi A n c xss :=
  ⟨h.own.imp fun _ k => k.touchAny t hd, h.small⟩
theorem rowsSize_mark (k : Int) (xss : List (List Int)) : rowsSize (markRows k xss) = rowsSize xss := by
  unfold rowsSize rowsTotal
  rw [markRows_length, markRows_lens]
theorem rowsTotal_small {xss : List (List Int)} {t : Nat} (h : rowsSize xss ≤ t) : rowsTotal xss ≤ t := by unfold rowsSize at h; omega

theorem toIntS_o (A : Option Addr) (n c : Nat) (xs : List Int) (w : World) (h : Ints w A n xs) (hn : n ≤ 1048576) :
    Calls Tryd.prog 30 #[.slice A n c] w fun e w' => ∃ A' c', e = .returned (.slice A' n c') ∧ ObI 3 w' w.heap.size w'.heap.size A' n c' xs ∧ Ext w w' :=
  (toIntS_c A n c xs w h hn).mono fun _ _ ⟨A', c', he, ho, hx⟩ => ⟨A', c', he, .of ho (by omega), hx⟩
theorem markIntS_o (A : Option Addr) (n c lo hi : Nat) (k : Int) (xs : List Int) (w : World) (h : ObI 3 w lo hi A n c xs) (hk : 0 ≤ k ∧ k ≤ 70368744177664) :
    Calls Tryd.prog 23 #[.slice A n c, .int .i64 k] w fun e w' => e = .returned (.int .i64 (k + n)) ∧ ObI 3 w' lo hi A n c (upFrom k n) ∧ Touch lo hi w w' :=
  (markIntS_c A n c lo k xs w h.own (by have := h.small; omega) (by omega)).mono fun _ _ ⟨he, ho, hg⟩ => ⟨he, ⟨ho, h.below, h.small⟩, grown_touch hg fun j hj => ⟨(h.own.lt j hj).1, h.below j hj⟩⟩
theorem heldIntS_o (A : Option Addr) (n c lo hi : Nat) (k : Int) (w : World) (h : ObI 3 w lo hi A n c (upFrom k n)) (hk : 0 ≤ k ∧ k ≤ 70368744177664) :
    Calls Tryd.prog 24 #[.slice A n c, .int .i64 k] w fun e w' => e = .returned (.int .i64 (k + n)) ∧ Ext w w' := heldIntS_c A n c k w h.ints (by have := h.small; omega) (by omega)
theorem toIntSS_o (A : Option Addr) (n c : Nat) (xss : List (List Int)) (w : World) (h : Intss w A n xss) (hn : rowsSize xss ≤ 1048576) :
    Calls Tryd.prog 18 #[.slice A n c] w fun e w' => ∃ A' c', e = .returned (.slice A' n c') ∧ ObR 38 3 w' w.heap.size w'.heap.size A' n c' xss ∧ Ext w w' :=
  (toIntSS_c A n c xss w h hn).mono fun _ _ ⟨A', c', us, he, ho, hx⟩ => ⟨A', c', he, ⟨⟨us, ho⟩, by omega⟩, hx⟩
theorem markIntSS_o (A : Option Addr) (n c lo hi : Nat) (k : Int) (xss : List (List Int)) (w : World) (h : ObR 38 3 w lo hi A n c xss) (hk : 0 ≤ k ∧ k ≤ 70368744177664) :
    Calls Tryd.prog 11 #[.slice A n c, .int .i64 k] w fun e w' => e = .returned (.int .i64 (k + rowsTotal xss)) ∧ ObR 38 3 w' lo hi A n c (markRows k xss) ∧ Touch lo hi w w' :=
  let ⟨us, ho⟩ := h.own
  (markIntSS_c A n c lo hi k xss us w ho h.small hk).mono fun _ _ ⟨he, ho', ht⟩ => ⟨he, ⟨⟨us, ho'⟩, by rw [rowsSize_mark]; exact h.small⟩, ht⟩
theorem heldIntSS_o (A : Option Addr) (n c lo hi : Nat) (k : Int) (xss : List (List Int)) (w : World) (h : ObR 38 3 w lo hi A n c (markRows k xss)) (hk : 0 ≤ k ∧ k ≤ 70368744177664) :
    Calls Tryd.prog 12 #[.slice A n c, .int .i64 k] w fun e w' => e = .returned (.int .i64 (k + rowsTotal xss)) ∧ Ext w w' := heldIntSS_c A n c k xss w h.intss (by have := h.small; rwa [rowsSize_mark] at this) hk
theorem pathRows_size (n : Nat) (hn : n ≤ 10) : rowsSize (pathRows n) ≤ 100 := by
  have : ∀ n < 11, rowsSize (pathRows n) ≤ 100 := by decide
  exact this n (by omega)
theorem path_small (k : Int) : rowsSize (if within k 1 10 then pathRows k.toNat else []) ≤ 100 := by
  cases h : within k 1 10
  · simp [rowsSize, rowsTotal]
  · have := within_true h
    simpa using pathRows_size k.toNat (by omega)
end Go.Proofs.YtjlnlicojcfpiaaDoor
