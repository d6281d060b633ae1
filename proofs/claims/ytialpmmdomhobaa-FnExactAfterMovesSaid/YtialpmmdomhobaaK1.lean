/-
  Slices of structs of ints, read as one flat list of numbers; gates; the laws' helpers over []Gate.
-/
import Derived.Test.YtialpmmdomhobaaO
import Derived.Test.YtialpmmdomhobaaK0
namespace Go.Proofs.Ytialpmmdomhobaa
set_option linter.unusedSimpArgs false
set_option linter.unusedVariables false
open Go.RowKit

/-- n elements of sz ints each: read as one list. -/
structure Flat (sz : Nat) (w : World) (A : Option Addr) (n : Nat) (ys : List Int) : Prop where
  len : ys.length = n * sz
  bound : n ≤ 1099511627776
  reads : 0 < n → ∃ g, A = some ⟨g, 0, none⟩ ∧ ∀ j u, ys[j]? = some u → w.cell? ⟨g, j, none⟩ = some (.int .i64 u)
theorem Flat.ext {sz : Nat} {w w' : World} {A : Option Addr} {n : Nat} {ys : List Int} (h : Flat sz w A n ys) (he : Ext w w') : Flat sz w' A n ys :=
  ⟨h.len, h.bound, fun hn => let ⟨g, e, hc⟩ := h.reads hn; ⟨g, e, fun j u hu => he.cell (hc j u hu)⟩⟩
theorem Flat.cell3 {w : World} {A : Option Addr} {n : Nat} {ys : List Int} (h : Flat 3 w A n ys) {i : Nat} (hi : i < n) :
    ∃ g x y z, A = some ⟨g, 0, none⟩ ∧ Hid (ys[i * 3]? = some x ∧ ys[i * 3 + 1]? = some y ∧ ys[i * 3 + 2]? = some z) ∧ w.cell? ⟨g, i * 3, none⟩ = some (.int .i64 x) ∧ w.cell? ⟨g, i * 3 + 1, none⟩ = some (.int .i64 y) ∧ w.cell? ⟨g, i * 3 + 2, none⟩ = some (.int .i64 z) := by
  have hl := h.len
  obtain ⟨g, e, hc⟩ := h.reads (by omega)
  have h0 := List.getElem?_eq_getElem (show i * 3 < ys.length by omega)
  have h1 := List.getElem?_eq_getElem (show i * 3 + 1 < ys.length by omega)
  have h2 := List.getElem?_eq_getElem (show i * 3 + 2 < ys.length by omega)
  exact ⟨g, _, _, _, e, ⟨h0, h1, h2⟩, hc _ _ h0, hc _ _ h1, hc _ _ h2⟩
/-- Elements of the call's own, in blocks lo .. hi - 1. -/
structure ObF (e : TypeId) (sz : Nat) (w : World) (lo hi : Nat) (A : Option Addr) (n c : Nat) (ys : List Int) : Prop where
  own : Own w lo e sz A n c (ys.map (Value.int .i64))
  below : ∀ k, (Value.slice A n c).ownBlock = some k → k < hi
  small : n ≤ 1099511627776
section
variable {e : TypeId} {sz : Nat} {w w' : World} {lo hi : Nat} {A : Option Addr} {n c : Nat} {ys : List Int}
theorem ObF.flat (h : ObF e sz w lo hi A n c ys) : Flat sz w A n ys := ⟨by have := h.own.len; simpa using this, h.small, fun hn => by
    obtain ⟨g, rfl, _, _⟩ := h.own.form hn
    exact ⟨g, rfl, fun j u hu => h.own.cell (by rw [List.getElem?_map, hu]; rfl)⟩⟩
theorem ObF.ext (h : ObF e sz w lo hi A n c ys) (he : Ext w w') : ObF e sz w' lo hi A n c ys := ⟨h.own.ext he, h.below, h.small⟩
theorem ObF.of (h : Own w lo e sz A n c (ys.map (Value.int .i64))) (hn : n ≤ 1099511627776) : ObF e sz w lo w.heap.size A n c ys :=
  ⟨h, fun k hk => (h.lt k hk).2, hn⟩
theorem ObF.touch {l r : Nat} (h : ObF e sz w lo hi A n c ys) (t : Touch l r w w') (hd : r ≤ lo ∨ hi ≤ l) : ObF e sz w' lo hi A n c ys := by
  refine ⟨?_, h.below, h.small⟩
  rcases hd with hd | hd
  · exact h.own.touch t hd
  · exact h.own.touch_below t (fun k hk => by have := h.below k hk; omega)
end

/-! ### Gates -/
/-- Gates as one list of numbers. -/
def fl : List Gt → List Int
  | [] => []
  | g :: gs => g.1 :: g.2.1 :: g.2.2 :: fl gs
theorem fl_length (gs : List Gt) : (fl gs).length = gs.length * 3 := by
  induction gs with
  | nil => rfl
  | cons g gs ih => simp only [fl, List.length_cons, ih]; omega
theorem fl_append (gs hs : List Gt) : fl (gs ++ hs) = fl gs ++ fl hs := by
  induction gs with
  | nil => rfl
  | cons g gs ih => simp only [List.cons_append, fl, ih]
theorem fl_get {gs : List Gt} : ∀ {i : Nat} {g : Gt}, gs[i]? = some g → (fl gs)[i * 3]? = some g.1 ∧ (fl gs)[i * 3 + 1]? = some g.2.1 ∧ (fl gs)[i * 3 + 2]? = some g.2.2 := by
  induction gs with
  | nil => intro i g h; simp at h
  | cons x gs ih =>
    intro i g h
    cases i with
    | zero => simp at h; subst h; simp [fl]
    | succ i =>
      simp at h
      obtain ⟨h1, h2, h3⟩ := ih h
      refine ⟨?_, ?_, ?_⟩
      · rw [show (i + 1) * 3 = i * 3 + 1 + 1 + 1 by omega]; simpa [fl] using h1
      · rw [show (i + 1) * 3 + 1 = i * 3 + 1 + 1 + 1 + 1 by omega]; simpa [fl] using h2
      · rw [show (i + 1) * 3 + 2 = i * 3 + 2 + 1 + 1 + 1 by omega]; simpa [fl] using h3
/-- A slice that reads as these gates. -/
structure Gates (w : World) (A : Option Addr) (n : Nat) (gs : List Gt) : Prop where
  len : n = gs.length
  bound : n ≤ 1099511627776
  reads : 0 < n → ∃ g, A = some ⟨g, 0, none⟩ ∧ ∀ i x, gs[i]? = some x → w.cell? ⟨g, i * 3, none⟩ = some (.int .i64 x.1) ∧ w.cell? ⟨g, i * 3 + 1, none⟩ = some (.int .i64 x.2.1) ∧ w.cell? ⟨g, i * 3 + 2, none⟩ = some (.int .i64 x.2.2)
theorem Flat.gates {w : World} {A : Option Addr} {n : Nat} {gs : List Gt} (h : Flat 3 w A n (fl gs)) : Gates w A n gs :=
  ⟨by have := h.len; rw [fl_length] at this; omega, h.bound, fun hn => let ⟨g, e, hc⟩ := h.reads hn; ⟨g, e, fun i x hx => let ⟨h0, h1, h2⟩ := fl_get hx; ⟨hc _ _ h0, hc _ _ h1, hc _ _ h2⟩⟩⟩
theorem Gates.ext {w w' : World} {A : Option Addr} {n : Nat} {gs : List Gt} (h : Gates w A n gs) (he : Ext w w') : Gates w' A n gs :=
  ⟨h.len, h.bound, fun hn => let ⟨g, e, hc⟩ := h.reads hn; ⟨g, e, fun i x hx => let ⟨h0, h1, h2⟩ := hc i x hx; ⟨he.cell h0, he.cell h1, he.cell h2⟩⟩⟩
theorem Gates.at_ {w : World} {A : Option Addr} {n : Nat} {gs : List Gt} (h : Gates w A n gs) {i : Nat} (hi : i < n) :
    ∃ g k a b, A = some ⟨g, 0, none⟩ ∧ Hid (gs[i]? = some (k, a, b)) ∧ w.cell? ⟨g, i * 3, none⟩ = some (.int .i64 k) ∧ w.cell? ⟨g, i * 3 + 1, none⟩ = some (.int .i64 a) ∧ w.cell? ⟨g, i * 3 + 2, none⟩ = some (.int .i64 b) := by
  have hl := h.len
  obtain ⟨g, e, hc⟩ := h.reads (by omega)
  have h0 := List.getElem?_eq_getElem (show i < gs.length by omega)
  obtain ⟨h1, h2, h3⟩ := hc _ _ h0
  exact ⟨g, _, _, _, e, h0, h1, h2, h3⟩
theorem ObF.gates {e : TypeId} {w : World} {lo hi : Nat} {A : Option Addr} {n c : Nat} {gs : List Gt} (h : ObF e 3 w lo hi A n c (fl gs)) : Gates w A n gs := h.flat.gates

end Go.Proofs.Ytialpmmdomhobaa
