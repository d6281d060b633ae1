/-
  Slices of structs of ints, read as one flat list of numbers; gates; the laws' helpers over []Gate.
-/
import Derived.Test.YtcbjaomjamfjcaaO
import Derived.Test.YtcbjaomjamfjcaaK0
namespace Go.Proofs.Ytcbjaomjamfjcaa
set_option linter.unusedSimpArgs false
set_option linter.unusedVariables false
open Go.RowKit

/-- n elements of sz ints each: read as one list. -/
structure Flat (sz : Nat) (w : World) (A : Option Addr) (n : Nat) (ys : List Int) : Prop where
  len : ys.length = n * sz
  bound : n ≤ 1099511627776
  reads : 0 < n → ∃ g, A = some ⟨g, 0, none⟩ ∧ ∀ j u, ys[j]? = some u → w.cell? ⟨g, j, none⟩ = some (.int .i64 u)
theorem Flat.ext {sz : Nat} {w w' : World} {A : Option Addr} {n : Nat} {ys : List Int} (h : Flat sz w A n ys) (he : Ext w w') : Flat sz w' A n ys :=
  ⟨h.len, h.bound, fun hn => let ⟨g, e, hc⟩ := h.reads hn; ⟨g, e, fun j u hu => he.cell (hc j u hu)⟩⟩
theorem Flat.cell3 {w : World} {A : Option Addr} {n : Nat} {ys : List Int} (h : Flat 3 w A n ys) {i : Nat} (hi : i < n) :
    ∃ g x y z, A = some ⟨g, 0, none⟩ ∧ Hid (ys[i * 3]? = some x ∧ ys[i * 3 + 1]? = some y ∧ ys[i * 3 + 2]? = some z) ∧ w.cell? ⟨g, i * 3, none⟩ = some (.int .i64 x) ∧ w.cell? ⟨g, i * 3 + 1, none⟩ = some (.int .i64 y) ∧ w.cell? ⟨g, i * 3 + 2, none⟩ = some (.int .i64 z) := by
  have hl := h.len
  obtain ⟨g, e, hc⟩ := h.reads (by omega)
  have h0 := List.getElem?_eq_getElem (show i * 3 < ys.length by omega)
  have h1 := List.getElem?_eq_getElem (show i * 3 + 1 < ys.length by omega)
  have h2 := List.getElem?_eq_getElem (show i * 3 + 2 < ys.length by omega)
  exact ⟨g, _, _, _, e, ⟨h0, h1, h2⟩, hc _ _ h0, hc _ _ h1, hc _ _ h2⟩
/-- Elements of the call's own, in blocks lo .. hi - 1. -/
structure ObF (e : TypeId) (sz : Nat) (w : World) (lo hi : Nat) (A : Option Addr) (n c : Nat) (ys : List Int) : Prop where
  own : Own w lo e sz A n c (ys.map (Value.int .i64))
  below : ∀ k, (Value.slice A n c).ownBlock = some k → k < hi
  small : n ≤ 1099511627776
section
variable {e : TypeId} {sz : Nat} {w w' : World} {lo hi : Nat} {A : Option Addr} {n c : Nat} {ys : List Int}
theorem ObF.flat (h : ObF e sz w lo hi A n c ys) : Flat sz w A n ys := ⟨by have := h.own.len; simpa using this, h.small, fun hn => by
    obtain ⟨g, rfl, _, _⟩ := h.own.form hn
    exact ⟨g, rfl, fun j u hu => h.own.cell (by rw [List.getElem?_map, hu]; rfl)⟩⟩
theorem ObF.ext (h : ObF e sz w lo hi A n c ys) (he : Ext w w') : ObF e sz w' lo hi A n c ys := ⟨h.own.ext he, h.below, h.small⟩
theorem ObF.of (h : Own w lo e sz A n c (ys.map (Value.int .i64))) (hn : n ≤ 1099511627776) : ObF e sz w lo w.heap.size A n c ys :=
  ⟨h, fun k hk => (h.lt k hk).2, hn⟩
theorem ObF.touch {l r : Nat} (h : ObF e sz w lo hi A n c ys) (t : Touch l r w w') (hd : r ≤ lo ∨ hi ≤ l) : ObF e sz w' lo hi A n c ys := by
  refine ⟨?_, h.below, h.small⟩
  rcases hd with hd | hd
  · exact h.own.touch t hd
  · exact h.own.touch_below t (fun k hk => by have := h.below k hk; omega)
end

/-! ### Gates -/
/-- Gates as one list of numbers. -/
def fl : List Gt → List Int
  | [] => []
  | g :: gs => g.1 :: g.2.1 :: g.2.2 :: fl gs
theorem fl_length (gs : List Gt) : (fl gs).length = gs.length * 3 := by
  induction gs with
  | nil => rfl
  | cons g gs ih => simp only [fl, List.length_cons, ih]; omega
theorem fl_append (gs hs : List Gt) : fl (gs ++ hs) = fl gs ++ fl hs := by
  induction gs with
  | nil => rfl
  | cons g gs ih => simp only [List.cons_append, fl, ih]
theorem fl_get {gs : List Gt} : ∀ {i : Nat} {g : Gt}, gs[i]? = some g → (fl gs)[i * 3]? = some g.1 ∧ (fl gs)[i * 3 + 1]? = some g.2.1 ∧ (fl gs)[i * 3 + 2]? = some g.2.2 := by
  induction gs with
  | nil => intro i g h; simp at h
  | cons x gs ih =>
    intro i g h
    cases i with
    | zero => simp at h; subst h; simp [fl]
    | succ i =>
      simp at h
      obtain ⟨h1, h2, h3⟩ := ih h
      refine ⟨?_, ?_, ?_⟩
      · rw [show (i + 1) * 3 = i * 3 + 1 + 1 + 1 by omega]; simpa [fl] using h1
      · rw [show (i + 1) * 3 + 1 = i * 3 + 1 + 1 + 1 + 1 by omega]; simpa [fl] using h2
      · rw [show (i + 1) * 3 + 2 = i * 3 + 2 + 1 + 1 + 1 by omega]; simpa [fl] using h3
/-- A slice that reads as these gates. -/
structure Gates (w : World) (A : Option Addr) (n : Nat) (gs : List Gt) : Prop where
  len : n = gs.length
  bound : n ≤ 1099511627776
  reads : 0 < n → ∃ g, A = some ⟨g, 0, none⟩ ∧ ∀ i x, gs[i]? = some x → w.cell? ⟨g, i * 3, none⟩ = some (.int .i64 x.1) ∧ w.cell? ⟨g, i * 3 + 1, none⟩ = some (.int .i64 x.2.1) ∧ w.cell? ⟨g, i * 3 + 2, none⟩ = some (.int .i64 x.2.2)
theorem Flat.gates {w : World} {A : Option Addr} {n : Nat} {gs : List Gt} (h : Flat 3 w A n (fl gs)) : Gates w A n gs :=
  ⟨by have := h.len; rw [fl_length] at this; omega, h.bound, fun hn => let ⟨g, e, hc⟩ := h.reads hn; ⟨g, e, fun i x hx => let ⟨h0, h1, h2⟩ := fl_get hx; ⟨hc _ _ h0, hc _ _ h1, hc _ _ h2⟩⟩⟩
theorem Gates.ext {w w' : World} {A : Option Addr} {n : Nat} {gs : List Gt} (h : Gates w A n gs) (he : Ext w w') : Gates w' A n gs :=
  ⟨h.len, h.bound, fun hn => let ⟨g, e, hc⟩ := h.reads hn; ⟨g, e, fun i x hx => let ⟨h0, h1, h2⟩ := hc i x hx; ⟨he.cell h0, he.cell h1, he.cell h2⟩⟩⟩
theorem Gates.at_ {w : World} {A : Option Addr} {n : Nat} {gs : List Gt} (h : Gates w A n gs) {i : Nat} (hi : i < n) :
    ∃ g k a b, A = some ⟨g, 0, none⟩ ∧ Hid (gs[i]? = some (k, a, b)) ∧ w.cell? ⟨g, i * 3, none⟩ = some (.int .i64 k) ∧ w.cell? ⟨g, i * 3 + 1, none⟩ = some (.int .i64 a) ∧ w.cell? ⟨g, i * 3 + 2, none⟩ = some (.int .i64 b) := by
  have hl := h.len
  obtain ⟨g, e, hc⟩ := h.reads (by omega)
  have h0 := List.getElem?_eq_getElem (show i < gs.length by omega)
  obtain ⟨h1, h2, h3⟩ := hc _ _ h0
  exact ⟨g, _, _, _, e, h0, h1, h2, h3⟩
abbrev ObG (w : World) (lo hi : Nat) (A : Option Addr) (n c : Nat) (gs : List Gt) : Prop := ObF 86 3 w lo hi A n c (fl gs)
theorem info_gate : (Try.prog.info? 86).map (fun i => (i.zero, i.size, i.bytes)) = some (some (.agg #[.int .i64 0, .int .i64 0, .int .i64 0]), 3, 24) := by kernel_rfl
theorem ObF.gates {e : TypeId} {w : World} {lo hi : Nat} {A : Option Addr} {n c : Nat} {gs : List Gt} (h : ObF e 3 w lo hi A n c (fl gs)) : Gates w A n gs := h.flat.gates

theorem eqGate_same (a b c : Int) (w : World) :
    Calls Try.prog 73 #[.agg #[.int .i64 a, .int .i64 b, .int .i64 c], .agg #[.int .i64 a, .int .i64 b, .int .i64 c]] w fun e w' => e = .returned (.bool true) ∧ Ext w w' := by
  go_enter Try.func73, Try.ntmps73
  go_wp2
  go_ret
  exact ⟨rfl, by (repeat (first | with_reducible exact Ext.refl _ | with_reducible assumption | ((with_reducible refine Ext.setCell ?_ ?_ _); rotate_left; focus (first | omega | (simp <;> omega))) | with_reducible refine Ext.alloc ?_ _ | with_reducible refine Ext.drewN ?_ _ | with_reducible refine Ext.drew ?_ | with_reducible refine Ext.trans ?_ (by with_reducible assumption)))⟩
set_option maxRecDepth 100000 in
set_option maxHeartbeats 800000 in
theorem eqGateS_same (A B : Option Addr) (n c m d : Nat) (ys : List Int) (w : World) (h : Flat 3 w A n ys) (k : Flat 3 w B m ys) :
    Calls Try.prog 19 #[.slice A n c, .slice B m d] w fun e w' => e = .returned (.bool true) ∧ Ext w w' := by
  have hl : n = m := by have := h.len; have := k.len; omega
  subst hl
  have hb := h.bound
  have hnn : ((n : Int) == (n : Int)) = true := by simp
  go_enter Try.func19, Try.ntmps19
  go_wp2_with fail
  refine wp_loopF 27 _ rfl rfl [0, 1] rfl (fun fr wr => Ext w wr ∧ ∃ i : Nat, i ≤ n ∧ (fr 5) = .int .i64 i) (fun fr wr => n - (intOf (fr 5)).toNat) ?_ ?_
  · (exact ⟨Ext.refl _, 0, by omega, rfl⟩)
  intro ks fr wr hkept hrel; (try dsimp only at hrel)
  change Code.wp _ _ _ ⟨#[ks 0, ks 1, fr 2, fr 3, fr 4, fr 5, fr 6, fr 7, fr 8, fr 9, fr 10, fr 11, fr 12, fr 13, fr 14, fr 15, fr 16, fr 17, fr 18, fr 19, fr 20, fr 21, fr 22, fr 23, fr 24, fr 25, fr 26], []⟩ wr
  simp only [KeptV, List.getD_cons_zero, List.getD_cons_succ] at hkept; obtain ⟨hk0, hk1, -⟩ := hkept
  generalize ks 0 = k0 at hk0 ⊢; subst hk0
  generalize ks 1 = k1 at hk1 ⊢; subst hk1
  generalize fr 5 = s5 at hrel ⊢
  obtain ⟨he, i, hi, hs1⟩ := hrel
  subst hs1
  by_cases hlt : i < n
  · obtain ⟨ad, x, y, z, rfl, hx, a0, a1, a2⟩ := (h.ext he).cell3 hlt
    obtain ⟨ad', x', y', z', rfl, hx', d0, d1, d2⟩ := (k.ext he).cell3 hlt
    have hxx : x' = x ∧ y' = y ∧ z' = z := by
      obtain ⟨p1, p2, p3⟩ := hx.out
      obtain ⟨q1, q2, q3⟩ := hx'.out
      rw [p1] at q1; rw [p2] at q2; rw [p3] at q3
      injection q1; injection q2; injection q3
      exact ⟨by omega, by omega, by omega⟩
    obtain ⟨rfl, rfl, rfl⟩ := hxx
    clear hx hx'
    have hed := (Ext.refl wr).drew
    go_wp2_with fail
    go_region_held3 (fun w' => w'.cell? ⟨ad, i * 3, none⟩ = some (.int .i64 x') ∧ w'.cell? ⟨ad, i * 3 + 1, none⟩ = some (.int .i64 y') ∧ w'.cell? ⟨ad, i * 3 + 2, none⟩ = some (.int .i64 z') ∧ w'.cell? ⟨ad', i * 3, none⟩ = some (.int .i64 x') ∧ w'.cell? ⟨ad', i * 3 + 1, none⟩ = some (.int .i64 y') ∧ w'.cell? ⟨ad', i * 3 + 2, none⟩ = some (.int .i64 z')) (exact ⟨(show Ext wr _ by (repeat (first | with_reducible exact Ext.refl _ | with_reducible assumption | ((with_reducible refine Ext.setCell ?_ ?_ _); rotate_left; focus (first | omega | (simp <;> omega))) | with_reducible refine Ext.alloc ?_ _ | with_reducible refine Ext.drewN ?_ _ | with_reducible refine Ext.drew ?_ | with_reducible refine Ext.trans ?_ (by with_reducible assumption)))).cell a0, (show Ext wr _ by (repeat (first | with_reducible exact Ext.refl _ | with_reducible assumption | ((with_reducible refine Ext.setCell ?_ ?_ _); rotate_left; focus (first | omega | (simp <;> omega))) | with_reducible refine Ext.alloc ?_ _ | with_reducible refine Ext.drewN ?_ _ | with_reducible refine Ext.drew ?_ | with_reducible refine Ext.trans ?_ (by with_reducible assumption)))).cell a1, (show Ext wr _ by (repeat (first | with_reducible exact Ext.refl _ | with_reducible assumption | ((with_reducible refine Ext.setCell ?_ ?_ _); rotate_left; focus (first | omega | (simp <;> omega))) | with_reducible refine Ext.alloc ?_ _ | with_reducible refine Ext.drewN ?_ _ | with_reducible refine Ext.drew ?_ | with_reducible refine Ext.trans ?_ (by with_reducible assumption)))).cell a2, (show Ext wr _ by (repeat (first | with_reducible exact Ext.refl _ | with_reducible assumption | ((with_reducible refine Ext.setCell ?_ ?_ _); rotate_left; focus (first | omega | (simp <;> omega))) | with_reducible refine Ext.alloc ?_ _ | with_reducible refine Ext.drewN ?_ _ | with_reducible refine Ext.drew ?_ | with_reducible refine Ext.trans ?_ (by with_reducible assumption)))).cell d0, (show Ext wr _ by (repeat (first | with_reducible exact Ext.refl _ | with_reducible assumption | ((with_reducible refine Ext.setCell ?_ ?_ _); rotate_left; focus (first | omega | (simp <;> omega))) | with_reducible refine Ext.alloc ?_ _ | with_reducible refine Ext.drewN ?_ _ | with_reducible refine Ext.drew ?_ | with_reducible refine Ext.trans ?_ (by with_reducible assumption)))).cell d1, (show Ext wr _ by (repeat (first | with_reducible exact Ext.refl _ | with_reducible assumption | ((with_reducible refine Ext.setCell ?_ ?_ _); rotate_left; focus (first | omega | (simp <;> omega))) | with_reducible refine Ext.alloc ?_ _ | with_reducible refine Ext.drewN ?_ _ | with_reducible refine Ext.drew ?_ | with_reducible refine Ext.trans ?_ (by with_reducible assumption)))).cell d2⟩) (first | (go_at_call 73; refine (eqGate_same x' y' z' _).mono ?_; rintro e w1 ⟨rfl, he1⟩; have ew1 : Ext wr w1 := (by (repeat (first | with_reducible exact Ext.refl _ | with_reducible assumption | ((with_reducible refine Ext.setCell ?_ ?_ _); rotate_left; focus (first | omega | (simp <;> omega))) | with_reducible refine Ext.alloc ?_ _ | with_reducible refine Ext.drewN ?_ _ | with_reducible refine Ext.drew ?_ | with_reducible refine Ext.trans ?_ (by with_reducible assumption))))))
    have hEH := hide (he.trans ew1)
    clear he
    go_wp2
    exact ⟨⟨(by (repeat (first | exact trivial | refine ⟨rfl, ?_⟩))), hEH.out, i + 1, by omega, by go_num⟩, (by simp [intOf] <;> omega)⟩
  · obtain rfl : i = n := by omega
    go_wp2
    go_ret
    exact ⟨rfl, by (repeat (first | with_reducible exact Ext.refl _ | with_reducible assumption | ((with_reducible refine Ext.setCell ?_ ?_ _); rotate_left; focus (first | omega | (simp <;> omega))) | with_reducible refine Ext.alloc ?_ _ | with_reducible refine Ext.drewN ?_ _ | with_reducible refine Ext.drew ?_ | with_reducible refine Ext.trans ?_ (by with_reducible assumption)))⟩
end Go.Proofs.Ytcbjaomjamfjcaa
