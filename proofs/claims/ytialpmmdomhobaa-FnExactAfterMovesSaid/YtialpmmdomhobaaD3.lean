/-
  The laws' helpers over []PebbleMove.
-/
import Derived.Test.YtialpmmdomhobaaK2
namespace Go.Proofs.Ytialpmmdomhobaa
set_option linter.unusedSimpArgs false
set_option linter.unusedVariables false
open Go.RowKit

/-- A move: its kind and its node. -/
abbrev Mv := Int × Int
def flm : List Mv → List Int
  | [] => []
  | g :: gs => g.1 :: g.2 :: flm gs
theorem flm_length (gs : List Mv) : (flm gs).length = gs.length * 2 := by
  induction gs with
  | nil => rfl
  | cons g gs ih => simp only [flm, List.length_cons, ih]; omega
theorem flm_append (gs hs : List Mv) : flm (gs ++ hs) = flm gs ++ flm hs := by
  induction gs with
  | nil => rfl
  | cons g gs ih => simp only [List.cons_append, flm, ih]
theorem flm_get {gs : List Mv} : ∀ {i : Nat} {g : Mv}, gs[i]? = some g → (flm gs)[i * 2]? = some g.1 ∧ (flm gs)[i * 2 + 1]? = some g.2 := by
  induction gs with
  | nil => intro i g h; simp at h
  | cons x gs ih =>
    intro i g h
    cases i with
    | zero => simp at h; subst h; simp [flm]
    | succ i =>
      simp at h
      obtain ⟨h1, h2⟩ := ih h
      refine ⟨?_, ?_⟩
      · rw [show (i + 1) * 2 = i * 2 + 1 + 1 by omega]; simpa [flm] using h1
      · rw [show (i + 1) * 2 + 1 = i * 2 + 1 + 1 + 1 by omega]; simpa [flm] using h2
/-- A slice that reads as these moves. -/
structure Moves (w : World) (A : Option Addr) (n : Nat) (gs : List Mv) : Prop where
  len : n = gs.length
  bound : n ≤ 1099511627776
  reads : 0 < n → ∃ g, A = some ⟨g, 0, none⟩ ∧ ∀ i x, gs[i]? = some x → w.cell? ⟨g, i * 2, none⟩ = some (.int .i64 x.1) ∧ w.cell? ⟨g, i * 2 + 1, none⟩ = some (.int .i64 x.2)
theorem Flat.moves {w : World} {A : Option Addr} {n : Nat} {gs : List Mv} (h : Flat 2 w A n (flm gs)) : Moves w A n gs :=
  ⟨by have := h.len; rw [flm_length] at this; omega, h.bound, fun hn => let ⟨g, e, hc⟩ := h.reads hn; ⟨g, e, fun i x hx => let ⟨h0, h1⟩ := flm_get hx; ⟨hc _ _ h0, hc _ _ h1⟩⟩⟩
theorem Moves.ext {w w' : World} {A : Option Addr} {n : Nat} {gs : List Mv} (h : Moves w A n gs) (he : Ext w w') : Moves w' A n gs :=
  ⟨h.len, h.bound, fun hn => let ⟨g, e, hc⟩ := h.reads hn; ⟨g, e, fun i x hx => let ⟨h0, h1⟩ := hc i x hx; ⟨he.cell h0, he.cell h1⟩⟩⟩
theorem Moves.at_ {w : World} {A : Option Addr} {n : Nat} {gs : List Mv} (h : Moves w A n gs) {i : Nat} (hi : i < n) :
    ∃ g k a, A = some ⟨g, 0, none⟩ ∧ Hid (gs[i]? = some (k, a)) ∧ w.cell? ⟨g, i * 2, none⟩ = some (.int .i64 k) ∧ w.cell? ⟨g, i * 2 + 1, none⟩ = some (.int .i64 a) := by
  have hl := h.len
  obtain ⟨g, e, hc⟩ := h.reads (by omega)
  have h0 := List.getElem?_eq_getElem (show i < gs.length by omega)
  obtain ⟨h1, h2⟩ := hc _ _ h0
  exact ⟨g, _, _, e, h0, h1, h2⟩
theorem ObF.moves {e : TypeId} {w : World} {lo hi : Nat} {A : Option Addr} {n c : Nat} {gs : List Mv} (h : ObF e 2 w lo hi A n c (flm gs)) : Moves w A n gs := h.flat.moves
theorem info_move : (Try.prog.info? 49).map (fun i => (i.zero, i.size, i.bytes)) = some (some (.agg #[.int .i64 0, .int .i64 0]), 2, 16) := by kernel_rfl
theorem Flat.cell2 {w : World} {A : Option Addr} {n : Nat} {ys : List Int} (h : Flat 2 w A n ys) {i : Nat} (hi : i < n) :
    ∃ g x y, A = some ⟨g, 0, none⟩ ∧ Hid (ys[i * 2]? = some x ∧ ys[i * 2 + 1]? = some y) ∧ w.cell? ⟨g, i * 2, none⟩ = some (.int .i64 x) ∧ w.cell? ⟨g, i * 2 + 1, none⟩ = some (.int .i64 y) := by
  have hl := h.len
  obtain ⟨g, e, hc⟩ := h.reads (by omega)
  have h0 := List.getElem?_eq_getElem (show i * 2 < ys.length by omega)
  have h1 := List.getElem?_eq_getElem (show i * 2 + 1 < ys.length by omega)
  exact ⟨g, _, _, e, ⟨h0, h1⟩, hc _ _ h0, hc _ _ h1⟩
theorem FlatA.cell2 {w : World} {A : Option Addr} {n : Nat} {ys : List Int} (h : FlatA 2 w A n ys) {i : Nat} (hi : i < n) :
    ∃ ad x y, A = some ad ∧ Hid (ys[i * 2]? = some x ∧ ys[i * 2 + 1]? = some y) ∧ w.cell? (ad.add (i * 2)) = some (.int .i64 x) ∧ w.cell? ⟨(ad.add (i * 2)).block, (ad.add (i * 2)).off + 1, none⟩ = some (.int .i64 y) := by
  have hl := h.len
  have h0 := List.getElem?_eq_getElem (show i * 2 < ys.length by omega)
  have h1 := List.getElem?_eq_getElem (show i * 2 + 1 < ys.length by omega)
  obtain ⟨ad, e, hc⟩ := h.reads (by intro hh; have := congrArg List.length hh; simp at this; subst this; simp at hl; omega)
  refine ⟨ad, _, _, e, ⟨h0, h1⟩, hc _ _ (get_map_int h0), ?_⟩
  show w.cell? ((ad.add (i * 2)).add 1) = _; rw [addr_add_add]; exact hc _ _ (get_map_int h1)
theorem take_set2 {α} (ys : List α) (p : Nat) (x y : α) (h : p + 1 < ys.length) : ((ys.set p x).set (p + 1) y).take (p + 2) = ys.take p ++ [x, y] := by
  rw [take_set_succ _ _ _ (by simpa using h), take_set_succ _ _ _ (by omega)]
  simp
theorem take_two {α} {xs : List α} {p : Nat} {x y : α} (h : Hid (xs[p]? = some x ∧ xs[p + 1]? = some y)) : xs.take (p + 2) = xs.take p ++ [x, y] := by
  obtain ⟨h0, h1⟩ := h.out
  rw [take_succ_of (i := p + 1) (hide h1), take_succ_of (hide h0)]
  simp
theorem szPebbleMoveS_fit (A : Option Addr) (n c : Nat) (left : Int) (w : World) (hn : n ≤ 9223372036854775807) (hl : 0 ≤ left ∧ left ≤ 1048576) (h : (n : Int) ≤ left) :
    Calls Try.prog 5 #[.slice A n c, .int .i64 left] w fun e w' => e = .returned (.int .i64 (left - n)) ∧ Ext w w' := by
  go_enter Try.func5, Try.ntmps5
  go_wp2
  go_ret; exact ⟨rfl, by (repeat (first | with_reducible exact Ext.refl _ | with_reducible assumption | ((with_reducible refine Ext.setCell ?_ ?_ _); rotate_left; focus (first | omega | (simp <;> omega))) | with_reducible refine Ext.alloc ?_ _ | with_reducible refine Ext.drewN ?_ _ | with_reducible refine Ext.drew ?_ | with_reducible refine Ext.trans ?_ (by with_reducible assumption)))⟩
theorem szPebbleMoveS_no (A : Option Addr) (n c : Nat) (left : Int) (w : World) (hn : n ≤ 9223372036854775807) (hl : 0 ≤ left ∧ left ≤ 1048576) (h : left < n) :
    Calls Try.prog 5 #[.slice A n c, .int .i64 left] w fun e w' => e = .returned (.int .i64 (-1)) ∧ Ext w w' := by
  go_enter Try.func5, Try.ntmps5
  go_wp2
  go_ret; exact ⟨rfl, by (repeat (first | with_reducible exact Ext.refl _ | with_reducible assumption | ((with_reducible refine Ext.setCell ?_ ?_ _); rotate_left; focus (first | omega | (simp <;> omega))) | with_reducible refine Ext.alloc ?_ _ | with_reducible refine Ext.drewN ?_ _ | with_reducible refine Ext.drew ?_ | with_reducible refine Ext.trans ?_ (by with_reducible assumption)))⟩
theorem eqPebbleMove_same (a b : Int) (w : World) :
    Calls Try.prog 28 #[.agg #[.int .i64 a, .int .i64 b], .agg #[.int .i64 a, .int .i64 b]] w fun e w' => e = .returned (.bool true) ∧ Ext w w' := by
  go_enter Try.func28, Try.ntmps28
  go_wp2
  go_ret
  exact ⟨rfl, by (repeat (first | with_reducible exact Ext.refl _ | with_reducible assumption | ((with_reducible refine Ext.setCell ?_ ?_ _); rotate_left; focus (first | omega | (simp <;> omega))) | with_reducible refine Ext.alloc ?_ _ | with_reducible refine Ext.drewN ?_ _ | with_reducible refine Ext.drew ?_ | with_reducible refine Ext.trans ?_ (by with_reducible assumption)))⟩
set_option maxRecDepth 100000 in
set_option maxHeartbeats 800000 in
theorem eqPebbleMoveS_same (A B : Option Addr) (n c m d : Nat) (ys : List Int) (w : World) (h : Flat 2 w A n ys) (k : Flat 2 w B m ys) :
    Calls Try.prog 12 #[.slice A n c, .slice B m d] w fun e w' => e = .returned (.bool true) ∧ Ext w w' := by
  have hl : n = m := by have := h.len; have := k.len; omega
  subst hl
  have hb := h.bound
  have hnn : ((n : Int) == (n : Int)) = true := by simp
  go_enter Try.func12, Try.ntmps12
  go_wp2_with fail
  refine wp_loopF 27 _ rfl rfl [0, 1] rfl (fun fr wr => Ext w wr ∧ ∃ i : Nat, i ≤ n ∧ (fr 5) = .int .i64 i) (fun fr wr => n - (intOf (fr 5)).toNat) ?_ ?_
  · (exact ⟨Ext.refl _, 0, by omega, rfl⟩)
  intro ks fr wr hkept hrel; (try dsimp only at hrel)
  change Code.wp _ _ _ ⟨#[ks 0, ks 1, fr 2, fr 3, fr 4, fr 5, fr 6, fr 7, fr 8, fr 9, fr 10, fr 11, fr 12, fr 13, fr 14, fr 15, fr 16, fr 17, fr 18, fr 19, fr 20, fr 21, fr 22, fr 23, fr 24, fr 25, fr 26], []⟩ wr
  simp only [KeptV, List.getD_cons_zero, List.getD_cons_succ] at hkept; obtain ⟨hk0, hk1, -⟩ := hkept
  generalize ks 0 = k0 at hk0 ⊢; subst hk0
  generalize ks 1 = k1 at hk1 ⊢; subst hk1
  generalize fr 5 = s5 at hrel ⊢
  obtain ⟨he, i, hi, hs1⟩ := hrel
  subst hs1
  by_cases hlt : i < n
  · obtain ⟨ad, x, y, rfl, hx, a0, a1⟩ := (h.ext he).cell2 hlt
    obtain ⟨ad', x', y', rfl, hx', d0, d1⟩ := (k.ext he).cell2 hlt
    have hxx : x' = x ∧ y' = y := by
      obtain ⟨p1, p2⟩ := hx.out
      obtain ⟨q1, q2⟩ := hx'.out
      rw [p1] at q1; rw [p2] at q2
      injection q1; injection q2
      exact ⟨by omega, by omega⟩
    obtain ⟨rfl, rfl⟩ := hxx
    clear hx hx'
    have hed := (Ext.refl wr).drew
    go_wp2_with fail
    go_region_held3 (fun w' => w'.cell? ⟨ad, i * 2, none⟩ = some (.int .i64 x') ∧ w'.cell? ⟨ad, i * 2 + 1, none⟩ = some (.int .i64 y') ∧ w'.cell? ⟨ad', i * 2, none⟩ = some (.int .i64 x') ∧ w'.cell? ⟨ad', i * 2 + 1, none⟩ = some (.int .i64 y')) (exact ⟨(show Ext wr _ by (repeat (first | with_reducible exact Ext.refl _ | with_reducible assumption | ((with_reducible refine Ext.setCell ?_ ?_ _); rotate_left; focus (first | omega | (simp <;> omega))) | with_reducible refine Ext.alloc ?_ _ | with_reducible refine Ext.drewN ?_ _ | with_reducible refine Ext.drew ?_ | with_reducible refine Ext.trans ?_ (by with_reducible assumption)))).cell a0, (show Ext wr _ by (repeat (first | with_reducible exact Ext.refl _ | with_reducible assumption | ((with_reducible refine Ext.setCell ?_ ?_ _); rotate_left; focus (first | omega | (simp <;> omega))) | with_reducible refine Ext.alloc ?_ _ | with_reducible refine Ext.drewN ?_ _ | with_reducible refine Ext.drew ?_ | with_reducible refine Ext.trans ?_ (by with_reducible assumption)))).cell a1, (show Ext wr _ by (repeat (first | with_reducible exact Ext.refl _ | with_reducible assumption | ((with_reducible refine Ext.setCell ?_ ?_ _); rotate_left; focus (first | omega | (simp <;> omega))) | with_reducible refine Ext.alloc ?_ _ | with_reducible refine Ext.drewN ?_ _ | with_reducible refine Ext.drew ?_ | with_reducible refine Ext.trans ?_ (by with_reducible assumption)))).cell d0, (show Ext wr _ by (repeat (first | with_reducible exact Ext.refl _ | with_reducible assumption | ((with_reducible refine Ext.setCell ?_ ?_ _); rotate_left; focus (first | omega | (simp <;> omega))) | with_reducible refine Ext.alloc ?_ _ | with_reducible refine Ext.drewN ?_ _ | with_reducible refine Ext.drew ?_ | with_reducible refine Ext.trans ?_ (by with_reducible assumption)))).cell d1⟩) (first | (go_at_call 28; refine (eqPebbleMove_same x' y' _).mono ?_; rintro e w1 ⟨rfl, he1⟩; have ew1 : Ext wr w1 := (by (repeat (first | with_reducible exact Ext.refl _ | with_reducible assumption | ((with_reducible refine Ext.setCell ?_ ?_ _); rotate_left; focus (first | omega | (simp <;> omega))) | with_reducible refine Ext.alloc ?_ _ | with_reducible refine Ext.drewN ?_ _ | with_reducible refine Ext.drew ?_ | with_reducible refine Ext.trans ?_ (by with_reducible assumption))))))
    have hEH := hide (he.trans ew1)
    clear he
    go_wp2
    exact ⟨⟨(by (repeat (first | exact trivial | refine ⟨rfl, ?_⟩))), hEH.out, i + 1, by omega, by go_num⟩, (by simp [intOf] <;> omega)⟩
  · obtain rfl : i = n := by omega
    go_wp2
    go_ret
    exact ⟨rfl, by (repeat (first | with_reducible exact Ext.refl _ | with_reducible assumption | ((with_reducible refine Ext.setCell ?_ ?_ _); rotate_left; focus (first | omega | (simp <;> omega))) | with_reducible refine Ext.alloc ?_ _ | with_reducible refine Ext.drewN ?_ _ | with_reducible refine Ext.drew ?_ | with_reducible refine Ext.trans ?_ (by with_reducible assumption)))⟩
theorem toPebbleMove_c (a b : Int) (w : World) :
    Calls Try.prog 22 #[.agg #[.int .i64 a, .int .i64 b]] w fun e w' => e = .returned (.agg #[.int .i64 a, .int .i64 b]) ∧ Ext w w' := by
  go_enter Try.func22, Try.ntmps22
  go_wp2
  refine bodyPost_ret (v := .agg #[.int .i64 a, .int .i64 b]) (by simp [results, Try.results22, go_sem, *]) rfl ⟨rfl, by (repeat (first | with_reducible exact Ext.refl _ | with_reducible assumption | ((with_reducible refine Ext.setCell ?_ ?_ _); rotate_left; focus (first | omega | (simp <;> omega))) | with_reducible refine Ext.alloc ?_ _ | with_reducible refine Ext.drewN ?_ _ | with_reducible refine Ext.drew ?_ | with_reducible refine Ext.trans ?_ (by with_reducible assumption)))⟩
set_option maxHeartbeats 800000 in
theorem toPebbleMoveS_o (A : Option Addr) (n c : Nat) (xs : List Int) (w : World) (h : FlatA 2 w A n xs) (hn : n ≤ 1048576) :
    Calls Try.prog 8 #[.slice A n c] w fun e w' => ∃ A' c', e = .returned (.slice A' n c') ∧ ObF 49 2 w' w.heap.size w'.heap.size A' n c' xs ∧ Ext w w' := by
  have hmk := fun W => makeS_eq (P := Try.prog) 33 49 Try.underlying33 _ _ _ info_move n (by omega) (by omega) W
  have hlen := h.len
  have HL := hide hlen
  clear hlen
  go_enter Try.func8, Try.ntmps8
  go_wp2
  clear hmk
  refine wp_loopF 23 _ rfl rfl [0, 3, 22] rfl (fun fr wr => Ext w wr ∧ ∃ i : Nat, i ≤ n ∧ (fr 4) = .int .i64 (i : Int) ∧ ∃ ys : List Int, Own wr w.heap.size 49 2 (some ⟨w.heap.size, 0, none⟩) n n (ys.map (Value.int .i64)) ∧ Hid (ys.length = n * 2 ∧ ys.take (i * 2) = xs.take (i * 2))) (fun fr wr => n - (intOf (fr 4)).toNat) ?_ ?_
  · (exact ⟨(Ext.refl _).alloc _, 0, Nat.zero_le _, rfl, List.replicate (n * 2) 0, Own.arr _ n _ (Nat.le_refl _) (by simp only [maxLen]; omega) (by simp) (by first | (rw [toList_made2]; simp) | (show (madeCells #[.int .i64 0, .int .i64 0] (n * 2)).toList = _; rw [toList_made2]; simp)), by simp [Hid]⟩)
  intro ks fr wr hkept hrel; (try dsimp only at hrel)
  change Code.wp _ _ _ ⟨#[ks 0, fr 1, fr 2, ks 3, fr 4, fr 5, fr 6, fr 7, fr 8, fr 9, fr 10, fr 11, fr 12, fr 13, fr 14, fr 15, fr 16, fr 17, fr 18, fr 19, fr 20, fr 21, ks 22], []⟩ wr
  simp only [KeptV, List.getD_cons_zero, List.getD_cons_succ] at hkept; obtain ⟨hk0, hk3, hk22, -⟩ := hkept
  generalize ks 0 = k0 at hk0 ⊢; subst hk0
  generalize ks 3 = k3 at hk3 ⊢; subst hk3
  generalize ks 22 = k22 at hk22 ⊢; subst hk22
  generalize fr 4 = s4 at hrel ⊢
  obtain ⟨he, i, hi, hs1, ys, ho, hq⟩ := hrel
  subst hs1
  by_cases hlt : i < n
  · obtain ⟨ad, x, y, rfl, hx, c0, c1⟩ := (h.ext he).cell2 hlt
    have hl1 : Hid (ys.length = n * 2) := hide hq.out.1
    obtain ⟨u0, _, d0, f0⟩ := ho.int_atS (q := i * 2) (by omega)
    obtain ⟨u1, _, d1, f1⟩ := ho.int_atS (q := i * 2 + 1) (by omega)
    go_wp2_with fail
    refine (toPebbleMove_c x y _).mono ?_
    rintro e w1 ⟨rfl, he1⟩
    have hlw := he.size
    have e0 := he1.cell d0
    have e1 := he1.cell d1
    have k0 := he1.frozen (World.block_lt_of_cell? _ _ d0) f0
    have k1 := he1.frozen (World.block_lt_of_cell? _ _ d1) f1
    go_wp2_with fail
    have ho1 := ((ho.ext he1).store (i * 2) (.int .i64 x)).store (i * 2 + 1) (.int .i64 y)
    rw [set_map_int, set_map_int] at ho1
    refine ⟨⟨(by (repeat (first | exact trivial | refine ⟨rfl, ?_⟩))), ((he.trans he1).setCell (by simp) _).setCell (by simp) _, i + 1, by omega, by go_num, _, ho1, ?_⟩, (by simp [intOf] <;> omega)⟩
    refine hide ⟨by simpa using hl1.out, ?_⟩
    rw [show (i + 1) * 2 = i * 2 + 2 by omega, take_set2 _ _ _ _ (by rw [hl1.out]; omega), take_two hx, hq.out.2]
  · obtain rfl : i = n := by omega
    go_wp2
    go_ret
    have hyx : ys = xs := take_eq_all (hide hq.out.2) (by rw [hq.out.1]; exact Nat.le_refl _) (by rw [HL.out]; exact Nat.le_refl _)
    subst hyx
    exact ⟨_, _, rfl, ObF.of ho (by omega), he⟩
end Go.Proofs.Ytialpmmdomhobaa
