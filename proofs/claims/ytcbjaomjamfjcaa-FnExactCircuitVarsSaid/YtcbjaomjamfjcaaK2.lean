/-
  The laws' helpers over []Gate: the size, the copy, the marks.
-/
import Derived.Test.YtcbjaomjamfjcaaK1
namespace Go.Proofs.Ytcbjaomjamfjcaa
set_option linter.unusedSimpArgs false
set_option linter.unusedVariables false
open Go.RowKit

theorem touch_setF (w : World) {lo hi : Nat} {p : Addr} (u : Value) (h : lo ≤ p.block ∧ p.block < hi) : Touch lo hi w (w.setCell p u) :=
  ⟨rfl, rfl, rfl, by simp [World.setCell], fun k _ hk => Below.heap_setCell _ _ _ _ (fun e => by subst e; omega)⟩
theorem addr_add_add (a : Addr) (i j : Nat) : (a.add i).add j = a.add (i + j) := by
  unfold Addr.add
  by_cases hi : i = 0
  · subst hi; simp
  · by_cases hj : j = 0
    · subst hj; simp [hi]
    · simp [hi, hj]; omega
theorem Own.int_atS {w : World} {base : Nat} {e : TypeId} {sz g n c : Nat} {xs : List Int} (h : Own w base e sz (some ⟨g, 0, none⟩) n c (xs.map (Value.int .i64))) {q : Nat} (hq : q < n * sz) :
    ∃ x, Hid (xs[q]? = some x) ∧ w.cell? ⟨g, q, none⟩ = some (.int .i64 x) ∧ w.frozen? ⟨g, q, none⟩ = false := by
  have hl : xs.length = n * sz := by have := h.len; simpa using this
  exact ⟨_, List.getElem?_eq_getElem (by omega), h.cell (get_map_int (List.getElem?_eq_getElem (by omega))), h.frozen q⟩
/-- An argument: n elements of sz ints each, at whatever address, read as one list. -/
structure FlatA (sz : Nat) (w : World) (A : Option Addr) (n : Nat) (ys : List Int) : Prop where
  len : ys.length = n * sz
  bound : n ≤ 9223372036854775807
  reads : Reads w A (ys.map (Value.int .i64))
theorem FlatA.ext {sz : Nat} {w w' : World} {A : Option Addr} {n : Nat} {ys : List Int} (h : FlatA sz w A n ys) (he : Ext w w') : FlatA sz w' A n ys := ⟨h.len, h.bound, h.reads.ext he⟩
theorem FlatA.cell3 {w : World} {A : Option Addr} {n : Nat} {ys : List Int} (h : FlatA 3 w A n ys) {i : Nat} (hi : i < n) :
    ∃ ad x y z, A = some ad ∧ Hid (ys[i * 3]? = some x ∧ ys[i * 3 + 1]? = some y ∧ ys[i * 3 + 2]? = some z) ∧ w.cell? (ad.add (i * 3)) = some (.int .i64 x) ∧ w.cell? ⟨(ad.add (i * 3)).block, (ad.add (i * 3)).off + 1, none⟩ = some (.int .i64 y) ∧ w.cell? ⟨(ad.add (i * 3)).block, (ad.add (i * 3)).off + 2, none⟩ = some (.int .i64 z) := by
  have hl := h.len
  have h0 := List.getElem?_eq_getElem (show i * 3 < ys.length by omega)
  have h1 := List.getElem?_eq_getElem (show i * 3 + 1 < ys.length by omega)
  have h2 := List.getElem?_eq_getElem (show i * 3 + 2 < ys.length by omega)
  obtain ⟨ad, e, hc⟩ := h.reads (by intro hh; have := congrArg List.length hh; simp at this; subst this; simp at hl; omega)
  refine ⟨ad, _, _, _, e, ⟨h0, h1, h2⟩, hc _ _ (get_map_int h0), ?_, ?_⟩
  · show w.cell? ((ad.add (i * 3)).add 1) = _; rw [addr_add_add]; exact hc _ _ (get_map_int h1)
  · show w.cell? ((ad.add (i * 3)).add 2) = _; rw [addr_add_add]; exact hc _ _ (get_map_int h2)
theorem FlatA.fold {sz : Nat} {w : World} {A : Option Addr} {n : Nat} {ys : List Int} (h : FlatA sz w A n ys) (hn : n ≤ 1099511627776) (g : Nat) (hA : A = some ⟨g, 0, none⟩) : Flat sz w A n ys :=
  ⟨h.len, hn, fun h0 => ⟨g, hA, fun j u hu => by
    obtain ⟨ad, e, hc⟩ := h.reads (by intro hh; have := congrArg List.length hh; simp at this; subst this; simp at hu)
    rw [hA] at e
    injection e with e
    have := hc j _ (get_map_int hu)
    rw [← e] at this
    have hadd : (⟨g, 0, none⟩ : Addr).add j = ⟨g, j, none⟩ := by unfold Addr.add; split <;> simp_all
    rwa [hadd] at this⟩⟩
theorem toList_made3 (z : Value) (m : Nat) : (madeCells #[z, z, z] m).toList = List.replicate m z := by
  apply List.ext_getElem
  · simp [madeCells]
  · intro i h1 h2
    simp only [madeCells, Array.toList_map, List.getElem_map, List.getElem_replicate]
    have hlt : (Array.range m).toList[i]'(by simpa [madeCells] using h1) % 3 < 3 := Nat.mod_lt _ (by omega)
    generalize (Array.range m).toList[i]'(by simpa [madeCells] using h1) % 3 = r at hlt
    have : r = 0 ∨ r = 1 ∨ r = 2 := by omega
    show #[z, z, z][r]! = z
    rcases this with rfl | rfl | rfl <;> rfl
theorem toList_made2 (z : Value) (m : Nat) : (madeCells #[z, z] m).toList = List.replicate m z := by
  apply List.ext_getElem
  · simp [madeCells]
  · intro i h1 h2
    simp only [madeCells, Array.toList_map, List.getElem_map, List.getElem_replicate]
    have hlt : (Array.range m).toList[i]'(by simpa [madeCells] using h1) % 2 < 2 := Nat.mod_lt _ (by omega)
    generalize (Array.range m).toList[i]'(by simpa [madeCells] using h1) % 2 = r at hlt
    have : r = 0 ∨ r = 1 := by omega
    show #[z, z][r]! = z
    rcases this with rfl | rfl <;> rfl
section
variable {P : Program}
/-- make of structs: as the run spells it. -/
theorem makeS_eq (t e : TypeId) (ht : P.underlying t = some (.slice e)) (z : Value) (sz bytes : Nat) (hinfo : (P.info? e).map (fun i => (i.zero, i.size, i.bytes)) = some (some z, sz, bytes))
    (n : Nat) (h63 : n ≤ 140737488355328) (hb : bytes * n ≤ 281474976710656) (w : World) :
    (Instr.makeSlice t (.int .i64 (n : Int)) (.int .i64 (n : Int))).run P w = .ok (.slice (some ⟨w.heap.size, 0, none⟩) n n) (w.alloc (.cells (madeCells z.cells (n * sz)) e)) := by
  obtain ⟨i, hi, hz, hsize, hby⟩ := info_parts hinfo
  have hb' : (i.bytes : Int) * (n : Int) ≤ 281474976710656 := by
    have h : ((i.bytes * n : Nat) : Int) ≤ 281474976710656 := by rw [hby]; omega
    rwa [Int.natCast_mul] at h
  have hr := run_make (P := P) w t e i z ht hi hz .i64 .i64 n n (by omega) (by omega) hb' (by omega)
  simp only [Int.toNat_natCast, hsize] at hr
  exact hr
end
theorem take_set3 {α} (ys : List α) (p : Nat) (x y z : α) (h : p + 2 < ys.length) : (((ys.set p x).set (p + 1) y).set (p + 2) z).take (p + 3) = ys.take p ++ [x, y, z] := by
  rw [take_set_succ _ _ _ (by simpa using h), take_set_succ _ _ _ (by simp; omega), take_set_succ _ _ _ (by omega)]
  simp
theorem take_three {α} {xs : List α} {p : Nat} {x y z : α} (h : Hid (xs[p]? = some x ∧ xs[p + 1]? = some y ∧ xs[p + 2]? = some z)) : xs.take (p + 3) = xs.take p ++ [x, y, z] := by
  obtain ⟨h0, h1, h2⟩ := h.out
  rw [take_succ_of (i := p + 2) (hide h2), take_succ_of (i := p + 1) (hide h1), take_succ_of (hide h0)]
  simp

theorem szGateS_fit (A : Option Addr) (n c : Nat) (left : Int) (w : World) (hn : n ≤ 9223372036854775807) (hl : 0 ≤ left ∧ left ≤ 1048576) (h : (n : Int) ≤ left) :
    Calls Try.prog 15 #[.slice A n c, .int .i64 left] w fun e w' => e = .returned (.int .i64 (left - n)) ∧ Ext w w' := by
  go_enter Try.func15, Try.ntmps15
  go_wp2
  go_ret; exact ⟨rfl, by (repeat (first | with_reducible exact Ext.refl _ | with_reducible assumption | ((with_reducible refine Ext.setCell ?_ ?_ _); rotate_left; focus (first | omega | (simp <;> omega))) | with_reducible refine Ext.alloc ?_ _ | with_reducible refine Ext.drewN ?_ _ | with_reducible refine Ext.drew ?_ | with_reducible refine Ext.trans ?_ (by with_reducible assumption)))⟩
theorem szGateS_no (A : Option Addr) (n c : Nat) (left : Int) (w : World) (hn : n ≤ 9223372036854775807) (hl : 0 ≤ left ∧ left ≤ 1048576) (h : left < n) :
    Calls Try.prog 15 #[.slice A n c, .int .i64 left] w fun e w' => e = .returned (.int .i64 (-1)) ∧ Ext w w' := by
  go_enter Try.func15, Try.ntmps15
  go_wp2
  go_ret; exact ⟨rfl, by (repeat (first | with_reducible exact Ext.refl _ | with_reducible assumption | ((with_reducible refine Ext.setCell ?_ ?_ _); rotate_left; focus (first | omega | (simp <;> omega))) | with_reducible refine Ext.alloc ?_ _ | with_reducible refine Ext.drewN ?_ _ | with_reducible refine Ext.drew ?_ | with_reducible refine Ext.trans ?_ (by with_reducible assumption)))⟩
theorem toGate_c (a b c : Int) (w : World) :
    Calls Try.prog 68 #[.agg #[.int .i64 a, .int .i64 b, .int .i64 c]] w fun e w' => e = .returned (.agg #[.int .i64 a, .int .i64 b, .int .i64 c]) ∧ Ext w w' := by
  go_enter Try.func68, Try.ntmps68
  go_wp2
  refine bodyPost_ret (v := .agg #[.int .i64 a, .int .i64 b, .int .i64 c]) (by simp [results, Try.results68, go_sem, *]) rfl ⟨rfl, by (repeat (first | with_reducible exact Ext.refl _ | with_reducible assumption | ((with_reducible refine Ext.setCell ?_ ?_ _); rotate_left; focus (first | omega | (simp <;> omega))) | with_reducible refine Ext.alloc ?_ _ | with_reducible refine Ext.drewN ?_ _ | with_reducible refine Ext.drew ?_ | with_reducible refine Ext.trans ?_ (by with_reducible assumption)))⟩
set_option maxHeartbeats 800000 in
theorem toGateS_o (A : Option Addr) (n c : Nat) (xs : List Int) (w : World) (h : FlatA 3 w A n xs) (hn : n ≤ 1048576) :
    Calls Try.prog 17 #[.slice A n c] w fun e w' => ∃ A' c', e = .returned (.slice A' n c') ∧ ObF 86 3 w' w.heap.size w'.heap.size A' n c' xs ∧ Ext w w' := by
  have hmk := fun W => makeS_eq (P := Try.prog) 24 86 Try.underlying24 _ _ _ info_gate n (by omega) (by omega) W
  have hlen := h.len
  have HL := hide hlen
  clear hlen
  go_enter Try.func17, Try.ntmps17
  go_wp2
  clear hmk
  refine wp_loopF 23 _ rfl rfl [0, 3, 22] rfl (fun fr wr => Ext w wr ∧ ∃ i : Nat, i ≤ n ∧ (fr 4) = .int .i64 (i : Int) ∧ ∃ ys : List Int, Own wr w.heap.size 86 3 (some ⟨w.heap.size, 0, none⟩) n n (ys.map (Value.int .i64)) ∧ Hid (ys.length = n * 3 ∧ ys.take (i * 3) = xs.take (i * 3))) (fun fr wr => n - (intOf (fr 4)).toNat) ?_ ?_
  · (exact ⟨(Ext.refl _).alloc _, 0, Nat.zero_le _, rfl, List.replicate (n * 3) 0, Own.arr _ n _ (Nat.le_refl _) (by simp only [maxLen]; omega) (by simp) (by first | (rw [toList_made3]; simp) | (show (madeCells #[.int .i64 0, .int .i64 0, .int .i64 0] (n * 3)).toList = _; rw [toList_made3]; simp)), by simp [Hid]⟩)
  intro ks fr wr hkept hrel; (try dsimp only at hrel)
  change Code.wp _ _ _ ⟨#[ks 0, fr 1, fr 2, ks 3, fr 4, fr 5, fr 6, fr 7, fr 8, fr 9, fr 10, fr 11, fr 12, fr 13, fr 14, fr 15, fr 16, fr 17, fr 18, fr 19, fr 20, fr 21, ks 22], []⟩ wr
  simp only [KeptV, List.getD_cons_zero, List.getD_cons_succ] at hkept; obtain ⟨hk0, hk3, hk22, -⟩ := hkept
  generalize ks 0 = k0 at hk0 ⊢; subst hk0
  generalize ks 3 = k3 at hk3 ⊢; subst hk3
  generalize ks 22 = k22 at hk22 ⊢; subst hk22
  generalize fr 4 = s4 at hrel ⊢
  obtain ⟨he, i, hi, hs1, ys, ho, hq⟩ := hrel
  subst hs1
  by_cases hlt : i < n
  · obtain ⟨ad, x, y, z, rfl, hx, c0, c1, c2⟩ := (h.ext he).cell3 hlt
    obtain ⟨u0, _, d0, f0⟩ := ho.int_atS (q := i * 3) (by omega)
    obtain ⟨u1, _, d1, f1⟩ := ho.int_atS (q := i * 3 + 1) (by omega)
    obtain ⟨u2, _, d2, f2⟩ := ho.int_atS (q := i * 3 + 2) (by omega)
    have hl1 : Hid (ys.length = n * 3) := hide hq.out.1
    go_wp2_with fail
    refine (toGate_c x y z _).mono ?_
    rintro e w1 ⟨rfl, he1⟩
    have hlw := he.size
    have e0 := he1.cell d0
    have e1 := he1.cell d1
    have e2 := he1.cell d2
    have k0 := he1.frozen (World.block_lt_of_cell? _ _ d0) f0
    have k1 := he1.frozen (World.block_lt_of_cell? _ _ d1) f1
    have k2 := he1.frozen (World.block_lt_of_cell? _ _ d2) f2
    go_wp2_with fail
    have ho1 := (((ho.ext he1).store (i * 3) (.int .i64 x)).store (i * 3 + 1) (.int .i64 y)).store (i * 3 + 2) (.int .i64 z)
    rw [set_map_int, set_map_int, set_map_int] at ho1
    refine ⟨⟨(by (repeat (first | exact trivial | refine ⟨rfl, ?_⟩))), (((he.trans he1).setCell (by simp) _).setCell (by simp) _).setCell (by simp) _, i + 1, by omega, by go_num, _, ho1, ?_⟩, (by simp [intOf] <;> omega)⟩
    refine hide ⟨by simpa using hl1.out, ?_⟩
    rw [show (i + 1) * 3 = i * 3 + 3 by omega, take_set3 _ _ _ _ _ (by rw [hl1.out]; omega), take_three hx, hq.out.2]
  · obtain rfl : i = n := by omega
    go_wp2
    go_ret
    have hyx : ys = xs := take_eq_all (hide hq.out.2) (by rw [hq.out.1]; exact Nat.le_refl _) (by rw [HL.out]; exact Nat.le_refl _)
    subst hyx
    exact ⟨_, _, rfl, ObF.of ho (by omega), he⟩
set_option maxRecDepth 100000 in
set_option maxHeartbeats 1600000 in
theorem markGateS_o (A : Option Addr) (n c lo hi : Nat) (k : Int) (ys : List Int) (w : World) (h : ObF 86 3 w lo hi A n c ys) (hk : 0 ≤ k ∧ k ≤ 70368744177664) :
    Calls Try.prog 20 #[.slice A n c, .int .i64 k] w fun e w' => e = .returned (.int .i64 (k + (n * 3 : Nat))) ∧ ObF 86 3 w' lo hi A n c (upFrom k (n * 3)) ∧ Touch lo hi w w' := by
  have hsm := h.small
  have hlen : ys.length = n * 3 := by have := h.own.len; simpa using this
  have hbl := h.below
  go_enter Try.func20, Try.ntmps20
  go_wp2_with fail
  refine wp_loopF 34 _ rfl rfl [0, 33] rfl (fun fr wr => ∃ (i : Nat) (zs : List Int), i ≤ n ∧ (fr 5) = .int .i64 i ∧ (fr 1) = .int .i64 (k + (i * 3 : Nat)) ∧ Own wr lo 86 3 A n c (zs.map (Value.int .i64)) ∧ Hid (zs.length = n * 3 ∧ zs.take (i * 3) = upFrom k (i * 3)) ∧ Touch lo hi w wr) (fun fr wr => n - (intOf (fr 5)).toNat) ?_ ?_
  · (exact ⟨0, ys, by omega, rfl, by simp, h.own, ⟨hlen, rfl⟩, Touch.refl _ _ _⟩)
  intro ks fr wr hkept hrel; (try dsimp only at hrel)
  change Code.wp _ _ _ ⟨#[ks 0, fr 1, fr 2, fr 3, fr 4, fr 5, fr 6, fr 7, fr 8, fr 9, fr 10, fr 11, fr 12, fr 13, fr 14, fr 15, fr 16, fr 17, fr 18, fr 19, fr 20, fr 21, fr 22, fr 23, fr 24, fr 25, fr 26, fr 27, fr 28, fr 29, fr 30, fr 31, fr 32, ks 33], []⟩ wr
  simp only [KeptV, List.getD_cons_zero, List.getD_cons_succ] at hkept; obtain ⟨hk0, hk33, -⟩ := hkept
  generalize ks 0 = k0 at hk0 ⊢; subst hk0
  generalize ks 33 = k33 at hk33 ⊢; subst hk33
  generalize fr 1 = s1 at hrel ⊢
  generalize fr 5 = s5 at hrel ⊢
  obtain ⟨i, zs, hi', hs1, hs2, ho, hz, ht⟩ := hrel
  subst hs1; subst hs2
  by_cases hlt : i < n
  · obtain ⟨g, rfl, hg1, hg2⟩ := h.own.form (by omega)
    have hg3 := hbl g rfl
    obtain ⟨u0, _, d0, f0⟩ := ho.int_atS (q := i * 3) (by omega)
    obtain ⟨u1, _, d1, f1⟩ := ho.int_atS (q := i * 3 + 1) (by omega)
    obtain ⟨u2, _, d2, f2⟩ := ho.int_atS (q := i * 3 + 2) (by omega)
    have hl1 : Hid (zs.length = n * 3) := hide hz.out.1
    have ho1 := ((ho.store (i * 3) (.int .i64 (k + (i : Int) * 3))).store (i * 3 + 1) (.int .i64 (k + (i : Int) * 3 + 1))).store (i * 3 + 2) (.int .i64 (k + (i : Int) * 3 + 1 + 1))
    rw [set_map_int, set_map_int, set_map_int] at ho1
    have ht1 := ((ht.trans (touch_setF _ (p := ⟨g, i * 3, none⟩) (.int .i64 (k + (i : Int) * 3)) ⟨hg1, hg3⟩)).trans (touch_setF _ (p := ⟨g, i * 3 + 1, none⟩) (.int .i64 (k + (i : Int) * 3 + 1)) ⟨hg1, hg3⟩)).trans (touch_setF _ (p := ⟨g, i * 3 + 2, none⟩) (.int .i64 (k + (i : Int) * 3 + 1 + 1)) ⟨hg1, hg3⟩)
    have hz2 : Hid ((((zs.set (i * 3) (k + (i : Int) * 3)).set (i * 3 + 1) (k + (i : Int) * 3 + 1)).set (i * 3 + 2) (k + (i : Int) * 3 + 1 + 1)).length = n * 3 ∧ (((zs.set (i * 3) (k + (i : Int) * 3)).set (i * 3 + 1) (k + (i : Int) * 3 + 1)).set (i * 3 + 2) (k + (i : Int) * 3 + 1 + 1)).take ((i + 1) * 3) = upFrom k ((i + 1) * 3)) := hide ⟨by simpa using hl1.out, by
      rw [show (i + 1) * 3 = i * 3 + 3 by omega, take_set3 _ _ _ _ _ (by rw [hl1.out]; omega), hz.out.2, upFrom_succ k (i * 3 + 2), upFrom_succ k (i * 3 + 1), upFrom_succ k (i * 3)]; simp; omega⟩
    have HO := hide ho1
    have HT := hide ht1
    clear ho ht ho1 ht1
    go_wp2_with fail
    exact ⟨⟨(by (repeat (first | exact trivial | refine ⟨rfl, ?_⟩))), i + 1, _, by omega, by go_num, by first | rfl | go_num, HO.out, hz2, HT.out⟩, (by simp [intOf] <;> omega)⟩
  · obtain rfl : i = n := by omega
    have hall : zs = upFrom k (i * 3) := by
      have h1 := hz.out.2
      rwa [List.take_of_length_le (by rw [hz.out.1]; exact Nat.le_refl _)] at h1
    subst hall
    have hoh := hide ho
    have hth := hide ht
    clear ho ht hz
    go_wp2
    go_ret
    exact ⟨rfl, ⟨hoh.out, hbl, hsm⟩, hth.out⟩
set_option maxRecDepth 100000 in
set_option maxHeartbeats 1600000 in
theorem heldGateS_o (A : Option Addr) (n c lo hi : Nat) (k : Int) (w : World) (h : ObF 86 3 w lo hi A n c (upFrom k (n * 3))) (hk : 0 ≤ k ∧ k ≤ 70368744177664) :
    Calls Try.prog 21 #[.slice A n c, .int .i64 k] w fun e w' => e = .returned (.int .i64 (k + (n * 3 : Nat))) ∧ Ext w w' := by
  have hsm := h.small
  have hT := h.flat
  go_enter Try.func21, Try.ntmps21
  go_wp2_with fail
  refine wp_loopF 40 _ rfl rfl [0, 39] rfl (fun fr wr => ∃ (i : Nat), i ≤ n ∧ (fr 5) = .int .i64 i ∧ (fr 1) = .int .i64 (k + (i * 3 : Nat)) ∧ Ext w wr) (fun fr wr => n - (intOf (fr 5)).toNat) ?_ ?_
  · (exact ⟨0, by omega, rfl, by simp, Ext.refl _⟩)
  intro ks fr wr hkept hrel; (try dsimp only at hrel)
  change Code.wp _ _ _ ⟨#[ks 0, fr 1, fr 2, fr 3, fr 4, fr 5, fr 6, fr 7, fr 8, fr 9, fr 10, fr 11, fr 12, fr 13, fr 14, fr 15, fr 16, fr 17, fr 18, fr 19, fr 20, fr 21, fr 22, fr 23, fr 24, fr 25, fr 26, fr 27, fr 28, fr 29, fr 30, fr 31, fr 32, fr 33, fr 34, fr 35, fr 36, fr 37, fr 38, ks 39], []⟩ wr
  simp only [KeptV, List.getD_cons_zero, List.getD_cons_succ] at hkept; obtain ⟨hk0, hk39, -⟩ := hkept
  generalize ks 0 = k0 at hk0 ⊢; subst hk0
  generalize ks 39 = k39 at hk39 ⊢; subst hk39
  generalize fr 1 = s1 at hrel ⊢
  generalize fr 5 = s5 at hrel ⊢
  obtain ⟨i, hi', hs1, hs2, he⟩ := hrel
  subst hs1; subst hs2
  by_cases hlt : i < n
  · obtain ⟨g, rfl, hc⟩ := hT.reads (by omega)
    have d0 := he.cell (hc (i * 3) (k + (i * 3 : Nat)) (upFrom_get (by omega)))
    have d1 := he.cell (hc (i * 3 + 1) (k + (i * 3 + 1 : Nat)) (upFrom_get (by omega)))
    have d2 := he.cell (hc (i * 3 + 2) (k + (i * 3 + 2 : Nat)) (upFrom_get (by omega)))
    rw [show k + (i * 3 + 1 : Nat) = k + (i * 3 : Nat) + 1 by omega] at d1
    rw [show k + (i * 3 + 2 : Nat) = k + (i * 3 : Nat) + 1 + 1 by omega] at d2
    clear hc
    have heh := hide he
    clear he
    go_wp2_with fail
    exact ⟨⟨(by (repeat (first | exact trivial | refine ⟨rfl, ?_⟩))), i + 1, by omega, by go_num, by first | rfl | (congr 1; omega) | (simp; omega), heh.out⟩, (by simp [intOf] <;> omega)⟩
  · obtain rfl : i = n := by omega
    have heh := hide he
    clear he
    go_wp2
    go_ret
    exact ⟨rfl, heh.out⟩
end Go.Proofs.Ytcbjaomjamfjcaa
