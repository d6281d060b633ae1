/-
  Folding: the program's fold of a gate; no condition.
-/
import Derived.Test.YtcbjaomjamfjcaaK21
namespace Go.Proofs.Ytcbjaomjamfjcaa
set_option linter.unusedSimpArgs false
set_option linter.unusedVariables false
open Go.RowKit

theorem foldAt_5 {gs : List Gt} {a b : Int} : foldAt gs (5, a, b) = (if sameG gs a b 3 2 < 0 then keepG gs (5, a, b) else (sameG gs a b 3 2, gs)) := by simp [foldAt]
theorem foldAt_6 {gs : List Gt} {a b : Int} : foldAt gs (6, a, b) = (if sameG gs a b 2 3 < 0 then keepG gs (6, a, b) else (sameG gs a b 2 3, gs)) := by simp [foldAt]
theorem foldAt_no {gs : List Gt} {k a b : Int} (h4 : k ≠ 4) (h5 : k ≠ 5) (h6 : k ≠ 6) : foldAt gs (k, a, b) = keepG gs (k, a, b) := by simp [foldAt, h4, h5, h6]
set_option maxRecDepth 100000 in
set_option maxHeartbeats 3200000 in
theorem fold_o (X base : Nat) (A : Option Addr) (n c : Nat) (kd a b : Int) (gs : List Gt) (w : World) (h : Folder w X base A n c gs) (hn : n ≤ 200) (hbase : base ≤ w.heap.size) (hfit : FitG gs (kd, a, b)) :
    Calls Try.prog 134 #[.pointer (some ⟨X, 0, none⟩), .agg #[.int .i64 kd, .int .i64 a, .int .i64 b]] w fun e w' =>
      e = .returned (.int .i64 (foldAt gs (kd, a, b)).1) ∧ Folded w w' X base A n c (foldAt gs (kd, a, b)).2 := by
  have HK := hide (fun x y z W (E : Ext w W) => keep_o X base A n c x y z gs W (h.ext E) hn (Nat.le_trans hbase E.size))
  have HF := hide h
  by_cases h5 : kd = 5
  · subst h5
    have HP := hide (fun W (E : Ext w W) => pair_o X base A n c 5 a b 3 2 gs W (h.ext E) hn (Nat.le_trans hbase E.size) (hfit.2.1 a (by simp [insG])) (hfit.2.1 b (by simp [insG])))
    have hq : Hid ((foldAt gs (5, a, b)).1 = (if sameG gs a b 3 2 < 0 then (keepG gs (5, a, b)).1 else sameG gs a b 3 2) ∧ (foldAt gs (5, a, b)).2 = (if sameG gs a b 3 2 < 0 then (keepG gs (5, a, b)).2 else gs)) := hide (by rw [foldAt_5]; split <;> exact ⟨rfl, rfl⟩)
    rw [← hq.out.1, ← hq.out.2] at HP
    generalize foldAt gs (5, a, b) = F at *
    clear hfit h HK
    go_enter Try.func134, Try.ntmps134
    go_wp2_with fail
    (with_reducible refine (HP.out _ (by (repeat (first | with_reducible exact Ext.refl _ | with_reducible assumption | ((with_reducible refine Ext.setCell ?_ ?_ _); rotate_left; focus (first | omega | (simp <;> omega))) | with_reducible refine Ext.alloc ?_ _ | with_reducible refine Ext.drewN ?_ _ | with_reducible refine Ext.drew ?_ | with_reducible refine Ext.trans ?_ (by with_reducible assumption))))).mono ?_)
    rintro e w3 ⟨rfl, hF⟩
    have HFF := hide (Folded.after ((Ext.refl w).alloc _) hF)
    clear hF
    go_wp2_with fail
    go_ret
    exact ⟨rfl, HFF.out⟩
  by_cases h6 : kd = 6
  · subst h6
    have HP := hide (fun W (E : Ext w W) => pair_o X base A n c 6 a b 2 3 gs W (h.ext E) hn (Nat.le_trans hbase E.size) (hfit.2.1 a (by simp [insG])) (hfit.2.1 b (by simp [insG])))
    have hq : Hid ((foldAt gs (6, a, b)).1 = (if sameG gs a b 2 3 < 0 then (keepG gs (6, a, b)).1 else sameG gs a b 2 3) ∧ (foldAt gs (6, a, b)).2 = (if sameG gs a b 2 3 < 0 then (keepG gs (6, a, b)).2 else gs)) := hide (by rw [foldAt_6]; split <;> exact ⟨rfl, rfl⟩)
    rw [← hq.out.1, ← hq.out.2] at HP
    generalize foldAt gs (6, a, b) = F at *
    clear hfit h HK h5
    go_enter Try.func134, Try.ntmps134
    go_wp2_with fail
    (with_reducible refine (HP.out _ (by (repeat (first | with_reducible exact Ext.refl _ | with_reducible assumption | ((with_reducible refine Ext.setCell ?_ ?_ _); rotate_left; focus (first | omega | (simp <;> omega))) | with_reducible refine Ext.alloc ?_ _ | with_reducible refine Ext.drewN ?_ _ | with_reducible refine Ext.drew ?_ | with_reducible refine Ext.trans ?_ (by with_reducible assumption))))).mono ?_)
    rintro e w3 ⟨rfl, hF⟩
    have HFF := hide (Folded.after ((Ext.refl w).alloc _) hF)
    clear hF
    go_wp2_with fail
    go_ret
    exact ⟨rfl, HFF.out⟩
  have h5' : (kd == 5) = false := by simpa using h5
  have h6' : (kd == 6) = false := by simpa using h6
  by_cases h4 : kd = 4
  rotate_left
  · have h4' : (kd == 4) = false := by simpa using h4
    have hq := hide (foldAt_no (gs := gs) (a := a) (b := b) h4 h5 h6)
    rw [hq.out]
    clear hfit h hq
    go_enter Try.func134, Try.ntmps134
    go_wp2_with fail
    (with_reducible refine (HK.out _ _ _ _ (by (repeat (first | with_reducible exact Ext.refl _ | with_reducible assumption | ((with_reducible refine Ext.setCell ?_ ?_ _); rotate_left; focus (first | omega | (simp <;> omega))) | with_reducible refine Ext.alloc ?_ _ | with_reducible refine Ext.drewN ?_ _ | with_reducible refine Ext.drew ?_ | with_reducible refine Ext.trans ?_ (by with_reducible assumption))))).mono ?_)
    rintro e w3 ⟨rfl, hF⟩
    have HFF := hide (Folded.after ((Ext.refl w).alloc _) hF)
    clear hF
    go_wp2_with fail
    go_ret
    exact ⟨rfl, HFF.out⟩
  subst h4
  obtain ⟨W1, hW1⟩ : ∃ W1, W1 = w.alloc (.cells #[.int .i64 4, .int .i64 a, .int .i64 b] 86) := ⟨_, rfl⟩
  have eW : Ext w W1 := by rw [hW1]; exact (Ext.refl _).alloc _
  have hbx : BoxAt W1 w.heap.size 86 #[.int .i64 4, .int .i64 a, .int .i64 b] := by rw [hW1]; exact BoxAt.made w _ _
  have ha := hfit.2.1 a (by simp [insG])
  obtain ⟨i, rfl⟩ := int_nat ha.1
  have hl := h.len
  have k0 : W1.cell? ⟨w.heap.size, 0, none⟩ = some (.int .i64 4) := hbx.cell 0 _ rfl
  have k1' : W1.cell? ⟨w.heap.size, 1, none⟩ = some (.int .i64 (i : Int)) := hbx.cell 1 _ rfl
  have k2' : W1.cell? ⟨w.heap.size, 2, none⟩ = some (.int .i64 b) := hbx.cell 2 _ rfl
  have k3 : W1.cell? ⟨X, 0, none⟩ = some (.slice A n c) := eW.cell (h.box.cell 0 _ rfl)
  obtain ⟨g, k1, a1, b1, rfl, hx, c0, c1, c2⟩ := (h.gates hn).at_ (i := i) (by omega)
  have d0 := eW.cell c0
  have d1 := eW.cell c1
  have d2 := eW.cell c2
  have hi : i < n := by omega
  have hz : w.heap.size + 1 = W1.heap.size := by rw [hW1]; simp
  have eZ : Ext W1 (W1.alloc (.cells #[.int .i64 0, .int .i64 0, .int .i64 0] 86)) := (Ext.refl W1).alloc _
  have z1 := eZ.cell k1'
  have z3 := eZ.cell k3
  have z4 := eZ.cell d0
  have z5 := eZ.cell d1
  have z6 := eZ.cell d2
  have eY : Ext W1 (W1.alloc (.cells #[.int .i64 k1, .int .i64 a1, .int .i64 b1] 86)) := (Ext.refl W1).alloc _
  have y0 := eY.cell k0
  have y1 := eY.cell k1'
  have y2 := eY.cell k2'
  have hgd : gs.getD i g0 = (k1, a1, b1) := by rw [List.getD_eq_getElem?_getD, hx.out]; rfl
  by_cases r2 : k1 = 2
  · subst r2
    have hq : Hid (foldAt gs (4, (i : Int), b) = keepG gs (3, 0, 0)) := hide (by simp only [foldAt, Int.toNat_natCast, hgd]; simp)
    rw [hq.out]
    clear hgd hfit h hx hl ha hq
    go_enter Try.func134, Try.ntmps134
    go_wp2_with fail
    rw [← hW1]
    clear hW1
    go_region
    go_wp2_with fail
    (with_reducible refine (HK.out _ _ _ _ (eW.trans eY.drew)).mono ?_)
    rintro e w3 ⟨rfl, hF⟩
    have HFF := hide (Folded.after (eW.trans eY.drew) hF)
    clear hF
    go_wp2_with fail
    go_ret
    exact ⟨rfl, HFF.out⟩
  have r2' : (k1 == 2) = false := by simpa using r2
  by_cases r3 : k1 = 3
  · subst r3
    have hq : Hid (foldAt gs (4, (i : Int), b) = keepG gs (2, 0, 0)) := hide (by simp only [foldAt, Int.toNat_natCast, hgd]; simp)
    rw [hq.out]
    clear hgd hfit h hx hl ha hq
    go_enter Try.func134, Try.ntmps134
    go_wp2_with fail
    rw [← hW1]
    clear hW1
    go_region
    go_wp2_with fail
    (with_reducible refine (HK.out _ _ _ _ (eW.trans eY.drew)).mono ?_)
    rintro e w3 ⟨rfl, hF⟩
    have HFF := hide (Folded.after (eW.trans eY.drew) hF)
    clear hF
    go_wp2_with fail
    go_ret
    exact ⟨rfl, HFF.out⟩
  have r3' : (k1 == 3) = false := by simpa using r3
  by_cases r4 : k1 = 4
  · subst r4
    have hq : Hid (foldAt gs (4, (i : Int), b) = (a1, gs)) := hide (by simp only [foldAt, Int.toNat_natCast, hgd]; simp)
    rw [hq.out]
    clear hgd hfit h hx hl ha hq
    go_enter Try.func134, Try.ntmps134
    go_wp2_with fail
    rw [← hW1]
    clear hW1
    go_region
    go_wp2_with fail
    go_ret
    exact ⟨rfl, Folded.same HF.out (eW.trans eY.drew)⟩
  · have r4' : (k1 == 4) = false := by simpa using r4
    have hq : Hid (foldAt gs (4, (i : Int), b) = keepG gs (4, (i : Int), b)) := hide (by simp only [foldAt, Int.toNat_natCast, hgd]; simp [r2, r3, r4])
    rw [hq.out]
    clear hgd hfit h hx hl ha hq
    go_enter Try.func134, Try.ntmps134
    go_wp2_with fail
    rw [← hW1]
    clear hW1
    go_region
    go_wp2_with fail
    (with_reducible refine (HK.out _ _ _ _ (eW.trans eY.drew)).mono ?_)
    rintro e w3 ⟨rfl, hF⟩
    have HFF := hide (Folded.after (eW.trans eY.drew) hF)
    clear hF
    go_wp2_with fail
    go_ret
    exact ⟨rfl, HFF.out⟩
end Go.Proofs.Ytcbjaomjamfjcaa
