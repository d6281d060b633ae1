/-
  The gates' inputs; the reference's needed gates.
-/
import Derived.Test.YtcbjaomjamfjcaaK6
import Derived.Test.YtcbjaomjamfjcaaC14
namespace Go.Proofs.Ytcbjaomjamfjcaa
set_option linter.unusedSimpArgs false
set_option linter.unusedVariables false
open Go.RowKit

theorem insG_4 (a b : Int) : insG (4, a, b) = [a] := by simp [insG]
theorem insG_5 (a b : Int) : insG (5, a, b) = [a, b] := by simp [insG]
theorem insG_6 (a b : Int) : insG (6, a, b) = [a, b] := by simp [insG]
theorem insG_no (k a b : Int) (h4 : k ≠ 4) (h5 : k ≠ 5) (h6 : k ≠ 6) : insG (k, a, b) = [] := by simp [insG, h4, h5, h6]
theorem insG_le (g : Gt) : (insG g).length ≤ 2 := by unfold insG; split; · simp
                                                     · split <;> simp
/-- A slice of ints of the call's own, that reads as xs. -/
def OwnI (w : World) (base : Nat) (v : Value) (xs : List Int) : Prop := ∃ A n c, v = .slice A n c ∧ Hid (xs.length = n) ∧ Own w base 3 1 A n c (xs.map (Value.int .i64))
theorem OwnI.mk {w : World} {base : Nat} {A : Option Addr} {n c : Nat} {xs : List Int} (h : Own w base 3 1 A n c (xs.map (Value.int .i64))) : OwnI w base (.slice A n c) xs :=
  ⟨A, n, c, rfl, by have := h.len; simp at this; exact this, h⟩
set_option maxHeartbeats 800000 in
theorem l6Inputs_c (k a b : Int) (w : World) :
    Calls Try.prog 123 #[.agg #[.int .i64 k, .int .i64 a, .int .i64 b]] w fun e w' => ∃ v, e = .returned v ∧ OwnI w' w.heap.size v (insG (k, a, b)) ∧ Ext w w' := by
  by_cases h4 : k = 4
  · subst h4
    rw [insG_4]
    go_enter Try.func123, Try.ntmps123
    go_wp2
    go_ret
    exact ⟨_, rfl, OwnI.mk (Own.arr_at #[.int .i64 a] 1 [.int .i64 a] (by simp) (by simp) (by omega) rfl rfl), by (repeat (first | with_reducible exact Ext.refl _ | with_reducible assumption | ((with_reducible refine Ext.setCell ?_ ?_ _); rotate_left; focus (first | omega | (simp <;> omega))) | with_reducible refine Ext.alloc ?_ _ | with_reducible refine Ext.drewN ?_ _ | with_reducible refine Ext.drew ?_ | with_reducible refine Ext.trans ?_ (by with_reducible assumption)))⟩
  have h44 : (k == 4) = false := by simpa using h4
  by_cases h5 : k = 5 ∨ k = 6
  · rcases h5 with rfl | rfl
    · rw [insG_5]
      go_enter Try.func123, Try.ntmps123
      go_wp2
      go_ret
      exact ⟨_, rfl, OwnI.mk (Own.arr_at #[.int .i64 a, .int .i64 b] 2 [.int .i64 a, .int .i64 b] (by simp) (by simp) (by omega) rfl rfl), by (repeat (first | with_reducible exact Ext.refl _ | with_reducible assumption | ((with_reducible refine Ext.setCell ?_ ?_ _); rotate_left; focus (first | omega | (simp <;> omega))) | with_reducible refine Ext.alloc ?_ _ | with_reducible refine Ext.drewN ?_ _ | with_reducible refine Ext.drew ?_ | with_reducible refine Ext.trans ?_ (by with_reducible assumption)))⟩
    · rw [insG_6]
      go_enter Try.func123, Try.ntmps123
      go_wp2
      go_ret
      exact ⟨_, rfl, OwnI.mk (Own.arr_at #[.int .i64 a, .int .i64 b] 2 [.int .i64 a, .int .i64 b] (by simp) (by simp) (by omega) rfl rfl), by (repeat (first | with_reducible exact Ext.refl _ | with_reducible assumption | ((with_reducible refine Ext.setCell ?_ ?_ _); rotate_left; focus (first | omega | (simp <;> omega))) | with_reducible refine Ext.alloc ?_ _ | with_reducible refine Ext.drewN ?_ _ | with_reducible refine Ext.drew ?_ | with_reducible refine Ext.trans ?_ (by with_reducible assumption)))⟩
  · have h55 : k ≠ 5 := by omega
    have h66 : k ≠ 6 := by omega
    rw [insG_no k a b h4 h55 h66]
    have h7 : (k == 5) = false := by simpa using h55
    have h8 : (k == 6) = false := by simpa using h66
    clear h4 h5 h55 h66
    go_enter Try.func123, Try.ntmps123
    go_wp2
    go_ret
    exact ⟨_, rfl, OwnI.mk (Own.arr_at #[] 0 [] (by simp) (by simp) (by omega) rfl rfl), by (repeat (first | with_reducible exact Ext.refl _ | with_reducible assumption | ((with_reducible refine Ext.setCell ?_ ?_ _); rotate_left; focus (first | omega | (simp <;> omega))) | with_reducible refine Ext.alloc ?_ _ | with_reducible refine Ext.drewN ?_ _ | with_reducible refine Ext.drew ?_ | with_reducible refine Ext.trans ?_ (by with_reducible assumption)))⟩
set_option maxHeartbeats 800000 in
theorem inputs_c (k a b : Int) (w : World) :
    Calls Try.prog 125 #[.agg #[.int .i64 k, .int .i64 a, .int .i64 b]] w fun e w' => ∃ v, e = .returned v ∧ OwnI w' w.heap.size v (insG (k, a, b)) ∧ Ext w w' := by
  by_cases h4 : k = 4
  · subst h4
    rw [insG_4]
    go_enter Try.func125, Try.ntmps125
    go_wp2
    go_ret
    exact ⟨_, rfl, OwnI.mk (Own.arr_at #[.int .i64 a] 1 [.int .i64 a] (by simp) (by simp) (by omega) rfl rfl), by (repeat (first | with_reducible exact Ext.refl _ | with_reducible assumption | ((with_reducible refine Ext.setCell ?_ ?_ _); rotate_left; focus (first | omega | (simp <;> omega))) | with_reducible refine Ext.alloc ?_ _ | with_reducible refine Ext.drewN ?_ _ | with_reducible refine Ext.drew ?_ | with_reducible refine Ext.trans ?_ (by with_reducible assumption)))⟩
  have h44 : (k == 4) = false := by simpa using h4
  by_cases h5 : k = 5 ∨ k = 6
  · rcases h5 with rfl | rfl
    · rw [insG_5]
      go_enter Try.func125, Try.ntmps125
      go_wp2
      go_ret
      exact ⟨_, rfl, OwnI.mk (Own.arr_at #[.int .i64 a, .int .i64 b] 2 [.int .i64 a, .int .i64 b] (by simp) (by simp) (by omega) rfl rfl), by (repeat (first | with_reducible exact Ext.refl _ | with_reducible assumption | ((with_reducible refine Ext.setCell ?_ ?_ _); rotate_left; focus (first | omega | (simp <;> omega))) | with_reducible refine Ext.alloc ?_ _ | with_reducible refine Ext.drewN ?_ _ | with_reducible refine Ext.drew ?_ | with_reducible refine Ext.trans ?_ (by with_reducible assumption)))⟩
    · rw [insG_6]
      go_enter Try.func125, Try.ntmps125
      go_wp2
      go_ret
      exact ⟨_, rfl, OwnI.mk (Own.arr_at #[.int .i64 a, .int .i64 b] 2 [.int .i64 a, .int .i64 b] (by simp) (by simp) (by omega) rfl rfl), by (repeat (first | with_reducible exact Ext.refl _ | with_reducible assumption | ((with_reducible refine Ext.setCell ?_ ?_ _); rotate_left; focus (first | omega | (simp <;> omega))) | with_reducible refine Ext.alloc ?_ _ | with_reducible refine Ext.drewN ?_ _ | with_reducible refine Ext.drew ?_ | with_reducible refine Ext.trans ?_ (by with_reducible assumption)))⟩
  · have h55 : k ≠ 5 := by omega
    have h66 : k ≠ 6 := by omega
    rw [insG_no k a b h4 h55 h66]
    have h7 : (k == 5) = false := by simpa using h55
    have h8 : (k == 6) = false := by simpa using h66
    clear h4 h5 h55 h66
    go_enter Try.func125, Try.ntmps125
    go_wp2
    go_ret
    exact ⟨_, rfl, OwnI.mk (Own.nil _ _ _ _), by (repeat (first | with_reducible exact Ext.refl _ | with_reducible assumption | ((with_reducible refine Ext.setCell ?_ ?_ _); rotate_left; focus (first | omega | (simp <;> omega))) | with_reducible refine Ext.alloc ?_ _ | with_reducible refine Ext.drewN ?_ _ | with_reducible refine Ext.drew ?_ | with_reducible refine Ext.trans ?_ (by with_reducible assumption)))⟩
theorem setT_take {m : List Bool} {ks : List Int} {p : Nat} {k : Int} (h : Hid (ks[p]? = some k)) : setT m (ks.take (p + 1)) = (setT m (ks.take p)).set k.toNat true := by
  rw [take_succ_of h]; simp [setT]
theorem setT_all {m : List Bool} {ks : List Int} {p : Nat} (h : ks.length ≤ p) : setT m (ks.take p) = setT m ks := by rw [List.take_of_length_le h]
theorem need0_cells (n : Nat) : ((List.replicate n (Value.bool false)).set (n - 1) (.bool true)) = (need0 n).map Value.bool := by
  unfold need0; rw [List.map_set]; simp
/-- The marks, in a slice of the call's own. -/
def OwnM (w : World) (base g n c : Nat) (m : List Bool) : Prop := Own w base 4 1 (some ⟨g, 0, none⟩) n c (m.map Value.bool)
set_option maxRecDepth 100000 in
set_option maxHeartbeats 3200000 in
theorem l6Needed_c (A : Option Addr) (n c : Nat) (gs : List Gt) (w : World) (h : Gates w A n gs) (hg : GoodG gs) (hn : n ≤ 200) (hn1 : 1 ≤ n) :
    Calls Try.prog 78 #[.slice A n c] w fun e w' => ∃ g c', e = .returned (.slice (some ⟨g, 0, none⟩) n c') ∧ OwnM w' w.heap.size g n c' (marks gs) ∧ Ext w w' := by
  have HG := hide hg
  have hl := hide h.len
  clear hg
  obtain ⟨n', rfl⟩ : ∃ n', n = n' + 1 := ⟨n - 1, by omega⟩
  have hmk : ∀ W, (Instr.makeSlice 31 (.int .i64 ((n' : Int) + 1)) (.int .i64 ((n' : Int) + 1))).run Try.prog W = .ok (.slice (some ⟨W.heap.size, 0, none⟩) (n' + 1) (n' + 1)) (W.alloc (.cells (madeCells #[.bool false] (n' + 1)) 4)) :=
    fun W => make_eq (P := Try.prog) 31 4 Try.underlying31 _ 1 info_bool rfl (n' + 1) (by omega) (by omega) W
  have hge := made_get (.bool false) (n' + 1) n' (by omega)
  have ho0 : OwnM (w.alloc (.cells ((madeCells #[.bool false] (n' + 1)).setIfInBounds n' (.bool true)) 4)) w.heap.size w.heap.size (n' + 1) (n' + 1) (need0 (n' + 1)) :=
    Own.arr_at _ (n' + 1) _ rfl (Nat.le_refl _) (by omega) (by simp [need0]) (by rw [toList_made_set]; exact need0_cells (n' + 1))
  go_enter Try.func78, Try.ntmps78
  go_wp2_with fail
  clear hmk hge
  have hN0 : Hid (needAt gs (n' + 1) (need0 (n' + 1))) := hide (by rw [hl.out]; exact needAt_first gs)
  refine wp_loopF 46 _ rfl rfl [0, 3, 45] rfl (fun fr wr => Ext w wr ∧ ∃ (k : Nat) (ms : List Bool), k ≤ n' + 1 ∧ (fr 4) = .int .i64 ((k : Int) - 1) ∧ Hid (needAt gs k ms) ∧ OwnM wr w.heap.size w.heap.size (n' + 1) (n' + 1) ms) (fun fr wr => (intOf (fr 4) + 1).toNat) ?_ ?_
  · (exact ⟨by (repeat (first | with_reducible exact Ext.refl _ | with_reducible assumption | ((with_reducible refine Ext.setCell ?_ ?_ _); rotate_left; focus (first | omega | (simp <;> omega))) | with_reducible refine Ext.alloc ?_ _ | with_reducible refine Ext.drewN ?_ _ | with_reducible refine Ext.drew ?_ | with_reducible refine Ext.trans ?_ (by with_reducible assumption))), n' + 1, _, by omega, by first | rfl | (simp; done) | go_num, hN0, ho0⟩)
  intro ks fr wr hkept hrel; (try dsimp only at hrel)
  change Code.wp _ _ _ ⟨#[ks 0, fr 1, fr 2, ks 3, fr 4, fr 5, fr 6, fr 7, fr 8, fr 9, fr 10, fr 11, fr 12, fr 13, fr 14, fr 15, fr 16, fr 17, fr 18, fr 19, fr 20, fr 21, fr 22, fr 23, fr 24, fr 25, fr 26, fr 27, fr 28, fr 29, fr 30, fr 31, fr 32, fr 33, fr 34, fr 35, fr 36, fr 37, fr 38, fr 39, fr 40, fr 41, fr 42, fr 43, fr 44, ks 45], []⟩ wr
  simp only [KeptV, List.getD_cons_zero, List.getD_cons_succ] at hkept; obtain ⟨hk0, hk3, hk45, -⟩ := hkept
  generalize ks 0 = k0 at hk0 ⊢; subst hk0
  generalize ks 3 = k3 at hk3 ⊢; subst hk3
  generalize ks 45 = k45 at hk45 ⊢; subst hk45
  generalize fr 4 = s4 at hrel ⊢
  clear ho0 hN0
  obtain ⟨he, k, ms, hk, hs1, hN, ho⟩ := hrel
  subst hs1
  cases k with
  | zero =>
    have hm : ms = marks gs := hN.out.2
    subst hm
    go_wp2_with fail
    go_ret
    exact ⟨_, _, rfl, ho, he⟩
  | succ k =>
    obtain ⟨g, kk, a, b, rfl, hx, c0, c1, c2⟩ := (h.ext he).at_ (i := k) (by omega)
    have hgood := HG.out k _ hx.out
    have hgd := hide (getD_of (d := g0) hx)
    have hkk : ((k + 1 : Nat) : Int) - 1 = (k : Int) := by omega
    rw [hkk]
    clear hkk
    go_wp2_with fail
    refine (l6Inputs_c kk a b _).mono ?_
    rintro e w1 ⟨v, rfl, ⟨A1, n1, c1', rfl, hl1, ho1⟩, he1⟩
    have e1 := he.trans he1
    have hsz := he.size
    have hom := ho.ext he1
    have hml : Hid (ms.length = n' + 1) := hide (by rw [hN.out.1, ← hl.out])
    obtain ⟨x, hxd, hxg⟩ := gets_bool (xs := ms) (p := k) (by rw [hml.out]; omega)
    have d1 := hom.cell (get_map_bool hxg)
    have hbl : w.heap.size < wr.heap.size := World.block_lt_of_cell? _ _ (ho.cell (get_map_bool hxg))
    have hxd := hide hxd
    have HXG := hide hxg
    have hn2 : n1 ≤ 2 := by have := hl1.out; have := insG_le (kk, a, b); omega
    have hNx := hide (needAt_next hN.out)
    have HO1 : Hid (Own w1 (w.heap.size + 1) 3 1 A1 n1 c1' ((insG (kk, a, b)).map (Value.int .i64))) := hide (ho1.lower (by omega))
    clear hxg he he1 ho hN ho1
    cases x
    · have hst : Hid (needStep gs ms k = ms) := hide (by unfold needStep; rw [hxd.out]; rfl)
      rw [hst.out] at hNx
      have HE := hide e1
      have HM := hide hom
      clear hst hxd e1 hom
      go_wp2_with fail
      refine wp_loopF 46 _ rfl rfl [0, 3, 4, 5, 18, 19, 20, 21, 22, 23, 24, 25, 26, 45] rfl (fun fr wr => Ext w wr ∧ (fr 6) = .int .i64 0 ∧ OwnM wr w.heap.size w.heap.size (n' + 1) (n' + 1) ms ∧ wr.cell? ⟨w.heap.size, k, none⟩ = some (.bool false)) (fun fr wr => 0) ?_ ?_
      · (exact ⟨HE.out, rfl, HM.out, d1⟩)
      intro ks fr wr hkept hrel; (try dsimp only at hrel)
      change Code.wp _ _ _ ⟨#[ks 0, fr 1, fr 2, ks 3, ks 4, ks 5, fr 6, fr 7, fr 8, fr 9, fr 10, fr 11, fr 12, fr 13, fr 14, fr 15, fr 16, fr 17, ks 18, ks 19, ks 20, ks 21, ks 22, ks 23, ks 24, ks 25, ks 26, fr 27, fr 28, fr 29, fr 30, fr 31, fr 32, fr 33, fr 34, fr 35, fr 36, fr 37, fr 38, fr 39, fr 40, fr 41, fr 42, fr 43, fr 44, ks 45], []⟩ wr
      simp only [KeptV, List.getD_cons_zero, List.getD_cons_succ] at hkept; obtain ⟨hk0, hk3, hk4, hk5, hk18, hk19, hk20, hk21, hk22, hk23, hk24, hk25, hk26, hk45, -⟩ := hkept
      generalize ks 0 = k0 at hk0 ⊢; subst hk0
      generalize ks 3 = k3 at hk3 ⊢; subst hk3
      generalize ks 4 = k4 at hk4 ⊢; subst hk4
      generalize ks 5 = k5 at hk5 ⊢; subst hk5
      generalize ks 18 = k18 at hk18 ⊢; subst hk18
      generalize ks 19 = k19 at hk19 ⊢; subst hk19
      generalize ks 20 = k20 at hk20 ⊢; subst hk20
      generalize ks 21 = k21 at hk21 ⊢; subst hk21
      generalize ks 22 = k22 at hk22 ⊢; subst hk22
      generalize ks 23 = k23 at hk23 ⊢; subst hk23
      generalize ks 24 = k24 at hk24 ⊢; subst hk24
      generalize ks 25 = k25 at hk25 ⊢; subst hk25
      generalize ks 26 = k26 at hk26 ⊢; subst hk26
      generalize ks 45 = k45 at hk45 ⊢; subst hk45
      generalize fr 6 = s6 at hrel ⊢
      clear HE HM d1
      obtain ⟨he, hs1, ho, d1⟩ := hrel
      subst hs1
      have HE := hide he
      have HM := hide ho
      clear he ho
      rcases Nat.eq_zero_or_pos n1 with hz | hz
      · subst hz
        go_wp2_with fail
        exact ⟨⟨(by (repeat (first | exact trivial | refine ⟨rfl, ?_⟩))), HE.out, k, ms, by omega, by go_num, hNx, HM.out⟩, (by simp [intOf] <;> omega)⟩
      · have hz' : (0 : Int) < (n1 : Int) := by omega
        go_wp2_with fail
        exact ⟨⟨(by (repeat (first | exact trivial | refine ⟨rfl, ?_⟩))), HE.out, k, ms, by omega, by go_num, hNx, HM.out⟩, (by simp [intOf] <;> omega)⟩
    · have hst : Hid (needStep gs ms k = setT ms (insG (kk, a, b))) := hide (by unfold needStep; rw [hxd.out, hgd.out]; rfl)
      rw [hst.out] at hNx
      have HE := hide e1
      have HM := hide hom
      clear hst hxd e1 hom d1
      go_wp2_with fail
      refine wp_loopF 46 _ rfl rfl [0, 3, 4, 5, 18, 19, 20, 21, 22, 23, 24, 25, 26, 45] rfl (fun fr wr => Ext w wr ∧ ∃ p : Nat, p ≤ n1 ∧ (fr 6) = .int .i64 p ∧ OwnM wr w.heap.size w.heap.size (n' + 1) (n' + 1) (setT ms ((insG (kk, a, b)).take p)) ∧ Own wr (w.heap.size + 1) 3 1 A1 n1 c1' ((insG (kk, a, b)).map (Value.int .i64))) (fun fr wr => n1 - (intOf (fr 6)).toNat) ?_ ?_
      · (exact ⟨HE.out, 0, by omega, rfl, HM.out, HO1.out⟩)
      intro ks fr wr hkept hrel; (try dsimp only at hrel)
      change Code.wp _ _ _ ⟨#[ks 0, fr 1, fr 2, ks 3, ks 4, ks 5, fr 6, fr 7, fr 8, fr 9, fr 10, fr 11, fr 12, fr 13, fr 14, fr 15, fr 16, fr 17, ks 18, ks 19, ks 20, ks 21, ks 22, ks 23, ks 24, ks 25, ks 26, fr 27, fr 28, fr 29, fr 30, fr 31, fr 32, fr 33, fr 34, fr 35, fr 36, fr 37, fr 38, fr 39, fr 40, fr 41, fr 42, fr 43, fr 44, ks 45], []⟩ wr
      simp only [KeptV, List.getD_cons_zero, List.getD_cons_succ] at hkept; obtain ⟨hk0, hk3, hk4, hk5, hk18, hk19, hk20, hk21, hk22, hk23, hk24, hk25, hk26, hk45, -⟩ := hkept
      generalize ks 0 = k0 at hk0 ⊢; subst hk0
      generalize ks 3 = k3 at hk3 ⊢; subst hk3
      generalize ks 4 = k4 at hk4 ⊢; subst hk4
      generalize ks 5 = k5 at hk5 ⊢; subst hk5
      generalize ks 18 = k18 at hk18 ⊢; subst hk18
      generalize ks 19 = k19 at hk19 ⊢; subst hk19
      generalize ks 20 = k20 at hk20 ⊢; subst hk20
      generalize ks 21 = k21 at hk21 ⊢; subst hk21
      generalize ks 22 = k22 at hk22 ⊢; subst hk22
      generalize ks 23 = k23 at hk23 ⊢; subst hk23
      generalize ks 24 = k24 at hk24 ⊢; subst hk24
      generalize ks 25 = k25 at hk25 ⊢; subst hk25
      generalize ks 26 = k26 at hk26 ⊢; subst hk26
      generalize ks 45 = k45 at hk45 ⊢; subst hk45
      generalize fr 6 = s6 at hrel ⊢
      clear HE HM HO1
      obtain ⟨he, p, hp, hs1, ho, ho1⟩ := hrel
      subst hs1
      have hkc := ho.cell (j := k) (u := .bool true) (get_map_bool (setT_keeps HXG.out))
      by_cases hlp : p < n1
      · obtain ⟨gI, rfl, hgI1, hgI2⟩ := ho1.form (by omega)
        obtain ⟨z, hz, hzc, -⟩ := ho1.int_atS (q := p) (by omega)
        have hzr := hgood.2.1 z (List.mem_of_getElem? hz.out)
        obtain ⟨q, rfl⟩ : ∃ q : Nat, z = (q : Int) := ⟨z.toNat, by omega⟩
        have hT := hide (setT_take (m := ms) hz)
        simp only [Int.toNat_natCast] at hT
        obtain ⟨y, hyd, hyg⟩ := gets_bool (xs := setT ms ((insG (kk, a, b)).take p)) (p := q) (by rw [setT_length, hml.out]; omega)
        have dq := ho.cell (get_map_bool hyg)
        have fq := ho.frozen q
        have ho2 := ho.store q (.bool true)
        rw [set_map_bool, ← hT.out] at ho2
        have HO := hide ho2
        have HI := hide (ho1.setLow (p := ⟨w.heap.size, q, none⟩) (by simp only []; omega) (.bool true))
        have HE := hide (he.setCell (p := ⟨w.heap.size, q, none⟩) (Nat.le_refl _) (.bool true))
        clear ho ho1 ho2 he hyd hyg hz
        go_wp2_with fail
        exact ⟨⟨(by (repeat (first | exact trivial | refine ⟨rfl, ?_⟩))), HE.out, p + 1, by omega, by go_num, HO.out, HI.out⟩, (by simp [intOf] <;> omega)⟩
      · obtain rfl : p = n1 := by omega
        rw [setT_all (by rw [hl1.out]; exact Nat.le_refl _)] at ho
        have HE := hide he
        have HM := hide ho
        clear he ho ho1
        go_wp2_with fail
        exact ⟨⟨(by (repeat (first | exact trivial | refine ⟨rfl, ?_⟩))), HE.out, k, _, by omega, by go_num, hNx, HM.out⟩, (by simp [intOf] <;> omega)⟩
end Go.Proofs.Ytcbjaomjamfjcaa
