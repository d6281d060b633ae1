/-
  NeededGates: both texts return the same.
-/
import Derived.Test.YtcbjaomjamfjcaaK13
namespace Go.Proofs.Ytcbjaomjamfjcaa
set_option linter.unusedSimpArgs false
set_option linter.unusedVariables false
open Go.RowKit

theorem needTo_hit {gs : List Gt} {k : Nat} (h : mark gs k = true) : needTo gs (k + 1) = needTo gs k ++ [(k : Int)] := by simp [needTo, h]
theorem needTo_miss {gs : List Gt} {k : Nat} (h : mark gs k = false) : needTo gs (k + 1) = needTo gs k := by simp [needTo, h]
theorem needTo_le (gs : List Gt) (k : Nat) : (needTo gs k).length ≤ k := by
  induction k with
  | zero => simp [needTo]
  | succ k ih => simp only [needTo, List.length_append]; split <;> simp <;> omega
theorem OwnM.at_ {w : World} {base g n c : Nat} {gs : List Gt} (h : OwnM w base g n c (marks gs)) {k : Nat} (hk : k < gs.length) : w.cell? ⟨g, k, none⟩ = some (.bool (mark gs k)) := by
  refine Own.cell h (get_map_bool ?_)
  unfold mark
  rw [List.getD_eq_getElem?_getD, List.getElem?_eq_getElem (by rw [marks_length]; exact hk)]
  rfl
set_option maxRecDepth 100000 in
set_option maxHeartbeats 1600000 in
theorem spec_NeededGates_o (v : Int) (A : Option Addr) (n d : Nat) (gs : List Gt) (w : World) (h : Gates w A n gs) :
    Calls Try.prog 27 #[.int .i64 v, .slice A n d] w fun e w' =>
      ∃ A' n' c', e = .returned (.tuple #[.slice A' n' c', .bool (circB v gs)]) ∧ ObI 3 w' w.heap.size w'.heap.size A' n' c' (if circB v gs then needTo gs gs.length else []) ∧ Ext w w' := by
  have hl := hide h.len
  have hbd := h.bound
  cases h1 : circB v gs
  · simp only [Bool.false_eq_true, if_false]
    have H1 := hide h1
    clear h1
    go_enter Try.func27, Try.ntmps27
    go_wp2_with (go_at_call 66; refine (l6Good_c _ _ _ _ gs _ (h.ext (by (repeat (first | with_reducible exact Ext.refl _ | with_reducible assumption | ((with_reducible refine Ext.setCell ?_ ?_ _); rotate_left; focus (first | omega | (simp <;> omega))) | with_reducible refine Ext.alloc ?_ _ | with_reducible refine Ext.drewN ?_ _ | with_reducible refine Ext.drew ?_ | with_reducible refine Ext.trans ?_ (by with_reducible assumption)))))).mono ?_; rw [H1.out]; rintro e w1 ⟨rfl, he1⟩)
    go_ret2
    have hs := he1.size
    exact ⟨_, _, _, rfl, by simpa using ((ObI.empty (e := 3) (W := w) (lo := w.heap.size) (Nat.le_refl _)).ext he1).wider (hi' := w1.heap.size) (by simp at hs; omega), by (repeat (first | with_reducible exact Ext.refl _ | with_reducible assumption | ((with_reducible refine Ext.setCell ?_ ?_ _); rotate_left; focus (first | omega | (simp <;> omega))) | with_reducible refine Ext.alloc ?_ _ | with_reducible refine Ext.drewN ?_ _ | with_reducible refine Ext.drew ?_ | with_reducible refine Ext.trans ?_ (by with_reducible assumption)))⟩
  · simp only [if_true]
    obtain ⟨-, hc2, hc3⟩ := circ_facts h1
    have hn : n ≤ 200 := by rw [hl.out]; exact hc2.2
    have hn1 : 1 ≤ n := by rw [hl.out]; exact hc2.1
    have HC := hide hc3
    have H1 := hide h1
    rw [← hl.out]
    clear h1 hc2 hc3
    go_enter Try.func27, Try.ntmps27
    go_wp2_with fail
    refine (l6Good_c _ _ _ _ gs _ (h.ext (by (repeat (first | with_reducible exact Ext.refl _ | with_reducible assumption | ((with_reducible refine Ext.setCell ?_ ?_ _); rotate_left; focus (first | omega | (simp <;> omega))) | with_reducible refine Ext.alloc ?_ _ | with_reducible refine Ext.drewN ?_ _ | with_reducible refine Ext.drew ?_ | with_reducible refine Ext.trans ?_ (by with_reducible assumption)))))).mono ?_; rw [H1.out]; rintro e w1 ⟨rfl, he1⟩
    have hs1 := he1.size
    have h0 : Own w1 w.heap.size 3 1 (some ⟨w.heap.size, 0, none⟩) 0 0 ((needTo gs 0).map (Value.int .i64)) := ((ObI.empty (e := 3) (W := w) (lo := w.heap.size) (Nat.le_refl _)).ext he1).own
    have e1 : Ext w w1 := by (repeat (first | with_reducible exact Ext.refl _ | with_reducible assumption | ((with_reducible refine Ext.setCell ?_ ?_ _); rotate_left; focus (first | omega | (simp <;> omega))) | with_reducible refine Ext.alloc ?_ _ | with_reducible refine Ext.drewN ?_ _ | with_reducible refine Ext.drew ?_ | with_reducible refine Ext.trans ?_ (by with_reducible assumption)))
    clear he1
    go_wp2_with fail
    refine (l6Needed_c _ _ _ gs _ (h.ext e1) HC.out hn hn1).mono ?_
    rintro e w2 ⟨g, cM, rfl, hm, he2⟩
    have h02 := h0.ext he2
    have e2 := e1.trans he2
    have hgl : w1.heap.size ≤ g := (Own.lt hm g rfl).1
    clear he2 h0 e1
    go_wp2_with fail
    refine wp_loopF 32 _ rfl rfl [1, 7, 31] rfl (fun fr wr => Ext w wr ∧ OwnM wr w1.heap.size g n cM (marks gs) ∧ ∃ k : Nat, k ≤ n ∧ (fr 8) = .int .i64 k ∧ ∃ X N y, (fr 6) = .slice X N y ∧ N ≤ k ∧ Own wr w.heap.size 3 1 X N y ((needTo gs k).map (Value.int .i64))) (fun fr wr => n - (intOf (fr 8)).toNat) ?_ ?_
    · (exact ⟨e2, hm, 0, by omega, rfl, _, _, _, rfl, by omega, h02⟩)
    intro ks fr wr hkept hrel; (try dsimp only at hrel)
    change Code.wp _ _ _ ⟨#[fr 0, ks 1, fr 2, fr 3, fr 4, fr 5, fr 6, ks 7, fr 8, fr 9, fr 10, fr 11, fr 12, fr 13, fr 14, fr 15, fr 16, fr 17, fr 18, fr 19, fr 20, fr 21, fr 22, fr 23, fr 24, fr 25, fr 26, fr 27, fr 28, fr 29, fr 30, ks 31], []⟩ wr
    simp only [KeptV, List.getD_cons_zero, List.getD_cons_succ] at hkept; obtain ⟨hk1, hk7, hk31, -⟩ := hkept
    generalize ks 1 = k1 at hk1 ⊢; subst hk1
    generalize ks 7 = k7 at hk7 ⊢; subst hk7
    generalize ks 31 = k31 at hk31 ⊢; subst hk31
    generalize fr 6 = s6 at hrel ⊢
    generalize fr 8 = s8 at hrel ⊢
    clear e2 hm h02
    obtain ⟨he, hm, k, hk, hs1', X, N, y, hs2', hN, ho⟩ := hrel
    subst hs1'; subst hs2'
    have hsz := he.size
    by_cases hlt : k < n
    · have d := hm.at_ (k := k) (by rw [← hl.out]; exact hlt)
      cases hc : mark gs k
      · have HH := hide (needTo_miss hc)
        rw [hc] at d
        clear hc
        have HO := hide ho
        have HM := hide hm
        have HE := hide he
        clear ho hm he
        go_wp2_with fail
        exact ⟨⟨(by (repeat (first | exact trivial | refine ⟨rfl, ?_⟩))), HE.out, HM.out, k + 1, by omega, by go_num, _, _, _, rfl, by omega, by rw [HH.out]; exact HO.out⟩, (by simp [intOf] <;> omega)⟩
      · have HH := hide (needTo_hit hc)
        rw [hc] at d
        clear hc
        go_wp2_with (at_builtin; refine wpList_app rfl _ _ _ _ rfl Try.underlying37 _ 1 8 info_int rfl (by decide) rfl ho 1 [.int .i64 (k : Int)] (by first | rfl | simp [go_sem]) rfl ?_ ?_ ?_ ?_ ?_; (intro u hu; simp at hu; first | (subst hu; rfl) | (rcases hu with rfl | rfl <;> rfl) | (rcases hu with rfl | rfl | rfl <;> rfl) | (rcases hu with rfl | rfl | rfl | rfl <;> rfl) | (rcases hu with rfl | rfl | rfl | rfl | rfl <;> rfl) | (rcases hu with rfl | rfl | rfl | rfl | rfl | rfl <;> rfl)); omega; omega; (first | omega | (simp; omega)); intro A' c' w' ho' hg' hb')
        have HO := hide ho'
        have HM : Hid (OwnM w' w1.heap.size g n cM (marks gs)) := hide (Own.kept hm hg' (Own.ne_type hm ho (by decide)))
        have HE := hide (he.trans_own (Nat.le_refl _) ho hg')
        clear ho' hm he ho hg' hb'
        exact ⟨⟨(by (repeat (first | exact trivial | refine ⟨rfl, ?_⟩))), HE.out, HM.out, k + 1, by omega, by go_num, _, _, _, rfl, by omega, by rw [HH.out]; simpa using HO.out⟩, (by simp [intOf] <;> omega)⟩
    · obtain rfl : k = n := by omega
      go_wp2_with fail
      go_ret2
      exact ⟨_, _, _, rfl, ObI.of ho (by omega), he⟩
set_option maxHeartbeats 800000 in
theorem impl_NeededGates_o (v : Int) (A : Option Addr) (n d : Nat) (gs : List Gt) (w : World) (h : Gates w A n gs) :
    Calls Try.prog 28 #[.int .i64 v, .slice A n d] w fun e w' =>
      ∃ A' n' c', e = .returned (.tuple #[.slice A' n' c', .bool (circB v gs)]) ∧ ObI 3 w' w.heap.size w'.heap.size A' n' c' (if circB v gs then needTo gs gs.length else []) ∧ Ext w w' := by
  have hl := hide h.len
  cases h1 : circB v gs
  · simp only [Bool.false_eq_true, if_false]
    have H1 := hide h1
    clear h1
    go_enter Try.func28, Try.ntmps28
    go_wp2_with (go_at_call 69; refine (impl_IsCircuit_c _ _ _ _ gs _ (h.ext (by (repeat (first | with_reducible exact Ext.refl _ | with_reducible assumption | ((with_reducible refine Ext.setCell ?_ ?_ _); rotate_left; focus (first | omega | (simp <;> omega))) | with_reducible refine Ext.alloc ?_ _ | with_reducible refine Ext.drewN ?_ _ | with_reducible refine Ext.drew ?_ | with_reducible refine Ext.trans ?_ (by with_reducible assumption)))))).mono ?_; rw [H1.out]; rintro e w1 ⟨rfl, he1⟩)
    go_ret2
    exact ⟨_, _, _, rfl, ObI.nil, by (repeat (first | with_reducible exact Ext.refl _ | with_reducible assumption | ((with_reducible refine Ext.setCell ?_ ?_ _); rotate_left; focus (first | omega | (simp <;> omega))) | with_reducible refine Ext.alloc ?_ _ | with_reducible refine Ext.drewN ?_ _ | with_reducible refine Ext.drew ?_ | with_reducible refine Ext.trans ?_ (by with_reducible assumption)))⟩
  · simp only [if_true]
    obtain ⟨-, hc2, hc3⟩ := circ_facts h1
    have hn : n ≤ 200 := by rw [hl.out]; exact hc2.2
    have hn1 : 1 ≤ n := by rw [hl.out]; exact hc2.1
    have HC := hide hc3
    have H1 := hide h1
    rw [← hl.out]
    have hle := needTo_le gs n
    have HLe := hide hle
    clear h1 hc2 hc3 hle
    go_enter Try.func28, Try.ntmps28
    go_wp2_with fail
    refine (impl_IsCircuit_c _ _ _ _ gs _ (h.ext (by (repeat (first | with_reducible exact Ext.refl _ | with_reducible assumption | ((with_reducible refine Ext.setCell ?_ ?_ _); rotate_left; focus (first | omega | (simp <;> omega))) | with_reducible refine Ext.alloc ?_ _ | with_reducible refine Ext.drewN ?_ _ | with_reducible refine Ext.drew ?_ | with_reducible refine Ext.trans ?_ (by with_reducible assumption)))))).mono ?_; rw [H1.out]; rintro e w1 ⟨rfl, he1⟩
    go_wp2_with fail
    refine (neededGates_c _ _ _ gs _ (h.ext he1) HC.out hn hn1).mono ?_
    rintro e w2 ⟨vv, rfl, ⟨X, N, y, rfl, hN, ho⟩, he2⟩
    have hN2 : N ≤ 200 := by have := hN.out; have := HLe.out; omega
    go_wp2_with fail
    go_ret2
    exact ⟨_, _, _, rfl, ObI.of (ho.lower he1.size) (by omega), he1.trans he2⟩
end Go.Proofs.Ytcbjaomjamfjcaa
