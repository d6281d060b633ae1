/-
  IsPebbling: the program's positions; both answers.
-/
import Derived.Test.YtialpmmdomhobaaD8
namespace Go.Proofs.Ytialpmmdomhobaa
set_option linter.unusedSimpArgs false
set_option linter.unusedVariables false
open Go.RowKit

abbrev nv (s : Nat) : Value := .int .u64 (s : Int)
theorem info_nodes : (Try.prog.info? 56).map (fun i => (i.zero, i.size, i.bytes)) = some (some (.int .u64 0), 1, 8) := by kernel_rfl
theorem last_c (base : Nat) (X : Option Addr) (i y : Nat) (ps : List Nat) (s : Nat) (w : World) (h : Own w base 56 1 X (i + 1) y ((ps ++ [s]).map nv)) (hi : i ≤ 1048576) :
    Calls Try.prog 25 #[.slice X (i + 1) y] w fun e w' => e = .returned (.int .u64 (s : Nat)) ∧ Ext w w' := by
  have hl : ps.length = i := by have := h.len; simp at this; omega
  obtain ⟨g, rfl, -, -⟩ := h.form (by omega)
  have hc := h.cell (j := i) (u := nv s) (by rw [List.getElem?_map, List.getElem?_append_right (by omega), hl]; simp)
  clear hl
  go_enter Try.func25, Try.ntmps25
  go_wp2_with fail
  go_ret
  exact ⟨rfl, Ext.refl _⟩
set_option maxRecDepth 100000 in
set_option maxHeartbeats 3200000 in
theorem positions_c (xss : List (List Int)) (hd : dagOk xss = true) (rev : Bool) (A : Option Addr) (n d : Nat) (B : Option Addr) (m c : Nat) (ms : List Mv) (w : World) (h : Intss w A n xss) (k : Moves w B m ms) (hm20 : m ≤ 1048576) :
    Calls Try.prog 24 #[.agg #[.slice A n d], .slice B m c, .bool rev] w fun e w' =>
      ∃ X N y, e = .returned (.tuple #[.slice X N y, .bool (match posTo xss rev ms m with | none => false | some _ => decide (m ≤ 300))]) ∧
        (∀ ps s, posTo xss rev ms m = some (ps, s) → N = m + 1 ∧ Own w' w.heap.size 56 1 X N y ((ps ++ [s]).map nv)) ∧ Ext w w' := by
  have hl10 : xss.length ≤ 10 := dagOk_len hd
  have hbm := k.bound
  have HD := hide hd
  clear hd
  obtain ⟨R, hR⟩ : ∃ R, posTo xss rev ms m = R := ⟨_, rfl⟩
  rw [hR]
  have HR := hide hR
  clear hR
  obtain ⟨T, hT⟩ : ∃ T, (match R with | none => false | some _ => decide (m ≤ 300)) = T := ⟨_, rfl⟩
  rw [hT]
  have HT := hide hT
  clear hT
  have h0 : Own ((w.alloc (.cells #[.slice A n d] 31)).alloc (.cells #[.int .u64 0] 56)) w.heap.size 56 1 (some ⟨w.heap.size + 1, 0, none⟩) 1 1 (([] ++ [0]).map nv) :=
    Own.arr_at #[.int .u64 0] 1 _ (by simp) (by simp) (by omega) rfl rfl
  have hb0 : BoxAt ((w.alloc (.cells #[.slice A n d] 31)).alloc (.cells #[.int .u64 0] 56)) w.heap.size 31 #[.slice A n d] := (BoxAt.made w _ _).ext ((Ext.refl _).alloc _)
  have H0 := hide h0
  have HB0 := hide hb0
  clear h0 hb0
  go_enter Try.func24, Try.ntmps24
  go_wp2_with fail
  refine wp_loopF 40 _ rfl rfl [1, 2, 3, 14, 15, 36, 37, 38, 39] rfl (fun fr wr => Ext w wr ∧ BoxAt wr w.heap.size 31 #[.slice A n d] ∧ ∃ i : Nat, i ≤ m ∧ (fr 16) = .int .i64 i ∧ ∃ (ps : List Nat) (s : Nat) (X : Option Addr) (y : Nat), (fr 8) = .slice X (i + 1 : Nat) y ∧ s < 1024 ∧ Hid (posTo xss rev ms i = some (ps, s)) ∧ Own wr w.heap.size 56 1 X (i + 1) y ((ps ++ [s]).map nv)) (fun fr wr => m - (intOf (fr 16)).toNat) ?_ ?_
  · (exact ⟨by (repeat (first | with_reducible exact Ext.refl _ | with_reducible assumption | ((with_reducible refine Ext.setCell ?_ ?_ _); rotate_left; focus (first | omega | (simp <;> omega))) | with_reducible refine Ext.alloc ?_ _ | with_reducible refine Ext.drewN ?_ _ | with_reducible refine Ext.drew ?_ | with_reducible refine Ext.trans ?_ (by with_reducible assumption))), HB0.out, 0, by omega, rfl, [], 0, _, _, rfl, by omega, rfl, H0.out⟩)
  intro ks fr wr hkept hrel; (try dsimp only at hrel)
  change Code.wp _ _ _ ⟨#[fr 0, ks 1, ks 2, ks 3, fr 4, fr 5, fr 6, fr 7, fr 8, fr 9, fr 10, fr 11, fr 12, fr 13, ks 14, ks 15, fr 16, fr 17, fr 18, fr 19, fr 20, fr 21, fr 22, fr 23, fr 24, fr 25, fr 26, fr 27, fr 28, fr 29, fr 30, fr 31, fr 32, fr 33, fr 34, fr 35, ks 36, ks 37, ks 38, ks 39], []⟩ wr
  simp only [KeptV, List.getD_cons_zero, List.getD_cons_succ] at hkept; obtain ⟨hk1, hk2, hk3, hk14, hk15, hk36, hk37, hk38, hk39, -⟩ := hkept
  generalize ks 1 = k1 at hk1 ⊢; subst hk1
  generalize ks 2 = k2 at hk2 ⊢; subst hk2
  generalize ks 3 = k3 at hk3 ⊢; subst hk3
  generalize ks 14 = k14 at hk14 ⊢; subst hk14
  generalize ks 15 = k15 at hk15 ⊢; subst hk15
  generalize ks 36 = k36 at hk36 ⊢; subst hk36
  generalize ks 37 = k37 at hk37 ⊢; subst hk37
  generalize ks 38 = k38 at hk38 ⊢; subst hk38
  generalize ks 39 = k39 at hk39 ⊢; subst hk39
  generalize fr 8 = s8 at hrel ⊢
  generalize fr 16 = s16 at hrel ⊢
  clear H0 HB0
  obtain ⟨he, hb, i, hi, hs1, ps, s, X, y, hs2, hs, hP, ho⟩ := hrel
  subst hs1; subst hs2
  have hsz := he.size
  by_cases hlt : i < m
  · obtain ⟨g, kd, nd, rfl, hx, c0, c1⟩ := (k.ext he).at_ hlt
    go_wp2_with fail
    obtain ⟨W1, hW1⟩ : ∃ W1, W1 = wr.alloc (.cells #[.int .i64 kd, .int .i64 nd] 49) := ⟨_, rfl⟩
    have eW : Ext wr W1 := by rw [hW1]; exact (Ext.refl _).alloc _
    have g0 : W1.cell? ⟨wr.heap.size, 0, none⟩ = some (.int .i64 kd) := by rw [hW1]; exact (BoxAt.made wr _ _).cell 0 _ rfl
    have g1 : W1.cell? ⟨wr.heap.size, 1, none⟩ = some (.int .i64 nd) := by rw [hW1]; exact (BoxAt.made wr _ _).cell 1 _ rfl
    have d0 := eW.cell (hb.cell 0 _ rfl)
    have HC := hide (fun W (E : Ext wr W) => dmoved_c xss HD.out rev s kd nd A n d W (h.ext (he.trans E)) hs)
    have HLs := hide (fun W (E : Ext wr W) => last_c w.heap.size X i y ps s W (ho.ext E) (by omega))
    rw [← hW1]
    have hed := (Ext.refl W1).drew
    clear hW1
    cases hm : moveP xss rev s (kd, nd) with
    | none =>
      rw [hm] at HC
      simp only [Option.getD_none, Option.isSome_none] at HC
      have hN : Hid (posTo xss rev ms m = none) := hide (posTo_none (k := i + 1) (by rw [posTo_next hP.out hx, hm]; rfl) m (by omega))
      obtain rfl : R = none := by rw [← HR.out, hN.out]
      obtain rfl : T = false := HT.out.symm
      clear hm hx
      go_region_held3 (fun w' => w'.cell? ⟨w.heap.size, 0, none⟩ = some (.slice A n d) ∧ w'.cell? ⟨wr.heap.size, 0, none⟩ = some (.int .i64 kd) ∧ w'.cell? ⟨wr.heap.size, 1, none⟩ = some (.int .i64 nd)) (exact ⟨(show Ext W1 _ by (repeat (first | with_reducible exact Ext.refl _ | with_reducible assumption | ((with_reducible refine Ext.setCell ?_ ?_ _); rotate_left; focus (first | omega | (simp <;> omega))) | with_reducible refine Ext.alloc ?_ _ | with_reducible refine Ext.drewN ?_ _ | with_reducible refine Ext.drew ?_ | with_reducible refine Ext.trans ?_ (by with_reducible assumption)))).cell d0, (show Ext W1 _ by (repeat (first | with_reducible exact Ext.refl _ | with_reducible assumption | ((with_reducible refine Ext.setCell ?_ ?_ _); rotate_left; focus (first | omega | (simp <;> omega))) | with_reducible refine Ext.alloc ?_ _ | with_reducible refine Ext.drewN ?_ _ | with_reducible refine Ext.drew ?_ | with_reducible refine Ext.trans ?_ (by with_reducible assumption)))).cell g0, (show Ext W1 _ by (repeat (first | with_reducible exact Ext.refl _ | with_reducible assumption | ((with_reducible refine Ext.setCell ?_ ?_ _); rotate_left; focus (first | omega | (simp <;> omega))) | with_reducible refine Ext.alloc ?_ _ | with_reducible refine Ext.drewN ?_ _ | with_reducible refine Ext.drew ?_ | with_reducible refine Ext.trans ?_ (by with_reducible assumption)))).cell g1⟩) (first | (go_at_call 25; (with_reducible refine (HLs.out _ (eW.trans (by (repeat (first | with_reducible exact Ext.refl _ | with_reducible assumption | ((with_reducible refine Ext.setCell ?_ ?_ _); rotate_left; focus (first | omega | (simp <;> omega))) | with_reducible refine Ext.alloc ?_ _ | with_reducible refine Ext.drewN ?_ _ | with_reducible refine Ext.drew ?_ | with_reducible refine Ext.trans ?_ (by with_reducible assumption)))))).mono ?_); rintro e w1 ⟨rfl, he1⟩; have ew1 : Ext W1 w1 := (by (repeat (first | with_reducible exact Ext.refl _ | with_reducible assumption | ((with_reducible refine Ext.setCell ?_ ?_ _); rotate_left; focus (first | omega | (simp <;> omega))) | with_reducible refine Ext.alloc ?_ _ | with_reducible refine Ext.drewN ?_ _ | with_reducible refine Ext.drew ?_ | with_reducible refine Ext.trans ?_ (by with_reducible assumption))))) | (go_at_call 38; (with_reducible refine (HC.out _ (eW.trans (by (repeat (first | with_reducible exact Ext.refl _ | with_reducible assumption | ((with_reducible refine Ext.setCell ?_ ?_ _); rotate_left; focus (first | omega | (simp <;> omega))) | with_reducible refine Ext.alloc ?_ _ | with_reducible refine Ext.drewN ?_ _ | with_reducible refine Ext.drew ?_ | with_reducible refine Ext.trans ?_ (by with_reducible assumption)))))).mono ?_); rintro e w2 ⟨rfl, he2⟩; have ew2 : Ext W1 w2 := Ext.trans ew1 he2))
      have hEH := hide ((he.trans eW).trans ew2)
      clear he
      go_wp2_with fail
      go_ret2
      exact ⟨_, _, _, rfl, (fun ps s hh => by cases hh), hEH.out⟩
    | some t =>
      rw [hm] at HC
      simp only [Option.getD_some, Option.isSome_some] at HC
      have ht := moveP_small hl10 hs hm
      have hP2 : Hid (posTo xss rev ms (i + 1) = some (ps ++ [s], t)) := hide (by rw [posTo_next hP.out hx, hm]; rfl)
      clear hm hP hx
      go_region_held3 (fun w' => w'.cell? ⟨w.heap.size, 0, none⟩ = some (.slice A n d) ∧ w'.cell? ⟨wr.heap.size, 0, none⟩ = some (.int .i64 kd) ∧ w'.cell? ⟨wr.heap.size, 1, none⟩ = some (.int .i64 nd)) (exact ⟨(show Ext W1 _ by (repeat (first | with_reducible exact Ext.refl _ | with_reducible assumption | ((with_reducible refine Ext.setCell ?_ ?_ _); rotate_left; focus (first | omega | (simp <;> omega))) | with_reducible refine Ext.alloc ?_ _ | with_reducible refine Ext.drewN ?_ _ | with_reducible refine Ext.drew ?_ | with_reducible refine Ext.trans ?_ (by with_reducible assumption)))).cell d0, (show Ext W1 _ by (repeat (first | with_reducible exact Ext.refl _ | with_reducible assumption | ((with_reducible refine Ext.setCell ?_ ?_ _); rotate_left; focus (first | omega | (simp <;> omega))) | with_reducible refine Ext.alloc ?_ _ | with_reducible refine Ext.drewN ?_ _ | with_reducible refine Ext.drew ?_ | with_reducible refine Ext.trans ?_ (by with_reducible assumption)))).cell g0, (show Ext W1 _ by (repeat (first | with_reducible exact Ext.refl _ | with_reducible assumption | ((with_reducible refine Ext.setCell ?_ ?_ _); rotate_left; focus (first | omega | (simp <;> omega))) | with_reducible refine Ext.alloc ?_ _ | with_reducible refine Ext.drewN ?_ _ | with_reducible refine Ext.drew ?_ | with_reducible refine Ext.trans ?_ (by with_reducible assumption)))).cell g1⟩) (first | (go_at_call 25; (with_reducible refine (HLs.out _ (eW.trans (by (repeat (first | with_reducible exact Ext.refl _ | with_reducible assumption | ((with_reducible refine Ext.setCell ?_ ?_ _); rotate_left; focus (first | omega | (simp <;> omega))) | with_reducible refine Ext.alloc ?_ _ | with_reducible refine Ext.drewN ?_ _ | with_reducible refine Ext.drew ?_ | with_reducible refine Ext.trans ?_ (by with_reducible assumption)))))).mono ?_); rintro e w1 ⟨rfl, he1⟩; have ew1 : Ext W1 w1 := (by (repeat (first | with_reducible exact Ext.refl _ | with_reducible assumption | ((with_reducible refine Ext.setCell ?_ ?_ _); rotate_left; focus (first | omega | (simp <;> omega))) | with_reducible refine Ext.alloc ?_ _ | with_reducible refine Ext.drewN ?_ _ | with_reducible refine Ext.drew ?_ | with_reducible refine Ext.trans ?_ (by with_reducible assumption))))) | (go_at_call 38; (with_reducible refine (HC.out _ (eW.trans (by (repeat (first | with_reducible exact Ext.refl _ | with_reducible assumption | ((with_reducible refine Ext.setCell ?_ ?_ _); rotate_left; focus (first | omega | (simp <;> omega))) | with_reducible refine Ext.alloc ?_ _ | with_reducible refine Ext.drewN ?_ _ | with_reducible refine Ext.drew ?_ | with_reducible refine Ext.trans ?_ (by with_reducible assumption)))))).mono ?_); rintro e w2 ⟨rfl, he2⟩; have ew2 : Ext W1 w2 := Ext.trans ew1 he2))
      have E2 := eW.trans ew2
      have e2 := he.trans E2
      have hb2 := hb.ext E2
      have ho2 := ho.ext E2
      have hz2 := e2.size
      clear he hb ho ew1 ew2 E2 d0 g0 g1 hed HC HLs eW
      go_wp2_with (at_builtin; refine wpList_app rfl _ _ _ _ rfl Try.underlying52 _ 1 8 info_nodes rfl (by decide) rfl ho2 1 [.int .u64 (t : Nat)] (by first | rfl | simp [go_sem]) rfl ?_ ?_ ?_ ?_ ?_; (intro u hu; simp at hu; first | (subst hu; rfl) | (rcases hu with rfl | rfl <;> rfl) | (rcases hu with rfl | rfl | rfl <;> rfl) | (rcases hu with rfl | rfl | rfl | rfl <;> rfl) | (rcases hu with rfl | rfl | rfl | rfl | rfl <;> rfl) | (rcases hu with rfl | rfl | rfl | rfl | rfl | rfl <;> rfl)); omega; omega; (first | omega | (simp; omega)); intro A' c' w' ho' hg' hb')
      have HO := hide ho'
      have HE := hide (e2.trans_own (Nat.le_refl _) ho2 hg')
      have HB := hide (hb2.grown ho2 (by decide) hg')
      clear ho' e2 ho2 hb2 hg' hb'
      exact ⟨⟨(by (repeat (first | exact trivial | refine ⟨rfl, ?_⟩))), HE.out, HB.out, i + 1, by omega, by go_num, ps ++ [s], t, _, _, rfl, ht, hP2, by rw [List.map_append]; exact HO.out⟩, (by simp [intOf] <;> omega)⟩
  · obtain rfl : i = m := by omega
    obtain rfl : R = some (ps, s) := by rw [← HR.out, hP.out]
    have hTT : decide (i ≤ 300) = T := HT.out
    have hTi : decide ((i : Int) ≤ 300) = T := by rw [← hTT, Bool.eq_iff_iff]; simp only [decide_eq_true_eq]; omega
    clear hTT HT
    have HO := hide ho
    have HE := hide he
    clear ho he
    go_wp2_with fail
    go_ret2
    exact ⟨_, _, _, by first | rfl | (simp [hTi]), (fun ps' s' hh => by injection hh with hh; injection hh with h1 h2; subst h1; subst h2; exact ⟨rfl, HO.out⟩), HE.out⟩
end Go.Proofs.Ytialpmmdomhobaa
