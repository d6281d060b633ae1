/-
  NodesUnder: both texts return the same.
-/
import Derived.Test.YtcbjaomjamfjcaaD1
import Derived.Test.YtcbjaomjamfjcaaK11
namespace Go.Proofs.Ytcbjaomjamfjcaa
set_option linter.unusedSimpArgs false
set_option linter.unusedVariables false
open Go.RowKit

def undOk (xss : List (List Int)) (x : Int) : Bool := dagOk xss && within x 0 ((xss.length : Int) - 1)
theorem pickAll_congr {p q : Nat → Bool} {n : Nat} (h : ∀ j, j < n → p j = q j) : pickAll p n = pickAll q n := by
  induction n with
  | zero => rfl
  | succ n ih =>
    have h1 := ih (fun j hj => h j (by omega))
    have h2 := h n (by omega)
    cases hp : p n
    · rw [pickAll_miss hp, pickAll_miss (by rw [← h2]; exact hp), h1]
    · rw [pickAll_hit hp, pickAll_hit (by rw [← h2]; exact hp), h1]
theorem und_pick {xss : List (List Int)} (hg : GoodD xss) {x : Nat} (hx : x < xss.length) (hl : xss.length ≤ 10) : pickAll (und xss x).testBit 10 = pickAll (fun j => (dMarks xss x).getD j false) (x + 1) := by
  rw [pickAll_more (n := x + 1) (by omega) (fun j hj => by
    cases h : (und xss x).testBit j with
    | false => rfl
    | true => have := und_le hg x j h; omega)]
  exact pickAll_congr (fun j _ => (dMarks_bit hg hx j).symm)
set_option maxRecDepth 100000 in
set_option maxHeartbeats 3200000 in
theorem spec_NodesUnder_o (x : Int) (A : Option Addr) (n d : Nat) (xss : List (List Int)) (w : World) (h : Intss w A n xss) :
    Calls Try.prog 54 #[.agg #[.slice A n d], .int .i64 x] w fun e w' =>
      ∃ A' n' c', e = .returned (.tuple #[.slice A' n' c', .bool (undOk xss x)]) ∧ ObI 3 w' w.heap.size w'.heap.size A' n' c' (if undOk xss x then pickAll (und xss x.toNat).testBit 10 else []) ∧ Ext w w' := by
  have hb := h.bound
  have HL := hide h.len
  cases hq : undOk xss x
  · simp only [Bool.false_eq_true, if_false]
    rcases and2_false hq with h1 | ⟨h1, h2⟩ <;> clear hq
    · have HD := hide h1
      clear h1
      go_enter Try.func54, Try.ntmps54
      go_wp2_with (go_at_call 106; refine (l14Good_c _ _ _ xss _ (h.ext (((Ext.refl w).alloc _).alloc _))).mono ?_; rw [HD.out]; rintro e w1 ⟨rfl, he⟩)
      have hs := he.size
      have h0 := ((ObI.empty (e := 3) (W := w.alloc (.cells #[.slice A n d] 68)) (lo := w.heap.size) (by first | omega | (simp <;> omega))).ext he).wider (hi' := w1.heap.size) (by simp at hs ⊢; omega)
      have hx : Ext w w1 := by (repeat (first | with_reducible exact Ext.refl _ | with_reducible assumption | ((with_reducible refine Ext.setCell ?_ ?_ _); rotate_left; focus (first | omega | (simp <;> omega))) | with_reducible refine Ext.alloc ?_ _ | with_reducible refine Ext.drewN ?_ _ | with_reducible refine Ext.drew ?_ | with_reducible refine Ext.trans ?_ (by with_reducible assumption)))
      go_ret2
      exact ⟨_, _, _, rfl, by simpa using h0, hx⟩
    · have hn10 : n ≤ 10 := by have := dagOk_len h1; have := HL.out; omega
      have HD := hide h1
      have h2' : within x 0 ((n : Int) - 1) = false := by rw [HL.out]; exact h2
      clear h1 h2
      go_enter Try.func54, Try.ntmps54
      go_wp2_with (first | (go_at_call 106; refine (l14Good_c _ _ _ xss _ (h.ext (by (repeat (first | with_reducible exact Ext.refl _ | with_reducible assumption | ((with_reducible refine Ext.setCell ?_ ?_ _); rotate_left; focus (first | omega | (simp <;> omega))) | with_reducible refine Ext.alloc ?_ _ | with_reducible refine Ext.drewN ?_ _ | with_reducible refine Ext.drew ?_ | with_reducible refine Ext.trans ?_ (by with_reducible assumption)))))).mono ?_; rw [HD.out]; rintro e w1 ⟨rfl, he⟩; have c1 := he.cell (p := ⟨w.heap.size, 0, none⟩) (u := .slice A n d) (by simp [go_sem])) | (go_at_call 107; refine (l1In_c _ _ _ _).mono ?_; rintro e w' ⟨rfl, rfl⟩))
      have hs := he.size
      have h0 := ((ObI.empty (e := 3) (W := w.alloc (.cells #[.slice A n d] 68)) (lo := w.heap.size) (by first | omega | (simp <;> omega))).ext he).wider (hi' := w1.heap.size) (by simp at hs ⊢; omega)
      have hx : Ext w w1 := by (repeat (first | with_reducible exact Ext.refl _ | with_reducible assumption | ((with_reducible refine Ext.setCell ?_ ?_ _); rotate_left; focus (first | omega | (simp <;> omega))) | with_reducible refine Ext.alloc ?_ _ | with_reducible refine Ext.drewN ?_ _ | with_reducible refine Ext.drew ?_ | with_reducible refine Ext.trans ?_ (by with_reducible assumption)))
      go_ret2
      exact ⟨_, _, _, rfl, by simpa using h0, hx⟩
  · simp only [if_true]
    obtain ⟨h1, h2⟩ := and2_true hq
    have hn10 : n ≤ 10 := by have := dagOk_len h1; have := HL.out; omega
    have hg := dag_good h1
    have h3 := within_true h2
    obtain ⟨k, rfl⟩ := int_nat h3.1
    have hk : k < n := by have := HL.out; omega
    have HP := hide (und_pick hg (x := k) (by have := HL.out; omega) (by have := HL.out; omega))
    have h2' : within (k : Int) 0 ((n : Int) - 1) = true := by rw [HL.out]; exact h2
    simp only [Int.toNat_natCast]
    rw [HP.out]
    have HD := hide h1
    have HG := hide hg
    clear h1 h2 h3 hq hg HP
    have hmk := fun W => make_eq (P := Try.prog) 31 4 Try.underlying31 _ 1 info_bool rfl n (by omega) (by omega) W
    have hge := made_get (.bool false) n k hk
    go_enter Try.func54, Try.ntmps54
    go_wp2_with fail
    (refine (l14Good_c _ _ _ xss _ (h.ext (by (repeat (first | with_reducible exact Ext.refl _ | with_reducible assumption | ((with_reducible refine Ext.setCell ?_ ?_ _); rotate_left; focus (first | omega | (simp <;> omega))) | with_reducible refine Ext.alloc ?_ _ | with_reducible refine Ext.drewN ?_ _ | with_reducible refine Ext.drew ?_ | with_reducible refine Ext.trans ?_ (by with_reducible assumption)))))).mono ?_; rw [HD.out]; rintro e w1 ⟨rfl, he⟩)
    have hs := he.size
    have h0 := ((ObI.empty (e := 3) (W := w.alloc (.cells #[.slice A n d] 68)) (lo := w.heap.size) (by first | omega | (simp <;> omega))).ext he).own
    have hx1 : Ext w w1 := by (repeat (first | with_reducible exact Ext.refl _ | with_reducible assumption | ((with_reducible refine Ext.setCell ?_ ?_ _); rotate_left; focus (first | omega | (simp <;> omega))) | with_reducible refine Ext.alloc ?_ _ | with_reducible refine Ext.drewN ?_ _ | with_reducible refine Ext.drew ?_ | with_reducible refine Ext.trans ?_ (by with_reducible assumption)))
    have hbx : BoxAt w1 w.heap.size 68 #[.slice A n d] := (BoxAt.made w _ _).ext (Ext.trans ((Ext.refl _).alloc _) he)
    have c1 := hbx.cell 0 _ rfl
    clear he
    have hm0 : OwnM (w1.alloc (.cells ((madeCells #[.bool false] n).setIfInBounds k (.bool true)) 4)) w.heap.size w1.heap.size n n ((List.replicate xss.length false).set k true) :=
      Own.arr_at _ n _ rfl hx1.size (by omega) (by simp [HL.out]) (by rw [toList_made_set, List.map_set, ← HL.out]; simp)
    have HM0 := hide hm0
    have HB0 := hide (hbx.ext ((Ext.refl _).alloc (.cells ((madeCells #[.bool false] n).setIfInBounds k (.bool true)) 4)))
    have HO0 := hide (h0.alloc (.cells ((madeCells #[.bool false] n).setIfInBounds k (.bool true)) 4))
    have HE0 := hide (hx1.alloc (.cells ((madeCells #[.bool false] n).setIfInBounds k (.bool true)) 4))
    have hz1 := hx1.size
    have hz2 : w.heap.size < w1.heap.size := hbx.lt
    clear hm0 hbx h0 hx1
    go_wp2_with (go_at_call 107; refine (l1In_c _ _ _ _).mono ?_; rintro e w' ⟨rfl, rfl⟩)
    clear hmk hge c1
    have HO1 : Hid (Own (w1.alloc (.cells ((madeCells #[.bool false] n).setIfInBounds k (.bool true)) 4)) w.heap.size 3 1 (some ⟨w.heap.size + 1, 0, none⟩) 0 0 []) := hide (by simpa using HO0.out)
    clear HO0
    refine wp_loopF 77 _ rfl rfl [1, 2, 6, 7, 10, 63, 64, 65, 66, 67, 68, 69, 70, 71, 72, 73, 74, 75, 76] rfl (fun fr wr => Ext w wr ∧ BoxAt wr w.heap.size 68 #[.slice A n d] ∧ Own wr w.heap.size 3 1 (some ⟨w.heap.size + 1, 0, none⟩) 0 0 [] ∧ ∃ (q : Nat) (ms : List Bool), q ≤ k + 1 ∧ (fr 8) = .int .i64 ((q : Int) - 1) ∧ Hid (dDown xss q ms = dMarks xss k ∧ ms.length = n) ∧ OwnM wr w.heap.size w1.heap.size n n ms) (fun fr wr => (intOf (fr 8) + 1).toNat) ?_ ?_
    · (exact ⟨HE0.out, HB0.out, HO1.out, k + 1, _, by omega, by first | rfl | (simp; done) | go_num, hide ⟨rfl, by simp [HL.out]⟩, HM0.out⟩)
    intro ks fr wr hkept hrel; (try dsimp only at hrel)
    change Code.wp _ _ _ ⟨#[fr 0, ks 1, ks 2, fr 3, fr 4, fr 5, ks 6, ks 7, fr 8, fr 9, ks 10, fr 11, fr 12, fr 13, fr 14, fr 15, fr 16, fr 17, fr 18, fr 19, fr 20, fr 21, fr 22, fr 23, fr 24, fr 25, fr 26, fr 27, fr 28, fr 29, fr 30, fr 31, fr 32, fr 33, fr 34, fr 35, fr 36, fr 37, fr 38, fr 39, fr 40, fr 41, fr 42, fr 43, fr 44, fr 45, fr 46, fr 47, fr 48, fr 49, fr 50, fr 51, fr 52, fr 53, fr 54, fr 55, fr 56, fr 57, fr 58, fr 59, fr 60, fr 61, fr 62, ks 63, ks 64, ks 65, ks 66, ks 67, ks 68, ks 69, ks 70, ks 71, ks 72, ks 73, ks 74, ks 75, ks 76], []⟩ wr
    simp only [KeptV, List.getD_cons_zero, List.getD_cons_succ] at hkept; obtain ⟨hk1, hk2, hk6, hk7, hk10, hk63, hk64, hk65, hk66, hk67, hk68, hk69, hk70, hk71, hk72, hk73, hk74, hk75, hk76, -⟩ := hkept
    generalize ks 1 = k1 at hk1 ⊢; subst hk1
    generalize ks 2 = k2 at hk2 ⊢; subst hk2
    generalize ks 6 = k6 at hk6 ⊢; subst hk6
    generalize ks 7 = k7 at hk7 ⊢; subst hk7
    generalize ks 10 = k10 at hk10 ⊢; subst hk10
    generalize ks 63 = k63 at hk63 ⊢; subst hk63
    generalize ks 64 = k64 at hk64 ⊢; subst hk64
    generalize ks 65 = k65 at hk65 ⊢; subst hk65
    generalize ks 66 = k66 at hk66 ⊢; subst hk66
    generalize ks 67 = k67 at hk67 ⊢; subst hk67
    generalize ks 68 = k68 at hk68 ⊢; subst hk68
    generalize ks 69 = k69 at hk69 ⊢; subst hk69
    generalize ks 70 = k70 at hk70 ⊢; subst hk70
    generalize ks 71 = k71 at hk71 ⊢; subst hk71
    generalize ks 72 = k72 at hk72 ⊢; subst hk72
    generalize ks 73 = k73 at hk73 ⊢; subst hk73
    generalize ks 74 = k74 at hk74 ⊢; subst hk74
    generalize ks 75 = k75 at hk75 ⊢; subst hk75
    generalize ks 76 = k76 at hk76 ⊢; subst hk76
    generalize fr 8 = s8 at hrel ⊢
    clear HE0 HB0 HO1 HM0
    obtain ⟨he, hb, ho, q, ms, hq, hs1, hM, hm⟩ := hrel
    subst hs1
    cases q with
    | zero =>
      have hms : ms = dMarks xss k := hM.out.1
      have hml : Hid (ms.length = n) := hide hM.out.2
      subst hms
      have HE := hide he
      have HO := hide ho
      have HM := hide hm
      clear he ho hm hb
      go_wp2_with fail
      refine wp_loopF 77 _ rfl rfl [1, 7, 76] rfl (fun fr wr => Ext w wr ∧ OwnM wr w.heap.size w1.heap.size n n (dMarks xss k) ∧ ∃ j : Nat, j ≤ k + 1 ∧ (fr 10) = .int .i64 j ∧ ∃ X N y, (fr 6) = .slice X N y ∧ N ≤ j ∧ Own wr w.heap.size 3 1 X N y ((pickAll (fun j => (dMarks xss k).getD j false) j).map (Value.int .i64))) (fun fr wr => k + 1 - (intOf (fr 10)).toNat) ?_ ?_
      · (exact ⟨HE.out, HM.out, 0, by omega, rfl, _, _, _, rfl, by omega, HO.out⟩)
      intro ks fr wr hkept hrel; (try dsimp only at hrel)
      change Code.wp _ _ _ ⟨#[fr 0, ks 1, fr 2, fr 3, fr 4, fr 5, fr 6, ks 7, fr 8, fr 9, fr 10, fr 11, fr 12, fr 13, fr 14, fr 15, fr 16, fr 17, fr 18, fr 19, fr 20, fr 21, fr 22, fr 23, fr 24, fr 25, fr 26, fr 27, fr 28, fr 29, fr 30, fr 31, fr 32, fr 33, fr 34, fr 35, fr 36, fr 37, fr 38, fr 39, fr 40, fr 41, fr 42, fr 43, fr 44, fr 45, fr 46, fr 47, fr 48, fr 49, fr 50, fr 51, fr 52, fr 53, fr 54, fr 55, fr 56, fr 57, fr 58, fr 59, fr 60, fr 61, fr 62, fr 63, fr 64, fr 65, fr 66, fr 67, fr 68, fr 69, fr 70, fr 71, fr 72, fr 73, fr 74, fr 75, ks 76], []⟩ wr
      simp only [KeptV, List.getD_cons_zero, List.getD_cons_succ] at hkept; obtain ⟨hk1, hk7, hk76, -⟩ := hkept
      generalize ks 1 = k1 at hk1 ⊢; subst hk1
      generalize ks 7 = k7 at hk7 ⊢; subst hk7
      generalize ks 76 = k76 at hk76 ⊢; subst hk76
      generalize fr 6 = s6 at hrel ⊢
      generalize fr 10 = s10 at hrel ⊢
      clear HE HO HM
      obtain ⟨he, hm, j, hj, hs1, X, N, yy, hs2, hN, ho⟩ := hrel
      subst hs1; subst hs2
      have hsz := he.size
      by_cases hlt : j < k + 1
      · have hjk : (j : Int) ≤ k := by omega
        obtain ⟨u, hud, hug⟩ := gets_bool (xs := dMarks xss k) (p := j) (by rw [hml.out]; omega)
        have dd := Own.cell hm (get_map_bool hug)
        clear hug
        cases u
        · have HH := hide (pickAll_miss (p := fun j => (dMarks xss k).getD j false) hud)
          have HE := hide he
          have HO := hide ho
          have HM := hide hm
          clear hud he ho hm
          go_wp2_with fail
          exact ⟨⟨(by (repeat (first | exact trivial | refine ⟨rfl, ?_⟩))), HE.out, HM.out, j + 1, by omega, by go_num, _, _, _, rfl, by omega, by rw [HH.out]; exact HO.out⟩, (by simp [intOf] <;> omega)⟩
        · have HH := hide (pickAll_hit (p := fun j => (dMarks xss k).getD j false) hud)
          clear hud
          go_wp2_with (at_builtin; refine wpList_app rfl _ _ _ _ rfl Try.underlying37 _ 1 8 info_int rfl (by decide) rfl ho 1 [.int .i64 (j : Int)] (by first | rfl | simp [go_sem]) rfl ?_ ?_ ?_ ?_ ?_; (intro u hu; simp at hu; first | (subst hu; rfl) | (rcases hu with rfl | rfl <;> rfl) | (rcases hu with rfl | rfl | rfl <;> rfl) | (rcases hu with rfl | rfl | rfl | rfl <;> rfl) | (rcases hu with rfl | rfl | rfl | rfl | rfl <;> rfl) | (rcases hu with rfl | rfl | rfl | rfl | rfl | rfl <;> rfl)); omega; omega; (first | omega | (simp; omega)); intro A' c' w' ho' hg' hb')
          have HE := hide (he.trans_own (Nat.le_refl _) ho hg')
          have HM : Hid (OwnM w' w.heap.size w1.heap.size n n (dMarks xss k)) := hide (Own.kept hm hg' (Own.ne_type hm ho (by decide)))
          have HO := hide ho'
          clear he ho hm ho' hg' hb'
          exact ⟨⟨(by (repeat (first | exact trivial | refine ⟨rfl, ?_⟩))), HE.out, HM.out, j + 1, by omega, by go_num, _, _, _, rfl, by omega, by rw [HH.out]; simpa using HO.out⟩, (by simp [intOf] <;> omega)⟩
      · obtain rfl : j = k + 1 := by omega
        go_wp2_with fail
        go_ret2
        exact ⟨_, _, _, rfl, ObI.of ho (by omega), he⟩
    | succ q =>
      have hqn : q < n := by omega
      obtain ⟨ad, c, B, m, y0, hAA, hx, hc0, hin⟩ := h.at_ hqn
      subst hAA
      have hpc : Hid (prd xss q = c) := hide (by unfold prd; rw [getD_of hx])
      have hpr : Hid (∀ p ∈ c, 0 ≤ p ∧ p < q) := hide (by have := HG.out q; rw [hpc.out] at this; exact this)
      have hml : Hid (ms.length = n) := hide hM.out.2
      have hmlen := hide hin.len
      have hmb := hin.bound
      have hqq : ((q + 1 : Nat) : Int) - 1 = (q : Int) := by omega
      rw [hqq]
      clear hqq
      obtain ⟨u, hud, hug⟩ := gets_bool (xs := ms) (p := q) (by rw [hml.out]; omega)
      have HUG := hide hug
      have dd := Own.cell hm (get_map_bool hug)
      have hst : Hid (dDown xss q (dStep xss ms q) = dMarks xss k) := hide hM.out.1
      cases u
      · have hst2 : Hid (dStep xss ms q = ms) := hide (by unfold dStep; rw [hud]; rfl)
        rw [hst2.out] at hst
        have HE := hide he
        have HB := hide hb
        have HO := hide ho
        have HM := hide hm
        clear hud hug hst2 he hb ho hm hM hpr hpc
        go_wp2_with fail
        refine wp_loopF 77 _ rfl rfl [1, 2, 6, 7, 8, 10, 33, 34, 35, 36, 63, 64, 65, 66, 67, 68, 69, 70, 71, 72, 73, 74, 75, 76] rfl (fun fr wr => Ext w wr ∧ BoxAt wr w.heap.size 68 #[.slice (some ad) n d] ∧ Own wr w.heap.size 3 1 (some ⟨w.heap.size + 1, 0, none⟩) 0 0 [] ∧ (fr 9) = .int .i64 0 ∧ OwnM wr w.heap.size w1.heap.size n n ms ∧ wr.cell? ⟨w1.heap.size, q, none⟩ = some (.bool false)) (fun fr wr => 0) ?_ ?_
        · (exact ⟨HE.out, HB.out, HO.out, rfl, HM.out, dd⟩)
        intro ks fr wr hkept hrel; (try dsimp only at hrel)
        change Code.wp _ _ _ ⟨#[fr 0, ks 1, ks 2, fr 3, fr 4, fr 5, ks 6, ks 7, ks 8, fr 9, ks 10, fr 11, fr 12, fr 13, fr 14, fr 15, fr 16, fr 17, fr 18, fr 19, fr 20, fr 21, fr 22, fr 23, fr 24, fr 25, fr 26, fr 27, fr 28, fr 29, fr 30, fr 31, fr 32, ks 33, ks 34, ks 35, ks 36, fr 37, fr 38, fr 39, fr 40, fr 41, fr 42, fr 43, fr 44, fr 45, fr 46, fr 47, fr 48, fr 49, fr 50, fr 51, fr 52, fr 53, fr 54, fr 55, fr 56, fr 57, fr 58, fr 59, fr 60, fr 61, fr 62, ks 63, ks 64, ks 65, ks 66, ks 67, ks 68, ks 69, ks 70, ks 71, ks 72, ks 73, ks 74, ks 75, ks 76], []⟩ wr
        simp only [KeptV, List.getD_cons_zero, List.getD_cons_succ] at hkept; obtain ⟨hk1, hk2, hk6, hk7, hk8, hk10, hk33, hk34, hk35, hk36, hk63, hk64, hk65, hk66, hk67, hk68, hk69, hk70, hk71, hk72, hk73, hk74, hk75, hk76, -⟩ := hkept
        generalize ks 1 = k1 at hk1 ⊢; subst hk1
        generalize ks 2 = k2 at hk2 ⊢; subst hk2
        generalize ks 6 = k6 at hk6 ⊢; subst hk6
        generalize ks 7 = k7 at hk7 ⊢; subst hk7
        generalize ks 8 = k8 at hk8 ⊢; subst hk8
        generalize ks 10 = k10 at hk10 ⊢; subst hk10
        generalize ks 33 = k33 at hk33 ⊢; subst hk33
        generalize ks 34 = k34 at hk34 ⊢; subst hk34
        generalize ks 35 = k35 at hk35 ⊢; subst hk35
        generalize ks 36 = k36 at hk36 ⊢; subst hk36
        generalize ks 63 = k63 at hk63 ⊢; subst hk63
        generalize ks 64 = k64 at hk64 ⊢; subst hk64
        generalize ks 65 = k65 at hk65 ⊢; subst hk65
        generalize ks 66 = k66 at hk66 ⊢; subst hk66
        generalize ks 67 = k67 at hk67 ⊢; subst hk67
        generalize ks 68 = k68 at hk68 ⊢; subst hk68
        generalize ks 69 = k69 at hk69 ⊢; subst hk69
        generalize ks 70 = k70 at hk70 ⊢; subst hk70
        generalize ks 71 = k71 at hk71 ⊢; subst hk71
        generalize ks 72 = k72 at hk72 ⊢; subst hk72
        generalize ks 73 = k73 at hk73 ⊢; subst hk73
        generalize ks 74 = k74 at hk74 ⊢; subst hk74
        generalize ks 75 = k75 at hk75 ⊢; subst hk75
        generalize ks 76 = k76 at hk76 ⊢; subst hk76
        generalize fr 9 = s9 at hrel ⊢
        clear HE HB HO HM dd
        obtain ⟨he, hb, ho, hs1, hm, dd⟩ := hrel
        subst hs1
        have d0 := hb.cell 0 _ rfl
        have d1 := he.cell hc0
        have HE := hide he
        have HB := hide hb
        have HO := hide ho
        have HM := hide hm
        clear he hb ho hm
        rcases Nat.eq_zero_or_pos m with hz | hz
        · subst hz
          go_wp2_with fail
          exact ⟨⟨(by (repeat (first | exact trivial | refine ⟨rfl, ?_⟩))), HE.out, HB.out, HO.out, q, ms, by omega, by go_num, hide ⟨hst.out, hml.out⟩, HM.out⟩, (by simp [intOf] <;> omega)⟩
        · have hz' : (0 : Int) < (m : Int) := by omega
          go_wp2_with fail
          exact ⟨⟨(by (repeat (first | exact trivial | refine ⟨rfl, ?_⟩))), HE.out, HB.out, HO.out, q, ms, by omega, by go_num, hide ⟨hst.out, hml.out⟩, HM.out⟩, (by simp [intOf] <;> omega)⟩
      · have hst2 : Hid (dStep xss ms q = setT ms c) := hide (by unfold dStep; rw [hud, hpc.out]; rfl)
        rw [hst2.out] at hst
        have HE := hide he
        have HB := hide hb
        have HO := hide ho
        have HM := hide hm
        clear hud hug hst2 he hb ho hm hM hpc dd
        go_wp2_with fail
        refine wp_loopF 77 _ rfl rfl [1, 2, 6, 7, 8, 10, 33, 34, 35, 36, 63, 64, 65, 66, 67, 68, 69, 70, 71, 72, 73, 74, 75, 76] rfl (fun fr wr => Ext w wr ∧ BoxAt wr w.heap.size 68 #[.slice (some ad) n d] ∧ Own wr w.heap.size 3 1 (some ⟨w.heap.size + 1, 0, none⟩) 0 0 [] ∧ ∃ p : Nat, p ≤ m ∧ (fr 9) = .int .i64 p ∧ OwnM wr w.heap.size w1.heap.size n n (setT ms (c.take p))) (fun fr wr => m - (intOf (fr 9)).toNat) ?_ ?_
        · (exact ⟨HE.out, HB.out, HO.out, 0, by omega, rfl, HM.out⟩)
        intro ks fr wr hkept hrel; (try dsimp only at hrel)
        change Code.wp _ _ _ ⟨#[fr 0, ks 1, ks 2, fr 3, fr 4, fr 5, ks 6, ks 7, ks 8, fr 9, ks 10, fr 11, fr 12, fr 13, fr 14, fr 15, fr 16, fr 17, fr 18, fr 19, fr 20, fr 21, fr 22, fr 23, fr 24, fr 25, fr 26, fr 27, fr 28, fr 29, fr 30, fr 31, fr 32, ks 33, ks 34, ks 35, ks 36, fr 37, fr 38, fr 39, fr 40, fr 41, fr 42, fr 43, fr 44, fr 45, fr 46, fr 47, fr 48, fr 49, fr 50, fr 51, fr 52, fr 53, fr 54, fr 55, fr 56, fr 57, fr 58, fr 59, fr 60, fr 61, fr 62, ks 63, ks 64, ks 65, ks 66, ks 67, ks 68, ks 69, ks 70, ks 71, ks 72, ks 73, ks 74, ks 75, ks 76], []⟩ wr
        simp only [KeptV, List.getD_cons_zero, List.getD_cons_succ] at hkept; obtain ⟨hk1, hk2, hk6, hk7, hk8, hk10, hk33, hk34, hk35, hk36, hk63, hk64, hk65, hk66, hk67, hk68, hk69, hk70, hk71, hk72, hk73, hk74, hk75, hk76, -⟩ := hkept
        generalize ks 1 = k1 at hk1 ⊢; subst hk1
        generalize ks 2 = k2 at hk2 ⊢; subst hk2
        generalize ks 6 = k6 at hk6 ⊢; subst hk6
        generalize ks 7 = k7 at hk7 ⊢; subst hk7
        generalize ks 8 = k8 at hk8 ⊢; subst hk8
        generalize ks 10 = k10 at hk10 ⊢; subst hk10
        generalize ks 33 = k33 at hk33 ⊢; subst hk33
        generalize ks 34 = k34 at hk34 ⊢; subst hk34
        generalize ks 35 = k35 at hk35 ⊢; subst hk35
        generalize ks 36 = k36 at hk36 ⊢; subst hk36
        generalize ks 63 = k63 at hk63 ⊢; subst hk63
        generalize ks 64 = k64 at hk64 ⊢; subst hk64
        generalize ks 65 = k65 at hk65 ⊢; subst hk65
        generalize ks 66 = k66 at hk66 ⊢; subst hk66
        generalize ks 67 = k67 at hk67 ⊢; subst hk67
        generalize ks 68 = k68 at hk68 ⊢; subst hk68
        generalize ks 69 = k69 at hk69 ⊢; subst hk69
        generalize ks 70 = k70 at hk70 ⊢; subst hk70
        generalize ks 71 = k71 at hk71 ⊢; subst hk71
        generalize ks 72 = k72 at hk72 ⊢; subst hk72
        generalize ks 73 = k73 at hk73 ⊢; subst hk73
        generalize ks 74 = k74 at hk74 ⊢; subst hk74
        generalize ks 75 = k75 at hk75 ⊢; subst hk75
        generalize ks 76 = k76 at hk76 ⊢; subst hk76
        generalize fr 9 = s9 at hrel ⊢
        clear HE HB HO HM
        obtain ⟨he, hb, ho, p, hp, hs1, hm⟩ := hrel
        subst hs1
        have d0 := hb.cell 0 _ rfl
        have d1 := he.cell hc0
        have dd := Own.cell hm (get_map_bool (setT_keeps (ks := c.take p) HUG.out))
        by_cases hlp : p < m
        · obtain ⟨ad2, z, rfl, hz, hzc⟩ := (hin.ext he).at_ hlp
          have hzr := hpr.out z (List.mem_of_getElem? hz.out)
          obtain ⟨t, rfl⟩ : ∃ t : Nat, z = (t : Int) := ⟨z.toNat, by omega⟩
          have hT := hide (setT_take (m := ms) hz)
          simp only [Int.toNat_natCast] at hT
          obtain ⟨v, hvd, hvg⟩ := gets_bool (xs := setT ms (c.take p)) (p := t) (by rw [setT_length, hml.out]; omega)
          have dq := Own.cell hm (get_map_bool hvg)
          have fq := Own.frozen hm t
          have hm1 : OwnM (wr.setCell ⟨w1.heap.size, t, none⟩ (.bool true)) w.heap.size w1.heap.size n n (setT ms (c.take (p + 1))) := by
            have h1 := Own.store hm t (.bool true)
            rw [set_map_bool, ← hT.out] at h1
            exact h1
          have HM := hide hm1
          have HB := hide (hb.setOther (p := ⟨w1.heap.size, t, none⟩) (by simp only []; omega) (.bool true))
          have HO := hide (ho.storeOther (p := ⟨w1.heap.size, t, none⟩) (.bool true) (by have h1 := ho.ne_type hm (by decide); simpa [Value.ownBlock] using h1))
          have HE := hide (he.setCell (p := ⟨w1.heap.size, t, none⟩) hz1 (.bool true))
          clear hm hm1 hb ho he hvd hvg hz
          go_wp2_with fail
          exact ⟨⟨(by (repeat (first | exact trivial | refine ⟨rfl, ?_⟩))), HE.out, HB.out, HO.out, p + 1, by omega, by go_num, HM.out⟩, (by simp [intOf] <;> omega)⟩
        · obtain rfl : p = m := by omega
          rw [setT_all (by rw [hmlen.out]; exact Nat.le_refl _)] at hm
          have HE := hide he
          have HB := hide hb
          have HO := hide ho
          have HM := hide hm
          clear he hb ho hm
          go_wp2_with fail
          exact ⟨⟨(by (repeat (first | exact trivial | refine ⟨rfl, ?_⟩))), HE.out, HB.out, HO.out, q, _, by omega, by go_num, hide ⟨hst.out, by rw [setT_length]; exact hml.out⟩, HM.out⟩, (by simp [intOf] <;> omega)⟩
set_option maxHeartbeats 1600000 in
theorem impl_NodesUnder_o (x : Int) (A : Option Addr) (n d : Nat) (xss : List (List Int)) (w : World) (h : Intss w A n xss) :
    Calls Try.prog 56 #[.agg #[.slice A n d], .int .i64 x] w fun e w' =>
      ∃ A' n' c', e = .returned (.tuple #[.slice A' n' c', .bool (undOk xss x)]) ∧ ObI 3 w' w.heap.size w'.heap.size A' n' c' (if undOk xss x then pickAll (und xss x.toNat).testBit 10 else []) ∧ Ext w w' := by
  have hb := h.bound
  have HL := hide h.len
  cases hq : undOk xss x
  · simp only [Bool.false_eq_true, if_false]
    rcases and2_false hq with h1 | ⟨h1, h2⟩ <;> clear hq
    · have HD := hide h1
      clear h1
      go_enter Try.func56, Try.ntmps56
      go_wp2_with (go_at_call 108; refine (impl_IsDag_c _ _ _ xss _ (h.ext (by (repeat (first | with_reducible exact Ext.refl _ | with_reducible assumption | ((with_reducible refine Ext.setCell ?_ ?_ _); rotate_left; focus (first | omega | (simp <;> omega))) | with_reducible refine Ext.alloc ?_ _ | with_reducible refine Ext.drewN ?_ _ | with_reducible refine Ext.drew ?_ | with_reducible refine Ext.trans ?_ (by with_reducible assumption)))))).mono ?_; rw [HD.out]; rintro e w1 ⟨rfl, he⟩)
      go_ret2
      exact ⟨_, _, _, rfl, ObI.nil, by (repeat (first | with_reducible exact Ext.refl _ | with_reducible assumption | ((with_reducible refine Ext.setCell ?_ ?_ _); rotate_left; focus (first | omega | (simp <;> omega))) | with_reducible refine Ext.alloc ?_ _ | with_reducible refine Ext.drewN ?_ _ | with_reducible refine Ext.drew ?_ | with_reducible refine Ext.trans ?_ (by with_reducible assumption)))⟩
    · have hn10 : n ≤ 10 := by have := dagOk_len h1; have := HL.out; omega
      have HD := hide h1
      have h2' : within x 0 ((n : Int) - 1) = false := by rw [HL.out]; exact h2
      clear h1 h2
      go_enter Try.func56, Try.ntmps56
      go_wp2_with (first | (go_at_call 108; refine (impl_IsDag_c _ _ _ xss _ (h.ext (by (repeat (first | with_reducible exact Ext.refl _ | with_reducible assumption | ((with_reducible refine Ext.setCell ?_ ?_ _); rotate_left; focus (first | omega | (simp <;> omega))) | with_reducible refine Ext.alloc ?_ _ | with_reducible refine Ext.drewN ?_ _ | with_reducible refine Ext.drew ?_ | with_reducible refine Ext.trans ?_ (by with_reducible assumption)))))).mono ?_; rw [HD.out]; rintro e w1 ⟨rfl, he⟩; have c1 := he.cell (p := ⟨w.heap.size, 0, none⟩) (u := .slice A n d) (by simp [go_sem])) | (go_at_call 109; refine (within_c _ _ _ _).mono ?_; rintro e w' ⟨rfl, rfl⟩))
      go_ret2
      exact ⟨_, _, _, rfl, ObI.nil, by (repeat (first | with_reducible exact Ext.refl _ | with_reducible assumption | ((with_reducible refine Ext.setCell ?_ ?_ _); rotate_left; focus (first | omega | (simp <;> omega))) | with_reducible refine Ext.alloc ?_ _ | with_reducible refine Ext.drewN ?_ _ | with_reducible refine Ext.drew ?_ | with_reducible refine Ext.trans ?_ (by with_reducible assumption)))⟩
  · simp only [if_true]
    obtain ⟨h1, h2⟩ := and2_true hq
    have hn10 : n ≤ 10 := by have := dagOk_len h1; have := HL.out; omega
    have h3 := within_true h2
    obtain ⟨k, rfl⟩ := int_nat h3.1
    have hk : k < n := by have := HL.out; omega
    have hus := und_small (dag_good h1) (x := k) (by omega)
    have h2' : within (k : Int) 0 ((n : Int) - 1) = true := by rw [HL.out]; exact h2
    simp only [Int.toNat_natCast]
    have HC := hide (fun W (kk : Intss W A n xss) => under_c xss h1 k (by have := HL.out; omega) A n d W kk)
    have HD := hide h1
    generalize und xss k = u at *
    clear h1 h2 h3 hq
    go_enter Try.func56, Try.ntmps56
    go_wp2_with (first | (go_at_call 108; refine (impl_IsDag_c _ _ _ xss _ (h.ext (by (repeat (first | with_reducible exact Ext.refl _ | with_reducible assumption | ((with_reducible refine Ext.setCell ?_ ?_ _); rotate_left; focus (first | omega | (simp <;> omega))) | with_reducible refine Ext.alloc ?_ _ | with_reducible refine Ext.drewN ?_ _ | with_reducible refine Ext.drew ?_ | with_reducible refine Ext.trans ?_ (by with_reducible assumption)))))).mono ?_; rw [HD.out]; rintro e w1 ⟨rfl, he⟩; have c1 := he.cell (p := ⟨w.heap.size, 0, none⟩) (u := .slice A n d) (by simp [go_sem])) | (go_at_call 109; refine (within_c _ _ _ _).mono ?_; rintro e w' ⟨rfl, rfl⟩) | (go_at_call 110; refine (HC.out _ (h.ext (by (repeat (first | with_reducible exact Ext.refl _ | with_reducible assumption | ((with_reducible refine Ext.setCell ?_ ?_ _); rotate_left; focus (first | omega | (simp <;> omega))) | with_reducible refine Ext.alloc ?_ _ | with_reducible refine Ext.drewN ?_ _ | with_reducible refine Ext.drew ?_ | with_reducible refine Ext.trans ?_ (by with_reducible assumption)))))).mono ?_; rintro e w2 ⟨rfl, he2⟩) | (go_at_call 111; refine (list_c u _ hus).mono ?_; rintro e w3 ⟨A', n', c', rfl, hn', ho, he3⟩))
    go_ret2
    have he5 : Ext w w2 := by (repeat (first | with_reducible exact Ext.refl _ | with_reducible assumption | ((with_reducible refine Ext.setCell ?_ ?_ _); rotate_left; focus (first | omega | (simp <;> omega))) | with_reducible refine Ext.alloc ?_ _ | with_reducible refine Ext.drewN ?_ _ | with_reducible refine Ext.drew ?_ | with_reducible refine Ext.trans ?_ (by with_reducible assumption)))
    exact ⟨_, _, _, rfl, ObI.of (ho.lower he5.size) (by omega), by (repeat (first | with_reducible exact Ext.refl _ | with_reducible assumption | ((with_reducible refine Ext.setCell ?_ ?_ _); rotate_left; focus (first | omega | (simp <;> omega))) | with_reducible refine Ext.alloc ?_ _ | with_reducible refine Ext.drewN ?_ _ | with_reducible refine Ext.drew ?_ | with_reducible refine Ext.trans ?_ (by with_reducible assumption)))⟩
end Go.Proofs.Ytcbjaomjamfjcaa
