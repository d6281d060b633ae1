/-
  IsProverTable.
-/
import Derived.Test.YtmpfhibncnamnaaC55
namespace Go.Proofs.Ytmpfhibncnamnaa
set_option linter.unusedSimpArgs false
set_option linter.unusedVariables false
open Go.RowKit

def pOk (n : Nat) (cls : List (List Int)) (tb : List Int) (c : Nat) : Bool := falseAny cls (codeLits n 1 c) || (opens n c).any (fun v => decide (ptsT tb c v ≤ tb.getD c 0))
def isProv (v : Int) (cls : List (List Int)) (tb : List Int) : Bool := tblOk v cls tb && (List.range tb.length).all (pOk v.toNat cls tb)
theorem opens_any (n c : Nat) (q : Nat → Bool) : (opens n c).any q = (varsTo n).any (fun v => openAt c v && q v) := by
  rw [opens, List.any_filter]
theorem any_take_get {p : Nat → Bool} {vs : List Nat} {i v : Nat} (hv : Hid (vs[i]? = some v)) (h : Hid ((vs.take i).any p = false)) (hp : p v = false) : Hid ((vs.take (i + 1)).any p = false) := by
  unfold Hid; rw [take_succ_of hv, List.any_append, h.out]; simp [hp]
theorem any_get_true {p : Nat → Bool} {vs : List Nat} {i v : Nat} (hv : Hid (vs[i]? = some v)) (hp : p v = true) : Hid ((vs.take (i + 1)).any p = true) := by
  unfold Hid; rw [take_succ_of hv, List.any_append]; simp [hp]
theorem any_take_true {p : Nat → Bool} {vs : List Nat} {i : Nat} (h : (vs.take i).any p = true) : vs.any p = true := by
  rw [List.any_eq_true] at h ⊢
  obtain ⟨v, hv, hp⟩ := h
  exact ⟨v, List.mem_of_mem_take hv, hp⟩
set_option maxRecDepth 100000 in
set_option maxHeartbeats 4000000 in
theorem spec_IsProverTable_c (v : Int) (A : Option Addr) (n d : Nat) (cls : List (List Int)) (B : Option Addr) (m q : Nat) (tb : List Int) (w : World) (h : Intss w A n cls) (k : Ints w B m tb) :
    Calls Try.prog 35 #[.agg #[.int .i64 v, .slice A n d], .slice B m q] w fun e w' => e = .returned (.tuple #[.bool (isProv v cls tb), .bool (tblOk v cls tb)]) ∧ Ext w w' := by
  have hb := k.bound
  have HL := hide k.len
  unfold isProv
  cases h1 : tblOk v cls tb
  · go_enter Try.func35, Try.ntmps35
    go_wp2_with fail
    refine (l12Table_c _ _ _ _ cls _ _ _ tb _ (h.ext (by (repeat (first | with_reducible exact Ext.refl _ | with_reducible assumption | ((with_reducible refine Ext.setCell ?_ ?_ _); rotate_left; focus (first | omega | (simp <;> omega))) | with_reducible refine Ext.alloc ?_ _ | with_reducible refine Ext.drewN ?_ _ | with_reducible refine Ext.drew ?_ | with_reducible refine Ext.trans ?_ (by with_reducible assumption))))) (k.ext (by (repeat (first | with_reducible exact Ext.refl _ | with_reducible assumption | ((with_reducible refine Ext.setCell ?_ ?_ _); rotate_left; focus (first | omega | (simp <;> omega))) | with_reducible refine Ext.alloc ?_ _ | with_reducible refine Ext.drewN ?_ _ | with_reducible refine Ext.drew ?_ | with_reducible refine Ext.trans ?_ (by with_reducible assumption)))))).mono ?_
    rw [h1]
    rintro e w1 ⟨rfl, he⟩
    go_wp2
    go_ret2; exact ⟨rfl, by (repeat (first | with_reducible exact Ext.refl _ | with_reducible assumption | ((with_reducible refine Ext.setCell ?_ ?_ _); rotate_left; focus (first | omega | (simp <;> omega))) | with_reducible refine Ext.alloc ?_ _ | with_reducible refine Ext.drewN ?_ _ | with_reducible refine Ext.drew ?_ | with_reducible refine Ext.trans ?_ (by with_reducible assumption)))⟩
  obtain ⟨ht, h2⟩ := and2_true h1
  obtain ⟨hc, hv, _⟩ := takes_facts ht
  have HC := hide (fun c hcc => (cnf_lits hc c hcc).2)
  obtain ⟨u, rfl⟩ := int_nat hv.1
  rw [show ((u : Int)).toNat = u by omega] at h2 ⊢
  have hu : u ≤ 6 := by omega
  obtain ⟨h3, _⟩ := and2_true h2
  rw [← HL.out] at h3 ⊢
  have hmN : m = pow3 u := by simpa using h3
  have hN6 : m ≤ 729 := by rw [hmN]; have := pow3_mono hu; have h6 : pow3 6 = 729 := rfl; omega
  have HN := hide hmN
  have H1 := hide h1
  rw [Bool.true_and]
  obtain ⟨r, hr⟩ : ∃ r, (List.range m).all (pOk u cls tb) = r := ⟨_, rfl⟩
  rw [hr]
  have HR := hide hr
  clear hr h1 h2 h3 ht hc hmN
  obtain ⟨W1, hW1⟩ : ∃ W, W = w.alloc (.cells #[.int .i64 u, .slice A n d] 28) := ⟨_, rfl⟩
  have e1 : Ext w W1 := by rw [hW1]; exact (Ext.refl w).alloc _
  have b0 : W1.cell? ⟨w.heap.size, 0, none⟩ = some (.int .i64 u) := by rw [hW1]; exact (BoxAt.made w _ _).cell 0 _ rfl
  have b1 : W1.cell? ⟨w.heap.size, 1, none⟩ = some (.slice A n d) := by rw [hW1]; exact (BoxAt.made w _ _).cell 1 _ rfl
  go_enter Try.func35, Try.ntmps35
  go_wp2_with fail
  rw [← hW1]
  clear hW1
  refine (l12Table_c _ _ _ _ cls _ _ _ tb _ (h.ext e1) (k.ext e1)).mono ?_
  rw [H1.out]
  rintro e w1 ⟨rfl, he⟩
  go_wp2_with fail
  refine wp_loopF 64 _ rfl rfl [1, 2] rfl (fun fr wr => Ext W1 wr ∧ ∃ i : Nat, i ≤ m ∧ (fr 6) = .int .i64 i ∧ Hid ((List.range i).all (pOk u cls tb) = true)) (fun fr wr => m - (intOf (fr 6)).toNat) ?_ ?_
  · (exact ⟨he, 0, by omega, rfl, by simp [Hid]⟩)
  intro ks fr wr hkept hrel; (try dsimp only at hrel)
  change Code.wp _ _ _ ⟨#[fr 0, ks 1, ks 2, fr 3, fr 4, fr 5, fr 6, fr 7, fr 8, fr 9, fr 10, fr 11, fr 12, fr 13, fr 14, fr 15, fr 16, fr 17, fr 18, fr 19, fr 20, fr 21, fr 22, fr 23, fr 24, fr 25, fr 26, fr 27, fr 28, fr 29, fr 30, fr 31, fr 32, fr 33, fr 34, fr 35, fr 36, fr 37, fr 38, fr 39, fr 40, fr 41, fr 42, fr 43, fr 44, fr 45, fr 46, fr 47, fr 48, fr 49, fr 50, fr 51, fr 52, fr 53, fr 54, fr 55, fr 56, fr 57, fr 58, fr 59, fr 60, fr 61, fr 62, fr 63], []⟩ wr
  simp only [KeptV, List.getD_cons_zero, List.getD_cons_succ] at hkept; obtain ⟨hk1, hk2, -⟩ := hkept
  generalize ks 1 = k1 at hk1 ⊢; subst hk1
  generalize ks 2 = k2 at hk2 ⊢; subst hk2
  generalize fr 6 = s6 at hrel ⊢
  clear he
  obtain ⟨he, c, hci, hs1, hq⟩ := hrel
  subst hs1
  have c0 := he.cell b0
  have c1 := he.cell b1
  by_cases hlt : c < m
  · obtain ⟨ad, x, rfl, hx, hcx⟩ := (k.ext (e1.trans he)).at_ hlt
    have hgx : tb.getD c 0 = x := getD_of hx
    have hcn : c < pow3 u := by rw [← HN.out]; exact hlt
    have hdk : pOk u cls tb c = (falseAny cls (codeLits u 1 c) || (varsTo u).any (fun v => openAt c v && decide (ptsT tb c v ≤ x))) := by unfold pOk; rw [hgx, opens_any]
    have hed := (Ext.refl wr).drew
    obtain ⟨fa, hfa⟩ : ∃ fa, falseAny cls (codeLits u 1 c) = fa := ⟨_, rfl⟩
    rw [hfa] at hdk
    have HF := hide hfa
    have HDK := hide hdk
    clear hfa hdk hgx
    go_wp2_with fail
    go_region_held3 (fun w' => w'.cell? ⟨w.heap.size, 0, none⟩ = some (.int .i64 u) ∧ w'.cell? ⟨w.heap.size, 1, none⟩ = some (.slice A n d)) (simp [go_sem, *]) (first | (go_at_call 65; refine (l12Of_c u c _ hu (by omega)).mono ?_; rintro e w4 ⟨X1, y1, z1', rfl, ho1, hy1, he4⟩; have ew4 : Ext wr w4 := (by (repeat (first | with_reducible exact Ext.refl _ | with_reducible assumption | ((with_reducible refine Ext.setCell ?_ ?_ _); rotate_left; focus (first | omega | (simp <;> omega))) | with_reducible refine Ext.alloc ?_ _ | with_reducible refine Ext.drewN ?_ _ | with_reducible refine Ext.drew ?_ | with_reducible refine Ext.trans ?_ (by with_reducible assumption)))); have j0 := ew4.cell c0; have j1 := ew4.cell c1) | (go_at_call 64; refine (l12False_c u A n d cls X1 y1 z1' (codeLits u 1 c) _ (h.ext (by (repeat (first | with_reducible exact Ext.refl _ | with_reducible assumption | ((with_reducible refine Ext.setCell ?_ ?_ _); rotate_left; focus (first | omega | (simp <;> omega))) | with_reducible refine Ext.alloc ?_ _ | with_reducible refine Ext.drewN ?_ _ | with_reducible refine Ext.drew ?_ | with_reducible refine Ext.trans ?_ (by with_reducible assumption))))) ((ho1.ints (by omega)).ext (by (repeat (first | with_reducible exact Ext.refl _ | with_reducible assumption | ((with_reducible refine Ext.setCell ?_ ?_ _); rotate_left; focus (first | omega | (simp <;> omega))) | with_reducible refine Ext.alloc ?_ _ | with_reducible refine Ext.drewN ?_ _ | with_reducible refine Ext.drew ?_ | with_reducible refine Ext.trans ?_ (by with_reducible assumption))))) HC.out).mono ?_; rw [HF.out]; rintro e w5 ⟨rfl, he5⟩; have ew5 : Ext wr w5 := (by (repeat (first | with_reducible exact Ext.refl _ | with_reducible assumption | ((with_reducible refine Ext.setCell ?_ ?_ _); rotate_left; focus (first | omega | (simp <;> omega))) | with_reducible refine Ext.alloc ?_ _ | with_reducible refine Ext.drewN ?_ _ | with_reducible refine Ext.drew ?_ | with_reducible refine Ext.trans ?_ (by with_reducible assumption)))); have j0 := ew5.cell c0; have j1 := ew5.cell c1))
    go_wp2_with fail
    have hE2 := he.trans ew5
    clear c0 c1
    refine wp_loopF 64 _ rfl rfl [1, 2, 4, 6, 16, 17, 18, 19, 20, 21, 22, 23, 24, 25, 26, 27, 62, 63] rfl (fun fr wr => Ext W1 wr ∧ ∃ j : Nat, j ≤ u ∧ (fr 8) = .int .i64 ((j + 1 : Nat) : Int) ∧ ∃ gd, (fr 7) = .bool gd ∧ Hid (gd = (fa || ((varsTo u).take j).any (fun v => openAt c v && decide (ptsT tb c v ≤ x))))) (fun fr wr => u + 1 - (intOf (fr 8)).toNat) ?_ ?_
    · (exact ⟨hE2, 0, by omega, by go_num, fa, rfl, by simp [Hid]⟩)
    intro ks fr wr hkept hrel; (try dsimp only at hrel)
    change Code.wp _ _ _ ⟨#[fr 0, ks 1, ks 2, fr 3, ks 4, fr 5, ks 6, fr 7, fr 8, fr 9, fr 10, fr 11, fr 12, fr 13, fr 14, fr 15, ks 16, ks 17, ks 18, ks 19, ks 20, ks 21, ks 22, ks 23, ks 24, ks 25, ks 26, ks 27, fr 28, fr 29, fr 30, fr 31, fr 32, fr 33, fr 34, fr 35, fr 36, fr 37, fr 38, fr 39, fr 40, fr 41, fr 42, fr 43, fr 44, fr 45, fr 46, fr 47, fr 48, fr 49, fr 50, fr 51, fr 52, fr 53, fr 54, fr 55, fr 56, fr 57, fr 58, fr 59, fr 60, fr 61, ks 62, ks 63], []⟩ wr
    simp only [KeptV, List.getD_cons_zero, List.getD_cons_succ] at hkept; obtain ⟨hk1, hk2, hk4, hk6, hk16, hk17, hk18, hk19, hk20, hk21, hk22, hk23, hk24, hk25, hk26, hk27, hk62, hk63, -⟩ := hkept
    generalize ks 1 = k1 at hk1 ⊢; subst hk1
    generalize ks 2 = k2 at hk2 ⊢; subst hk2
    generalize ks 4 = k4 at hk4 ⊢; subst hk4
    generalize ks 6 = k6 at hk6 ⊢; subst hk6
    generalize ks 16 = k16 at hk16 ⊢; subst hk16
    generalize ks 17 = k17 at hk17 ⊢; subst hk17
    generalize ks 18 = k18 at hk18 ⊢; subst hk18
    generalize ks 19 = k19 at hk19 ⊢; subst hk19
    generalize ks 20 = k20 at hk20 ⊢; subst hk20
    generalize ks 21 = k21 at hk21 ⊢; subst hk21
    generalize ks 22 = k22 at hk22 ⊢; subst hk22
    generalize ks 23 = k23 at hk23 ⊢; subst hk23
    generalize ks 24 = k24 at hk24 ⊢; subst hk24
    generalize ks 25 = k25 at hk25 ⊢; subst hk25
    generalize ks 26 = k26 at hk26 ⊢; subst hk26
    generalize ks 27 = k27 at hk27 ⊢; subst hk27
    generalize ks 62 = k62 at hk62 ⊢; subst hk62
    generalize ks 63 = k63 at hk63 ⊢; subst hk63
    generalize fr 7 = s7 at hrel ⊢
    generalize fr 8 = s8 at hrel ⊢
    clear hE2
    obtain ⟨hE, j, hj, hs2, gd, hs3, hgd⟩ := hrel
    subst hs2; subst hs3
    have c0 := hE.cell b0
    cases gd
    · have hgd2 := hgd.out.symm
      rw [Bool.or_eq_false_iff] at hgd2
      obtain ⟨hfa0, hqj0⟩ := hgd2
      have hqj := hide hqj0
      subst hfa0
      clear hqj0
      by_cases hlt2 : j < u
      · have HA := hide (fun W => l12After_c c j W (by omega) (by omega))
        have hvj := hide (varsTo_get hlt2)
        cases hop : openAt c (j + 1)
        · have hq3 := any_take_get hvj hqj (by simp [hop])
          have hq4 : Hid (false = (false || ((varsTo u).take (j + 1)).any (fun v => openAt c v && decide (ptsT tb c v ≤ x)))) := hide (by rw [hq3.out]; rfl)
          rw [hop] at HA
          clear hop
          go_wp2_with fail
          refine (HA.out _).mono ?_
          rintro e w6 ⟨rfl, he6⟩
          go_wp2_with fail
          go_quiet (fail)
          go_wp2_with fail
          exact ⟨⟨(by (repeat (first | exact trivial | refine ⟨rfl, ?_⟩))), by (repeat (first | with_reducible exact Ext.refl _ | with_reducible assumption | ((with_reducible refine Ext.setCell ?_ ?_ _); rotate_left; focus (first | omega | (simp <;> omega))) | with_reducible refine Ext.alloc ?_ _ | with_reducible refine Ext.drewN ?_ _ | with_reducible refine Ext.drew ?_ | with_reducible refine Ext.trans ?_ (by with_reducible assumption))), j + 1, by omega, by go_num, false, rfl, hq4⟩, (by simp [intOf] <;> omega)⟩
        · have hcodes := open_codes (n := u) hcn (v := j + 1) ⟨by omega, by omega⟩ hop
          rw [← HN.out] at hcodes
          have hp3 : pow3 j ≤ 729 := by have := pow3_mono (show j ≤ 6 by omega); have h6 : pow3 6 = 729 := rfl; omega
          have hge1 : gNo c (j + 1) = c + pow3 j := rfl
          have hge2 : gYes c (j + 1) = c + 2 * pow3 j := rfl
          have hpt : ptsT tb c (j + 1) = gPts (tb.getD (c + pow3 j) 0) (tb.getD (c + 2 * pow3 j) 0) := rfl
          rw [hge1, hge2] at HA hcodes
          have hK := k.ext (e1.trans hE)
          obtain ⟨ad1, s1, ee1, hs1x, hcs1⟩ := hK.at_ (k := c + pow3 j) (by omega)
          obtain ⟨ad2, s2, ee2, hs2x, hcs2⟩ := hK.at_ (k := c + 2 * pow3 j) (by omega)
          injection ee1 with ee1; subst ee1
          injection ee2 with ee2; subst ee2
          obtain ⟨ad3, x', ee3, hx3, hcx3⟩ := hK.at_ hlt
          injection ee3 with ee3; subst ee3
          have hxx : x' = x := by have a1 := hx3.out; have a2 := hx.out; rw [a1] at a2; injection a2
          subst hxx
          rw [getD_of hs1x, getD_of hs2x] at hpt
          have hfun : ∀ b : Bool, decide (ptsT tb c (j + 1) ≤ x') = b → (fun v => openAt c v && decide (ptsT tb c v ≤ x')) (j + 1) = b := by intro b hbb; simp [hop, hbb]
          rw [hpt] at hfun
          rw [hop] at HA
          clear hop hge1 hge2 hpt hs1x hs2x hx3 hK
          generalize pow3 j = p at *
          have HPt := hide (fun W => l12Points_c s1 s2 W)
          generalize gPts s1 s2 = P1 at *
          have ha1 : (0 : Int) ≤ (c : Int) + p := by omega
          have ha2 : (c : Int) + p < m := by omega
          have ha3 : ((c : Int) + p).toNat = c + p := by omega
          have ha4 : (0 : Int) ≤ (c : Int) + 2 * p := by omega
          have ha5 : (c : Int) + 2 * p < m := by omega
          have ha6 : ((c : Int) + 2 * p).toNat = c + 2 * p := by omega
          clear hcodes
          by_cases hg : P1 ≤ x'
          · have hq3 := any_get_true (p := fun v => openAt c v && decide (ptsT tb c v ≤ x')) hvj (hfun true (by simpa using hg))
            have hq4 : Hid (true = (false || ((varsTo u).take (j + 1)).any (fun v => openAt c v && decide (ptsT tb c v ≤ x')))) := hide (by rw [hq3.out]; rfl)
            have hgt : decide (P1 ≤ x') = true := by simpa using hg
            clear hfun hg
            go_wp2_with fail
            refine (HA.out _).mono ?_
            rintro e w6 ⟨rfl, he6⟩
            have hcs1 := he6.cell hcs1; have hcs2 := he6.cell hcs2; have hcx3 := he6.cell hcx3; have c0 := he6.cell c0
            (try rw [show ((c + p : Nat) : Int) = (c : Int) + p by omega])
            (try rw [show ((c + 2 * p : Nat) : Int) = (c : Int) + 2 * p by omega])
            go_wp2_with fail
            go_quiet ((go_at_call 67; first | (refine quiet_left (HPt.out _)) | (refine quiet_left2 (HPt.out _))))
            go_wp2_with fail
            exact ⟨⟨(by (repeat (first | exact trivial | refine ⟨rfl, ?_⟩))), by (repeat (first | with_reducible exact Ext.refl _ | with_reducible assumption | ((with_reducible refine Ext.setCell ?_ ?_ _); rotate_left; focus (first | omega | (simp <;> omega))) | with_reducible refine Ext.alloc ?_ _ | with_reducible refine Ext.drewN ?_ _ | with_reducible refine Ext.drew ?_ | with_reducible refine Ext.trans ?_ (by with_reducible assumption))), j + 1, by omega, by go_num, true, rfl, hq4⟩, (by simp [intOf] <;> omega)⟩
          · have hq3 := any_take_get hvj hqj (hfun false (by simpa using hg))
            have hq4 : Hid (false = (false || ((varsTo u).take (j + 1)).any (fun v => openAt c v && decide (ptsT tb c v ≤ x')))) := hide (by rw [hq3.out]; rfl)
            have hgt : decide (P1 ≤ x') = false := by simpa using hg
            clear hfun hg
            go_wp2_with fail
            refine (HA.out _).mono ?_
            rintro e w6 ⟨rfl, he6⟩
            have hcs1 := he6.cell hcs1; have hcs2 := he6.cell hcs2; have hcx3 := he6.cell hcx3; have c0 := he6.cell c0
            (try rw [show ((c + p : Nat) : Int) = (c : Int) + p by omega])
            (try rw [show ((c + 2 * p : Nat) : Int) = (c : Int) + 2 * p by omega])
            go_wp2_with fail
            go_quiet ((go_at_call 67; first | (refine quiet_left (HPt.out _)) | (refine quiet_left2 (HPt.out _))))
            go_wp2_with fail
            exact ⟨⟨(by (repeat (first | exact trivial | refine ⟨rfl, ?_⟩))), by (repeat (first | with_reducible exact Ext.refl _ | with_reducible assumption | ((with_reducible refine Ext.setCell ?_ ?_ _); rotate_left; focus (first | omega | (simp <;> omega))) | with_reducible refine Ext.alloc ?_ _ | with_reducible refine Ext.drewN ?_ _ | with_reducible refine Ext.drew ?_ | with_reducible refine Ext.trans ?_ (by with_reducible assumption))), j + 1, by omega, by go_num, false, rfl, hq4⟩, (by simp [intOf] <;> omega)⟩
      · obtain rfl : j = u := by omega
        have hfin := hqj.out
        rw [List.take_of_length_le (by rw [varsTo_length]; exact Nat.le_refl _)] at hfin
        have hrf : Hid (r = false) := hide (by rw [← HR.out]; exact rangeAll_false hlt (by rw [HDK.out, hfin]; rfl))
        clear hfin
        have hEH := hide (e1.trans hE)
        go_wp2
        go_ret2; exact ⟨by rw [hrf.out]; rfl, hEH.out⟩
    · have hpok : pOk u cls tb c = true := by
        rw [HDK.out]
        have := hgd.out
        cases fa
        · rw [Bool.false_or] at this ⊢
          exact any_take_true this.symm
        · rfl
      have hq2 := rangeAll_succ hq hpok
      clear hpok
      have hEH := hide hE
      clear hE hgd hq
      by_cases hlt2 : (j : Int) < (u : Int)
      · have hq2' : ∀ x, x < c + 1 → pOk u cls tb x = true := by have := hq2.out; simpa using this
        have hq2'' := hide hq2'
        clear hq2'
        go_wp2
        first
          | exact ⟨⟨(by (repeat (first | exact trivial | refine ⟨rfl, ?_⟩))), hEH.out, c + 1, by omega, by go_num, hq2⟩, (by simp [intOf] <;> omega)⟩
          | exact ⟨⟨(by (repeat (first | exact trivial | refine ⟨rfl, ?_⟩))), hEH.out, c + 1, by omega, by go_num, hq2''⟩, (by simp [intOf] <;> omega)⟩
      · have hq2' : ∀ x, x < c + 1 → pOk u cls tb x = true := by have := hq2.out; simpa using this
        have hq2'' := hide hq2'
        clear hq2'
        go_wp2
        first
          | exact ⟨⟨(by (repeat (first | exact trivial | refine ⟨rfl, ?_⟩))), hEH.out, c + 1, by omega, by go_num, hq2⟩, (by simp [intOf] <;> omega)⟩
          | exact ⟨⟨(by (repeat (first | exact trivial | refine ⟨rfl, ?_⟩))), hEH.out, c + 1, by omega, by go_num, hq2''⟩, (by simp [intOf] <;> omega)⟩
  · obtain rfl : c = m := by omega
    have hrt : Hid (r = true) := hide (by rw [← HR.out]; exact hq.out)
    have heh := hide (e1.trans he)
    go_wp2
    go_ret2; exact ⟨by rw [hrt.out]; rfl, heh.out⟩
set_option maxRecDepth 100000 in
theorem IsProverTable_lit_c (bn bt bc : Nat) (S : Option Addr) (N q : Nat) (tb : List Int) (x : Int) (code u : Nat) (w : World) (hS : Ints w S N tb) (hu : u ≤ 5) (hN : gYes code (u + 1) < N) (hN2 : N ≤ 729)
    (h1 : w.cell? ⟨bn, 0, none⟩ = some (.int .i64 x)) (h2 : w.cell? ⟨bt, 0, none⟩ = some (.slice S N q)) (h3 : w.cell? ⟨bc, 0, none⟩ = some (.int .i64 code)) :
    Calls Try.prog 74 #[.int .i64 ((u : Int) + 1), .pointer (some ⟨bn, 0, none⟩), .pointer (some ⟨bt, 0, none⟩), .pointer (some ⟨bc, 0, none⟩)] w fun e w' => e = .returned (.bool (decide (ptsT tb code (u + 1) ≤ x))) ∧ Ext w w' := by
  have hpt : ptsT tb code (u + 1) = gPts (tb.getD (gNo code (u + 1)) 0) (tb.getD (gYes code (u + 1)) 0) := rfl
  rw [hpt]
  have HPT := hide (fun W (hW : Ext w W) => tablePoints_c S N q tb code u W (hS.ext hW) hu hN hN2)
  clear hpt hS hN
  generalize tb.getD (gNo code (u + 1)) 0 = s1 at *
  generalize tb.getD (gYes code (u + 1)) 0 = s2 at *
  have HB := hide (fun W => best_pts s1 s2 W)
  generalize gPts s1 s2 = P1 at *
  go_enter Try.func74, Try.ntmps74
  go_wp2_with fail
  go_region_held3 (fun w' => w'.cell? ⟨bn, 0, none⟩ = some (.int .i64 x) ∧ w'.cell? ⟨bt, 0, none⟩ = some (.slice S N q) ∧ w'.cell? ⟨bc, 0, none⟩ = some (.int .i64 code)) (exact ⟨(show Ext w _ by (repeat (first | with_reducible exact Ext.refl _ | with_reducible assumption | ((with_reducible refine Ext.setCell ?_ ?_ _); rotate_left; focus (first | omega | (simp <;> omega))) | with_reducible refine Ext.alloc ?_ _ | with_reducible refine Ext.drewN ?_ _ | with_reducible refine Ext.drew ?_ | with_reducible refine Ext.trans ?_ (by with_reducible assumption)))).cell h1, (show Ext w _ by (repeat (first | with_reducible exact Ext.refl _ | with_reducible assumption | ((with_reducible refine Ext.setCell ?_ ?_ _); rotate_left; focus (first | omega | (simp <;> omega))) | with_reducible refine Ext.alloc ?_ _ | with_reducible refine Ext.drewN ?_ _ | with_reducible refine Ext.drew ?_ | with_reducible refine Ext.trans ?_ (by with_reducible assumption)))).cell h2, (show Ext w _ by (repeat (first | with_reducible exact Ext.refl _ | with_reducible assumption | ((with_reducible refine Ext.setCell ?_ ?_ _); rotate_left; focus (first | omega | (simp <;> omega))) | with_reducible refine Ext.alloc ?_ _ | with_reducible refine Ext.drewN ?_ _ | with_reducible refine Ext.drew ?_ | with_reducible refine Ext.trans ?_ (by with_reducible assumption)))).cell h3⟩) (first | (go_at_call 72; refine (HPT.out _ (by (repeat (first | with_reducible exact Ext.refl _ | with_reducible assumption | ((with_reducible refine Ext.setCell ?_ ?_ _); rotate_left; focus (first | omega | (simp <;> omega))) | with_reducible refine Ext.alloc ?_ _ | with_reducible refine Ext.drewN ?_ _ | with_reducible refine Ext.drew ?_ | with_reducible refine Ext.trans ?_ (by with_reducible assumption))))).mono ?_; rintro e w4 ⟨rfl, he4⟩) | (go_at_call 71; refine (HB.out _).mono ?_; rintro e w5 ⟨rfl, he5⟩; have h5 : Ext w w5 := (by (repeat (first | with_reducible exact Ext.refl _ | with_reducible assumption | ((with_reducible refine Ext.setCell ?_ ?_ _); rotate_left; focus (first | omega | (simp <;> omega))) | with_reducible refine Ext.alloc ?_ _ | with_reducible refine Ext.drewN ?_ _ | with_reducible refine Ext.drew ?_ | with_reducible refine Ext.trans ?_ (by with_reducible assumption))))))
  go_wp2
  go_ret; exact ⟨rfl, h5⟩
theorem IsProverTable_lit_enters : Enters Try.prog 74 := enters_of Try.func74 (by kernel_rfl) (by kernel_rfl)
set_option maxRecDepth 100000 in
set_option maxHeartbeats 4000000 in
theorem impl_IsProverTable_c (v : Int) (A : Option Addr) (n d : Nat) (cls : List (List Int)) (B : Option Addr) (m q : Nat) (tb : List Int) (w : World) (h : Intss w A n cls) (k : Ints w B m tb) :
    Calls Try.prog 36 #[.agg #[.int .i64 v, .slice A n d], .slice B m q] w fun e w' => e = .returned (.tuple #[.bool (isProv v cls tb), .bool (tblOk v cls tb)]) ∧ Ext w w' := by
  have hb := k.bound
  have HL := hide k.len
  unfold isProv
  cases h1 : tblOk v cls tb
  · go_enter Try.func36, Try.ntmps36
    go_wp2_with fail
    refine (tableGame_no _ _ _ _ cls _ _ _ tb _ (h.ext (by (repeat (first | with_reducible exact Ext.refl _ | with_reducible assumption | ((with_reducible refine Ext.setCell ?_ ?_ _); rotate_left; focus (first | omega | (simp <;> omega))) | with_reducible refine Ext.alloc ?_ _ | with_reducible refine Ext.drewN ?_ _ | with_reducible refine Ext.drew ?_ | with_reducible refine Ext.trans ?_ (by with_reducible assumption))))) (k.ext (by (repeat (first | with_reducible exact Ext.refl _ | with_reducible assumption | ((with_reducible refine Ext.setCell ?_ ?_ _); rotate_left; focus (first | omega | (simp <;> omega))) | with_reducible refine Ext.alloc ?_ _ | with_reducible refine Ext.drewN ?_ _ | with_reducible refine Ext.drew ?_ | with_reducible refine Ext.trans ?_ (by with_reducible assumption))))) h1).mono ?_
    rintro e w1 ⟨rfl, he⟩
    go_wp2
    go_ret2; exact ⟨rfl, by (repeat (first | with_reducible exact Ext.refl _ | with_reducible assumption | ((with_reducible refine Ext.setCell ?_ ?_ _); rotate_left; focus (first | omega | (simp <;> omega))) | with_reducible refine Ext.alloc ?_ _ | with_reducible refine Ext.drewN ?_ _ | with_reducible refine Ext.drew ?_ | with_reducible refine Ext.trans ?_ (by with_reducible assumption)))⟩
  obtain ⟨ht, h2⟩ := and2_true h1
  obtain ⟨hc, hv, _⟩ := takes_facts ht
  obtain ⟨u, rfl⟩ := int_nat hv.1
  rw [show ((u : Int)).toNat = u by omega] at h2 ⊢
  have hu : u ≤ 6 := by omega
  obtain ⟨h3, _⟩ := and2_true h2
  rw [← HL.out] at h3 ⊢
  have hmN : m = pow3 u := by simpa using h3
  have hN6 : m ≤ 729 := by rw [hmN]; have := pow3_mono hu; have h6 : pow3 6 = 729 := rfl; omega
  have H1 := hide h1
  have hTG := fun W (hI : Intss W A n cls) (hk : Ints W B m tb) => tableGame_yes u A n d cls B m q tb W hI hk H1.out
  rw [← hmN] at hTG
  have HTG := hide hTG
  have HN := hide hmN
  rw [Bool.true_and]
  obtain ⟨r, hr⟩ : ∃ r, (List.range m).all (pOk u cls tb) = r := ⟨_, rfl⟩
  rw [hr]
  have HR := hide hr
  clear hr h1 h2 h3 ht hc hmN hTG
  obtain ⟨W0, hW0⟩ : ∃ W, W = (w.alloc (.cells #[.int .i64 u, .slice A n d] 28)).alloc (.cells #[.slice B m q] 32) := ⟨_, rfl⟩
  have e0 : Ext w W0 := by rw [hW0]; exact ((Ext.refl w).alloc _).alloc _
  have b0 : W0.cell? ⟨w.heap.size, 0, none⟩ = some (.int .i64 u) := by rw [hW0]; simp [go_sem]
  have b2 : W0.cell? ⟨w.heap.size + 1, 0, none⟩ = some (.slice B m q) := by rw [hW0]; simp [go_sem]
  go_enter Try.func36, Try.ntmps36
  go_wp2_with fail
  rw [← hW0]
  clear hW0
  refine (HTG.out _ (h.ext e0) (k.ext e0)).mono ?_
  rintro e w1 ⟨b, g0, g1, g2, g3, ov, rfl, hG, hov, he⟩
  have hov := hide hov
  have b0 := he.cell b0
  have b2 := he.cell b2
  have e1 : Ext w w1 := e0.trans he
  clear he e0
  go_wp2_with fail
  refine wp_loopF 43 _ rfl rfl [2, 3, 6, 18, 19] rfl (fun fr wr => Ext w1 wr ∧ ∃ i : Nat, i ≤ m ∧ (fr 20) = .int .i64 i ∧ Hid ((List.range i).all (pOk u cls tb) = true)) (fun fr wr => m - (intOf (fr 20)).toNat) ?_ ?_
  · (exact ⟨Ext.refl _, 0, by omega, rfl, by simp [Hid]⟩)
  intro ks fr wr hkept hrel; (try dsimp only at hrel)
  change Code.wp _ _ _ ⟨#[fr 0, fr 1, ks 2, ks 3, fr 4, fr 5, ks 6, fr 7, fr 8, fr 9, fr 10, fr 11, fr 12, fr 13, fr 14, fr 15, fr 16, fr 17, ks 18, ks 19, fr 20, fr 21, fr 22, fr 23, fr 24, fr 25, fr 26, fr 27, fr 28, fr 29, fr 30, fr 31, fr 32, fr 33, fr 34, fr 35, fr 36, fr 37, fr 38, fr 39, fr 40, fr 41, fr 42], []⟩ wr
  simp only [KeptV, List.getD_cons_zero, List.getD_cons_succ] at hkept; obtain ⟨hk2, hk3, hk6, hk18, hk19, -⟩ := hkept
  generalize ks 2 = k2 at hk2 ⊢; subst hk2
  generalize ks 3 = k3 at hk3 ⊢; subst hk3
  generalize ks 6 = k6 at hk6 ⊢; subst hk6
  generalize ks 18 = k18 at hk18 ⊢; subst hk18
  generalize ks 19 = k19 at hk19 ⊢; subst hk19
  generalize fr 20 = s20 at hrel ⊢
  obtain ⟨he, c, hci, hs1, hq⟩ := hrel
  subst hs1
  by_cases hlt : c < m
  · obtain ⟨ad, x, rfl, hx, hcx⟩ := (k.ext (e1.trans he)).at_ hlt
    have hgx : tb.getD c 0 = x := getD_of hx
    have hcn : c < pow3 u := by rw [← HN.out]; exact hlt
    have hdk : pOk u cls tb c = (falseAny cls (codeLits u 1 c) || (opens u c).any (fun v => decide (ptsT tb c v ≤ x))) := by unfold pOk; rw [hgx]
    obtain ⟨W2, hW2⟩ : ∃ W, W = (wr.alloc (.cells #[.int .i64 c] 3)).alloc (.cells #[.int .i64 x] 3) := ⟨_, rfl⟩
    have eW : Ext wr W2 := by rw [hW2]; exact ((Ext.refl wr).alloc _).alloc _
    have bc : W2.cell? ⟨wr.heap.size, 0, none⟩ = some (.int .i64 c) := by rw [hW2]; simp [go_sem]
    have bn : W2.cell? ⟨wr.heap.size + 1, 0, none⟩ = some (.int .i64 x) := by rw [hW2]; simp [go_sem]
    have c0 := (he.trans eW).cell b0
    have c2 := (he.trans eW).cell b2
    have hG2 := hG.ext (he.trans eW)
    have hf := hG2.ov hlt
    rw [hov.out c hlt] at hf
    have e2 := hG2.box.cell 2 (.slice (some ⟨g0, 0, none⟩) m m) rfl
    clear hgx hx
    cases hfa : falseAny cls (codeLits u 1 c)
    rotate_left
    · rw [hfa] at hf hdk
      have hq2 := rangeAll_succ hq (show pOk u cls tb c = true by rw [hdk]; rfl)
      have hEH := hide (he.trans eW)
      clear hfa hdk
      go_wp2_with fail
      rw [← hW2]
      clear hW2
      go_region
      go_wp2
      exact ⟨⟨(by (repeat (first | exact trivial | refine ⟨rfl, ?_⟩))), by first | exact hEH.out | exact hEH.out.trans (by (repeat (first | with_reducible exact Ext.refl _ | with_reducible assumption | ((with_reducible refine Ext.setCell ?_ ?_ _); rotate_left; focus (first | omega | (simp <;> omega))) | with_reducible refine Ext.alloc ?_ _ | with_reducible refine Ext.drewN ?_ _ | with_reducible refine Ext.drew ?_ | with_reducible refine Ext.trans ?_ (by with_reducible assumption)))), c + 1, by omega, by go_num, hq2⟩, (by simp [intOf] <;> omega)⟩
    · rw [hfa] at hf hdk
      rw [Bool.false_or] at hdk
      have HOL : Hid (openList u (codeLits u 1 c) = natInts (opens u c)) := hide openList_code
      have hany : (natInts (opens u c)).any (fun v : Int => decide (ptsT tb c v.toNat ≤ x)) = (opens u c).any (fun v => decide (ptsT tb c v ≤ x)) := by
        simp [natInts, List.any_map, Function.comp_def]
      have hCF := fun W X y z (hE : Ext W2 W) (hI : Ints W X y (natInts (opens u c))) => ContainsFunc_int_c 74 #[.pointer (some ⟨wr.heap.size + 1, 0, none⟩), .pointer (some ⟨w.heap.size + 1, 0, none⟩), .pointer (some ⟨wr.heap.size, 0, none⟩)] (fun v : Int => decide (ptsT tb c v.toNat ≤ x)) X y z (natInts (opens u c)) W hI IsProverTable_lit_enters
        (fun xx wr' hxx hE' => by
          obtain ⟨v, hv, rfl⟩ := List.mem_map.1 hxx
          have hvo := List.mem_filter.1 hv
          have hvr := mem_varsTo hvo.1
          have hcodes := open_codes (n := u) hcn hvr hvo.2
          obtain ⟨t, rfl⟩ : ∃ t, v = t + 1 := ⟨v - 1, by omega⟩
          have hh := IsProverTable_lit_c (wr.heap.size + 1) (w.heap.size + 1) wr.heap.size (some ad) m q tb x c t wr' (k.ext ((e1.trans (he.trans eW)).trans (hE.trans hE'))) (by omega) (by rw [HN.out]; exact hcodes.2.2) hN6 ((hE.trans hE').cell bn) ((hE.trans hE').cell c2) ((hE.trans hE').cell bc)
          simpa using hh)
      rw [hany] at hCF
      obtain ⟨av, hav⟩ : ∃ av, (opens u c).any (fun v => decide (ptsT tb c v ≤ x)) = av := ⟨_, rfl⟩
      rw [hav] at hCF hdk
      have HCF := hide hCF
      have E2 := hide (e1.trans (he.trans eW))
      clear hCF hany hav
      have HDK := hide hdk
      clear hdk hfa
      go_wp2_with fail
      rw [← hW2]
      clear hW2
      go_region
      go_wp2_with fail
      have h0 : Ext W2 W2.drew := (Ext.refl W2).drew
      go_region_held3 (fun w' => w'.cell? ⟨w.heap.size, 0, none⟩ = some (.int .i64 u) ∧ w'.cell? ⟨wr.heap.size, 0, none⟩ = some (.int .i64 c)) (exact ⟨(show Ext W2 _ by (repeat (first | with_reducible exact Ext.refl _ | with_reducible assumption | ((with_reducible refine Ext.setCell ?_ ?_ _); rotate_left; focus (first | omega | (simp <;> omega))) | with_reducible refine Ext.alloc ?_ _ | with_reducible refine Ext.drewN ?_ _ | with_reducible refine Ext.drew ?_ | with_reducible refine Ext.trans ?_ (by with_reducible assumption)))).cell c0, (show Ext W2 _ by (repeat (first | with_reducible exact Ext.refl _ | with_reducible assumption | ((with_reducible refine Ext.setCell ?_ ?_ _); rotate_left; focus (first | omega | (simp <;> omega))) | with_reducible refine Ext.alloc ?_ _ | with_reducible refine Ext.drewN ?_ _ | with_reducible refine Ext.drew ?_ | with_reducible refine Ext.trans ?_ (by with_reducible assumption)))).cell bc⟩) (first | (go_at_call 70; refine (ofCode_c u c _ hu (by omega)).mono ?_; rintro e w3 ⟨X1, y1, z1, rfl, ho1, hy1, he3⟩) | (go_at_call 69; refine (openVars_c u X1 y1 z1 (codeLits u 1 c) _ ((ho1.ints (by omega)).ext (by (repeat (first | with_reducible exact Ext.refl _ | with_reducible assumption | ((with_reducible refine Ext.setCell ?_ ?_ _); rotate_left; focus (first | omega | (simp <;> omega))) | with_reducible refine Ext.alloc ?_ _ | with_reducible refine Ext.drewN ?_ _ | with_reducible refine Ext.drew ?_ | with_reducible refine Ext.trans ?_ (by with_reducible assumption))))) (by omega)).mono ?_; rintro e w4 ⟨X, y, z, rfl, ho, hyn, he4⟩) | (go_at_call 73; refine (HCF.out _ X y z (by (repeat (first | with_reducible exact Ext.refl _ | with_reducible assumption | ((with_reducible refine Ext.setCell ?_ ?_ _); rotate_left; focus (first | omega | (simp <;> omega))) | with_reducible refine Ext.alloc ?_ _ | with_reducible refine Ext.drewN ?_ _ | with_reducible refine Ext.drew ?_ | with_reducible refine Ext.trans ?_ (by with_reducible assumption)))) ((show Ints w4 X y (natInts (opens u c)) from by rw [← HOL.out]; exact ho.ints (by omega)).ext (by (repeat (first | with_reducible exact Ext.refl _ | with_reducible assumption | ((with_reducible refine Ext.setCell ?_ ?_ _); rotate_left; focus (first | omega | (simp <;> omega))) | with_reducible refine Ext.alloc ?_ _ | with_reducible refine Ext.drewN ?_ _ | with_reducible refine Ext.drew ?_ | with_reducible refine Ext.trans ?_ (by with_reducible assumption)))))).mono ?_; rintro e w5 ⟨rfl, he5⟩; have ew5 : Ext W2 w5 := (by (repeat (first | with_reducible exact Ext.refl _ | with_reducible assumption | ((with_reducible refine Ext.setCell ?_ ?_ _); rotate_left; focus (first | omega | (simp <;> omega))) | with_reducible refine Ext.alloc ?_ _ | with_reducible refine Ext.drewN ?_ _ | with_reducible refine Ext.drew ?_ | with_reducible refine Ext.trans ?_ (by with_reducible assumption))))))
      all_goals
        cases av
        · have hrf : Hid (r = false) := hide (by rw [← HR.out]; exact rangeAll_false hlt (by rw [HDK.out]))
          have hEH := hide (E2.out.trans ew5)
          go_wp2
          go_ret2; exact ⟨by rw [hrf.out]; rfl, hEH.out⟩
        · have hq2 := rangeAll_succ hq (show pOk u cls tb c = true by rw [HDK.out])
          have hEH := hide (he.trans (eW.trans ew5))
          clear he hq
          go_wp2
          exact ⟨⟨(by (repeat (first | exact trivial | refine ⟨rfl, ?_⟩))), hEH.out, c + 1, by omega, by go_num, hq2⟩, (by simp [intOf] <;> omega)⟩
  · obtain rfl : c = m := by omega
    have hrt : Hid (r = true) := hide (by rw [← HR.out]; exact hq.out)
    have heh := hide (e1.trans he)
    go_wp2
    go_ret2; exact ⟨by rw [hrt.out]; rfl, heh.out⟩
end Go.Proofs.Ytmpfhibncnamnaa
