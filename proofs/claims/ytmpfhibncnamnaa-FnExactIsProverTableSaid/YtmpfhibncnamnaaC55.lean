/-
  IsDelayerTable.
-/
import Derived.Test.YtmpfhibncnamnaaC54
namespace Go.Proofs.Ytmpfhibncnamnaa
set_option linter.unusedSimpArgs false
set_option linter.unusedVariables false
open Go.RowKit

def dOk (n : Nat) (cls : List (List Int)) (tb : List Int) (c : Nat) : Bool := tb.getD c 0 == 0 || (!falseAny cls (codeLits n 1 c) && (opens n c).all (fun v => decide (tb.getD c 0 ≤ ptsT tb c v)))
def isDel (v : Int) (cls : List (List Int)) (tb : List Int) : Bool := tblOk v cls tb && (List.range tb.length).all (dOk v.toNat cls tb)
theorem opens_all (n c : Nat) (q : Nat → Bool) : (opens n c).all q = (varsTo n).all (fun v => !openAt c v || q v) := by
  rw [opens, List.all_filter]
theorem all_take_get {p : Nat → Bool} {vs : List Nat} {i v : Nat} (hv : Hid (vs[i]? = some v)) (h : Hid ((vs.take i).all p = true)) (hp : p v = true) : Hid ((vs.take (i + 1)).all p = true) := by
  unfold Hid; rw [take_succ_of hv, List.all_append, h.out]; simp [hp]
theorem all_get_false {p : Nat → Bool} {vs : List Nat} {i v : Nat} (hv : Hid (vs[i]? = some v)) (hp : p v = false) : vs.all p = false := by
  rw [List.all_eq_false]; exact ⟨v, List.mem_of_getElem? hv.out, by simp [hp]⟩
set_option maxRecDepth 100000 in
set_option maxHeartbeats 4000000 in
theorem spec_IsDelayerTable_c (v : Int) (A : Option Addr) (n d : Nat) (cls : List (List Int)) (B : Option Addr) (m q : Nat) (tb : List Int) (w : World) (h : Intss w A n cls) (k : Ints w B m tb) :
    Calls Try.prog 33 #[.agg #[.int .i64 v, .slice A n d], .slice B m q] w fun e w' => e = .returned (.tuple #[.bool (isDel v cls tb), .bool (tblOk v cls tb)]) ∧ Ext w w' := by
  have hb := k.bound
  have HL := hide k.len
  unfold isDel
  cases h1 : tblOk v cls tb
  · go_enter Try.func33, Try.ntmps33
    go_wp2_with fail
    refine (l12Table_c _ _ _ _ cls _ _ _ tb _ (h.ext (by (repeat (first | with_reducible exact Ext.refl _ | with_reducible assumption | ((with_reducible refine Ext.setCell ?_ ?_ _); rotate_left; focus (first | omega | (simp <;> omega))) | with_reducible refine Ext.alloc ?_ _ | with_reducible refine Ext.drewN ?_ _ | with_reducible refine Ext.drew ?_ | with_reducible refine Ext.trans ?_ (by with_reducible assumption))))) (k.ext (by (repeat (first | with_reducible exact Ext.refl _ | with_reducible assumption | ((with_reducible refine Ext.setCell ?_ ?_ _); rotate_left; focus (first | omega | (simp <;> omega))) | with_reducible refine Ext.alloc ?_ _ | with_reducible refine Ext.drewN ?_ _ | with_reducible refine Ext.drew ?_ | with_reducible refine Ext.trans ?_ (by with_reducible assumption)))))).mono ?_
    rw [h1]
    rintro e w1 ⟨rfl, he⟩
    go_wp2
    go_ret2; exact ⟨rfl, by (repeat (first | with_reducible exact Ext.refl _ | with_reducible assumption | ((with_reducible refine Ext.setCell ?_ ?_ _); rotate_left; focus (first | omega | (simp <;> omega))) | with_reducible refine Ext.alloc ?_ _ | with_reducible refine Ext.drewN ?_ _ | with_reducible refine Ext.drew ?_ | with_reducible refine Ext.trans ?_ (by with_reducible assumption)))⟩
  obtain ⟨ht, h2⟩ := and2_true h1
  obtain ⟨hc, hv, _⟩ := takes_facts ht
  have HC := hide (fun c hcc => (cnf_lits hc c hcc).2)
  obtain ⟨u, rfl⟩ := int_nat hv.1
  rw [show ((u : Int)).toNat = u by omega] at h2 ⊢
  have hu : u ≤ 6 := by omega
  obtain ⟨h3, _⟩ := and2_true h2
  rw [← HL.out] at h3 ⊢
  have hmN : m = pow3 u := by simpa using h3
  have hN6 : m ≤ 729 := by rw [hmN]; have := pow3_mono hu; have h6 : pow3 6 = 729 := rfl; omega
  have HN := hide hmN
  have H1 := hide h1
  rw [Bool.true_and]
  obtain ⟨r, hr⟩ : ∃ r, (List.range m).all (dOk u cls tb) = r := ⟨_, rfl⟩
  rw [hr]
  have HR := hide hr
  clear hr h1 h2 h3 ht hc hmN
  obtain ⟨W1, hW1⟩ : ∃ W, W = w.alloc (.cells #[.int .i64 u, .slice A n d] 28) := ⟨_, rfl⟩
  have e1 : Ext w W1 := by rw [hW1]; exact (Ext.refl w).alloc _
  have b0 : W1.cell? ⟨w.heap.size, 0, none⟩ = some (.int .i64 u) := by rw [hW1]; exact (BoxAt.made w _ _).cell 0 _ rfl
  have b1 : W1.cell? ⟨w.heap.size, 1, none⟩ = some (.slice A n d) := by rw [hW1]; exact (BoxAt.made w _ _).cell 1 _ rfl
  go_enter Try.func33, Try.ntmps33
  go_wp2_with fail
  rw [← hW1]
  clear hW1
  refine (l12Table_c _ _ _ _ cls _ _ _ tb _ (h.ext e1) (k.ext e1)).mono ?_
  rw [H1.out]
  rintro e w1 ⟨rfl, he⟩
  go_wp2_with fail
  refine wp_loopF 62 _ rfl rfl [1, 2] rfl (fun fr wr => Ext W1 wr ∧ ∃ i : Nat, i ≤ m ∧ (fr 6) = .int .i64 i ∧ Hid ((List.range i).all (dOk u cls tb) = true)) (fun fr wr => m - (intOf (fr 6)).toNat) ?_ ?_
  · (exact ⟨he, 0, by omega, rfl, by simp [Hid]⟩)
  intro ks fr wr hkept hrel; (try dsimp only at hrel)
  change Code.wp _ _ _ ⟨#[fr 0, ks 1, ks 2, fr 3, fr 4, fr 5, fr 6, fr 7, fr 8, fr 9, fr 10, fr 11, fr 12, fr 13, fr 14, fr 15, fr 16, fr 17, fr 18, fr 19, fr 20, fr 21, fr 22, fr 23, fr 24, fr 25, fr 26, fr 27, fr 28, fr 29, fr 30, fr 31, fr 32, fr 33, fr 34, fr 35, fr 36, fr 37, fr 38, fr 39, fr 40, fr 41, fr 42, fr 43, fr 44, fr 45, fr 46, fr 47, fr 48, fr 49, fr 50, fr 51, fr 52, fr 53, fr 54, fr 55, fr 56, fr 57, fr 58, fr 59, fr 60, fr 61], []⟩ wr
  simp only [KeptV, List.getD_cons_zero, List.getD_cons_succ] at hkept; obtain ⟨hk1, hk2, -⟩ := hkept
  generalize ks 1 = k1 at hk1 ⊢; subst hk1
  generalize ks 2 = k2 at hk2 ⊢; subst hk2
  generalize fr 6 = s6 at hrel ⊢
  clear he
  obtain ⟨he, c, hci, hs1, hq⟩ := hrel
  subst hs1
  have c0 := he.cell b0
  have c1 := he.cell b1
  by_cases hlt : c < m
  · obtain ⟨ad, x, rfl, hx, hcx⟩ := (k.ext (e1.trans he)).at_ hlt
    have hgx : tb.getD c 0 = x := getD_of hx
    have hcn : c < pow3 u := by rw [← HN.out]; exact hlt
    by_cases hx0 : x = 0
    · have hq2 := rangeAll_succ hq (show dOk u cls tb c = true by unfold dOk; rw [hgx]; simp [hx0])
      have hz : (x == 0) = true := by simpa using hx0
      clear hgx hx hcn
      subst hx0
      go_wp2
      exact ⟨⟨(by (repeat (first | exact trivial | refine ⟨rfl, ?_⟩))), he, c + 1, by omega, by go_num, hq2⟩, (by simp [intOf] <;> omega)⟩
    · have hz : (x == 0) = false := by simpa using hx0
      have hdk : dOk u cls tb c = (!falseAny cls (codeLits u 1 c) && (opens u c).all (fun v => decide (x ≤ ptsT tb c v))) := by unfold dOk; rw [hgx, hz, Bool.false_or]
      have hed := (Ext.refl wr).drew
      clear hx0 hgx
      cases hfa : falseAny cls (codeLits u 1 c)
      rotate_left
      · have hrf : Hid (r = false) := hide (by rw [← HR.out]; exact rangeAll_false hlt (by rw [hdk, hfa]; rfl))
        have HF := hide hfa
        clear hfa hdk
        go_wp2_with fail
        go_region_held3 (fun w' => w'.cell? ⟨w.heap.size, 0, none⟩ = some (.int .i64 u) ∧ w'.cell? ⟨w.heap.size, 1, none⟩ = some (.slice A n d)) (simp [go_sem, *]) (first | (go_at_call 65; refine (l12Of_c u c _ hu (by omega)).mono ?_; rintro e w4 ⟨X1, y1, z1', rfl, ho1, hy1, he4⟩; have ew4 : Ext wr w4 := (by (repeat (first | with_reducible exact Ext.refl _ | with_reducible assumption | ((with_reducible refine Ext.setCell ?_ ?_ _); rotate_left; focus (first | omega | (simp <;> omega))) | with_reducible refine Ext.alloc ?_ _ | with_reducible refine Ext.drewN ?_ _ | with_reducible refine Ext.drew ?_ | with_reducible refine Ext.trans ?_ (by with_reducible assumption)))); have j0 := ew4.cell c0; have j1 := ew4.cell c1) | (go_at_call 64; refine (l12False_c u A n d cls X1 y1 z1' (codeLits u 1 c) _ (h.ext (by (repeat (first | with_reducible exact Ext.refl _ | with_reducible assumption | ((with_reducible refine Ext.setCell ?_ ?_ _); rotate_left; focus (first | omega | (simp <;> omega))) | with_reducible refine Ext.alloc ?_ _ | with_reducible refine Ext.drewN ?_ _ | with_reducible refine Ext.drew ?_ | with_reducible refine Ext.trans ?_ (by with_reducible assumption))))) ((ho1.ints (by omega)).ext (by (repeat (first | with_reducible exact Ext.refl _ | with_reducible assumption | ((with_reducible refine Ext.setCell ?_ ?_ _); rotate_left; focus (first | omega | (simp <;> omega))) | with_reducible refine Ext.alloc ?_ _ | with_reducible refine Ext.drewN ?_ _ | with_reducible refine Ext.drew ?_ | with_reducible refine Ext.trans ?_ (by with_reducible assumption))))) HC.out).mono ?_; rw [HF.out]; rintro e w5 ⟨rfl, he5⟩; have ew5 : Ext wr w5 := (by (repeat (first | with_reducible exact Ext.refl _ | with_reducible assumption | ((with_reducible refine Ext.setCell ?_ ?_ _); rotate_left; focus (first | omega | (simp <;> omega))) | with_reducible refine Ext.alloc ?_ _ | with_reducible refine Ext.drewN ?_ _ | with_reducible refine Ext.drew ?_ | with_reducible refine Ext.trans ?_ (by with_reducible assumption)))); have j0 := ew5.cell c0; have j1 := ew5.cell c1))
        go_wp2
        go_ret2; exact ⟨by rw [hrf.out]; rfl, e1.trans (he.trans ew5)⟩
      · rw [hfa, Bool.not_false, Bool.true_and, opens_all] at hdk
        have HF := hide hfa
        have HDK := hide hdk
        clear hfa hdk
        go_wp2_with fail
        go_region_held3 (fun w' => w'.cell? ⟨w.heap.size, 0, none⟩ = some (.int .i64 u) ∧ w'.cell? ⟨w.heap.size, 1, none⟩ = some (.slice A n d)) (simp [go_sem, *]) (first | (go_at_call 65; refine (l12Of_c u c _ hu (by omega)).mono ?_; rintro e w4 ⟨X1, y1, z1', rfl, ho1, hy1, he4⟩; have ew4 : Ext wr w4 := (by (repeat (first | with_reducible exact Ext.refl _ | with_reducible assumption | ((with_reducible refine Ext.setCell ?_ ?_ _); rotate_left; focus (first | omega | (simp <;> omega))) | with_reducible refine Ext.alloc ?_ _ | with_reducible refine Ext.drewN ?_ _ | with_reducible refine Ext.drew ?_ | with_reducible refine Ext.trans ?_ (by with_reducible assumption)))); have j0 := ew4.cell c0; have j1 := ew4.cell c1) | (go_at_call 64; refine (l12False_c u A n d cls X1 y1 z1' (codeLits u 1 c) _ (h.ext (by (repeat (first | with_reducible exact Ext.refl _ | with_reducible assumption | ((with_reducible refine Ext.setCell ?_ ?_ _); rotate_left; focus (first | omega | (simp <;> omega))) | with_reducible refine Ext.alloc ?_ _ | with_reducible refine Ext.drewN ?_ _ | with_reducible refine Ext.drew ?_ | with_reducible refine Ext.trans ?_ (by with_reducible assumption))))) ((ho1.ints (by omega)).ext (by (repeat (first | with_reducible exact Ext.refl _ | with_reducible assumption | ((with_reducible refine Ext.setCell ?_ ?_ _); rotate_left; focus (first | omega | (simp <;> omega))) | with_reducible refine Ext.alloc ?_ _ | with_reducible refine Ext.drewN ?_ _ | with_reducible refine Ext.drew ?_ | with_reducible refine Ext.trans ?_ (by with_reducible assumption))))) HC.out).mono ?_; rw [HF.out]; rintro e w5 ⟨rfl, he5⟩; have ew5 : Ext wr w5 := (by (repeat (first | with_reducible exact Ext.refl _ | with_reducible assumption | ((with_reducible refine Ext.setCell ?_ ?_ _); rotate_left; focus (first | omega | (simp <;> omega))) | with_reducible refine Ext.alloc ?_ _ | with_reducible refine Ext.drewN ?_ _ | with_reducible refine Ext.drew ?_ | with_reducible refine Ext.trans ?_ (by with_reducible assumption)))); have j0 := ew5.cell c0; have j1 := ew5.cell c1))
        go_wp2_with fail
        have hE2 := he.trans ew5
        clear c0 c1
        refine wp_loopF 62 _ rfl rfl [1, 2, 6, 15, 16, 17, 18, 19, 20, 21, 22, 23, 24, 25, 26, 27, 28, 29, 30, 31] rfl (fun fr wr => Ext W1 wr ∧ ∃ j : Nat, j ≤ u ∧ (fr 7) = .int .i64 ((j + 1 : Nat) : Int) ∧ Hid (((varsTo u).take j).all (fun v => !openAt c v || decide (x ≤ ptsT tb c v)) = true)) (fun fr wr => u + 1 - (intOf (fr 7)).toNat) ?_ ?_
        · (exact ⟨hE2, 0, by omega, by go_num, by simp [Hid]⟩)
        intro ks fr wr hkept hrel; (try dsimp only at hrel)
        change Code.wp _ _ _ ⟨#[fr 0, ks 1, ks 2, fr 3, fr 4, fr 5, ks 6, fr 7, fr 8, fr 9, fr 10, fr 11, fr 12, fr 13, fr 14, ks 15, ks 16, ks 17, ks 18, ks 19, ks 20, ks 21, ks 22, ks 23, ks 24, ks 25, ks 26, ks 27, ks 28, ks 29, ks 30, ks 31, fr 32, fr 33, fr 34, fr 35, fr 36, fr 37, fr 38, fr 39, fr 40, fr 41, fr 42, fr 43, fr 44, fr 45, fr 46, fr 47, fr 48, fr 49, fr 50, fr 51, fr 52, fr 53, fr 54, fr 55, fr 56, fr 57, fr 58, fr 59, fr 60, fr 61], []⟩ wr
        simp only [KeptV, List.getD_cons_zero, List.getD_cons_succ] at hkept; obtain ⟨hk1, hk2, hk6, hk15, hk16, hk17, hk18, hk19, hk20, hk21, hk22, hk23, hk24, hk25, hk26, hk27, hk28, hk29, hk30, hk31, -⟩ := hkept
        generalize ks 1 = k1 at hk1 ⊢; subst hk1
        generalize ks 2 = k2 at hk2 ⊢; subst hk2
        generalize ks 6 = k6 at hk6 ⊢; subst hk6
        generalize ks 15 = k15 at hk15 ⊢; subst hk15
        generalize ks 16 = k16 at hk16 ⊢; subst hk16
        generalize ks 17 = k17 at hk17 ⊢; subst hk17
        generalize ks 18 = k18 at hk18 ⊢; subst hk18
        generalize ks 19 = k19 at hk19 ⊢; subst hk19
        generalize ks 20 = k20 at hk20 ⊢; subst hk20
        generalize ks 21 = k21 at hk21 ⊢; subst hk21
        generalize ks 22 = k22 at hk22 ⊢; subst hk22
        generalize ks 23 = k23 at hk23 ⊢; subst hk23
        generalize ks 24 = k24 at hk24 ⊢; subst hk24
        generalize ks 25 = k25 at hk25 ⊢; subst hk25
        generalize ks 26 = k26 at hk26 ⊢; subst hk26
        generalize ks 27 = k27 at hk27 ⊢; subst hk27
        generalize ks 28 = k28 at hk28 ⊢; subst hk28
        generalize ks 29 = k29 at hk29 ⊢; subst hk29
        generalize ks 30 = k30 at hk30 ⊢; subst hk30
        generalize ks 31 = k31 at hk31 ⊢; subst hk31
        generalize fr 7 = s7 at hrel ⊢
        clear hE2
        obtain ⟨hE, j, hj, hs2, hqj⟩ := hrel
        subst hs2
        have c0 := hE.cell b0
        by_cases hlt2 : j < u
        · have HA := hide (fun W => l12After_c c j W (by omega) (by omega))
          have hvj := hide (varsTo_get hlt2)
          cases hop : openAt c (j + 1)
          · have hq3 := all_take_get hvj hqj (by simp [hop])
            rw [hop] at HA
            clear hop
            go_wp2_with fail
            refine (HA.out _).mono ?_
            rintro e w6 ⟨rfl, he6⟩
            go_wp2_with fail
            go_quiet (fail)
            go_wp2_with fail
            exact ⟨⟨(by (repeat (first | exact trivial | refine ⟨rfl, ?_⟩))), by (repeat (first | with_reducible exact Ext.refl _ | with_reducible assumption | ((with_reducible refine Ext.setCell ?_ ?_ _); rotate_left; focus (first | omega | (simp <;> omega))) | with_reducible refine Ext.alloc ?_ _ | with_reducible refine Ext.drewN ?_ _ | with_reducible refine Ext.drew ?_ | with_reducible refine Ext.trans ?_ (by with_reducible assumption))), j + 1, by omega, by go_num, hq3⟩, (by simp [intOf] <;> omega)⟩
          · have hcodes := open_codes (n := u) hcn (v := j + 1) ⟨by omega, by omega⟩ hop
            rw [← HN.out] at hcodes
            have hp3 : pow3 j ≤ 729 := by have := pow3_mono (show j ≤ 6 by omega); have h6 : pow3 6 = 729 := rfl; omega
            have hge1 : gNo c (j + 1) = c + pow3 j := rfl
            have hge2 : gYes c (j + 1) = c + 2 * pow3 j := rfl
            have hpt : ptsT tb c (j + 1) = gPts (tb.getD (c + pow3 j) 0) (tb.getD (c + 2 * pow3 j) 0) := rfl
            rw [hge1, hge2] at HA hcodes
            have hK := k.ext (e1.trans hE)
            obtain ⟨ad1, s1, ee1, hs1x, hcs1⟩ := hK.at_ (k := c + pow3 j) (by omega)
            obtain ⟨ad2, s2, ee2, hs2x, hcs2⟩ := hK.at_ (k := c + 2 * pow3 j) (by omega)
            injection ee1 with ee1; subst ee1
            injection ee2 with ee2; subst ee2
            obtain ⟨ad3, x', ee3, hx3, hcx3⟩ := hK.at_ hlt
            injection ee3 with ee3; subst ee3
            have hxx : x' = x := by have a1 := hx3.out; have a2 := hx.out; rw [a1] at a2; injection a2
            subst hxx
            rw [getD_of hs1x, getD_of hs2x] at hpt
            have hfun : ∀ b : Bool, decide (x' ≤ ptsT tb c (j + 1)) = b → (fun v => !openAt c v || decide (x' ≤ ptsT tb c v)) (j + 1) = b := by intro b hbb; simp [hop, hbb]
            rw [hpt] at hfun
            rw [hop] at HA
            clear hop hge1 hge2 hpt hs1x hs2x hx3 hK
            generalize pow3 j = p at *
            have HPt := hide (fun W => l12Points_c s1 s2 W)
            generalize gPts s1 s2 = P1 at *
            have ha1 : (0 : Int) ≤ (c : Int) + p := by omega
            have ha2 : (c : Int) + p < m := by omega
            have ha3 : ((c : Int) + p).toNat = c + p := by omega
            have ha4 : (0 : Int) ≤ (c : Int) + 2 * p := by omega
            have ha5 : (c : Int) + 2 * p < m := by omega
            have ha6 : ((c : Int) + 2 * p).toNat = c + 2 * p := by omega
            clear hcodes
            by_cases hg : x' ≤ P1
            · have hq3 := all_take_get hvj hqj (hfun true (by simpa using hg))
              have hgt : decide (P1 < x') = false := by simp; omega
              clear hfun
              go_wp2_with fail
              refine (HA.out _).mono ?_
              rintro e w6 ⟨rfl, he6⟩
              have hcs1 := he6.cell hcs1; have hcs2 := he6.cell hcs2; have hcx3 := he6.cell hcx3; have c0 := he6.cell c0
              (try rw [show ((c + p : Nat) : Int) = (c : Int) + p by omega])
              (try rw [show ((c + 2 * p : Nat) : Int) = (c : Int) + 2 * p by omega])
              go_wp2_with fail
              go_quiet ((go_at_call 67; first | (refine quiet_left (HPt.out _)) | (refine quiet_left2 (HPt.out _))))
              go_wp2_with fail
              exact ⟨⟨(by (repeat (first | exact trivial | refine ⟨rfl, ?_⟩))), by (repeat (first | with_reducible exact Ext.refl _ | with_reducible assumption | ((with_reducible refine Ext.setCell ?_ ?_ _); rotate_left; focus (first | omega | (simp <;> omega))) | with_reducible refine Ext.alloc ?_ _ | with_reducible refine Ext.drewN ?_ _ | with_reducible refine Ext.drew ?_ | with_reducible refine Ext.trans ?_ (by with_reducible assumption))), j + 1, by omega, by go_num, hq3⟩, (by simp [intOf] <;> omega)⟩
            · have hgt : decide (P1 < x') = true := by simp; omega
              have hrf : Hid (r = false) := hide (by rw [← HR.out]; exact rangeAll_false hlt (by rw [HDK.out]; exact all_get_false hvj (hfun false (by simpa using hg))))
              clear hfun
              go_wp2_with fail
              refine (HA.out _).mono ?_
              rintro e w6 ⟨rfl, he6⟩
              have hcs1 := he6.cell hcs1; have hcs2 := he6.cell hcs2; have hcx3 := he6.cell hcx3; have c0 := he6.cell c0
              (try rw [show ((c + p : Nat) : Int) = (c : Int) + p by omega])
              (try rw [show ((c + 2 * p : Nat) : Int) = (c : Int) + 2 * p by omega])
              go_wp2_with fail
              go_quiet ((go_at_call 67; first | (refine quiet_left (HPt.out _)) | (refine quiet_left2 (HPt.out _))))
              go_wp2_with fail
              go_ret2; exact ⟨by rw [hrf.out]; rfl, by (repeat (first | with_reducible exact Ext.refl _ | with_reducible assumption | ((with_reducible refine Ext.setCell ?_ ?_ _); rotate_left; focus (first | omega | (simp <;> omega))) | with_reducible refine Ext.alloc ?_ _ | with_reducible refine Ext.drewN ?_ _ | with_reducible refine Ext.drew ?_ | with_reducible refine Ext.trans ?_ (by with_reducible assumption)))⟩
        · obtain rfl : j = u := by omega
          have hfin := hqj.out
          rw [List.take_of_length_le (by rw [varsTo_length]; exact Nat.le_refl _)] at hfin
          have hq2 := rangeAll_succ hq (show dOk j cls tb c = true by rw [HDK.out]; exact hfin)
          clear hfin
          have hEH := hide hE
          go_wp2
          exact ⟨⟨(by (repeat (first | exact trivial | refine ⟨rfl, ?_⟩))), hEH.out, c + 1, by omega, by go_num, hq2⟩, (by simp [intOf] <;> omega)⟩
  · obtain rfl : c = m := by omega
    have hrt : Hid (r = true) := hide (by rw [← HR.out]; exact hq.out)
    go_wp2
    go_ret2; exact ⟨by rw [hrt.out]; rfl, by (repeat (first | with_reducible exact Ext.refl _ | with_reducible assumption | ((with_reducible refine Ext.setCell ?_ ?_ _); rotate_left; focus (first | omega | (simp <;> omega))) | with_reducible refine Ext.alloc ?_ _ | with_reducible refine Ext.drewN ?_ _ | with_reducible refine Ext.drew ?_ | with_reducible refine Ext.trans ?_ (by with_reducible assumption)))⟩
set_option maxRecDepth 100000 in
set_option maxHeartbeats 4000000 in
theorem impl_IsDelayerTable_c (v : Int) (A : Option Addr) (n d : Nat) (cls : List (List Int)) (B : Option Addr) (m q : Nat) (tb : List Int) (w : World) (h : Intss w A n cls) (k : Ints w B m tb) :
    Calls Try.prog 34 #[.agg #[.int .i64 v, .slice A n d], .slice B m q] w fun e w' => e = .returned (.tuple #[.bool (isDel v cls tb), .bool (tblOk v cls tb)]) ∧ Ext w w' := by
  have hb := k.bound
  have HL := hide k.len
  unfold isDel
  cases h1 : tblOk v cls tb
  · go_enter Try.func34, Try.ntmps34
    go_wp2_with fail
    refine (tableGame_no _ _ _ _ cls _ _ _ tb _ (h.ext (by (repeat (first | with_reducible exact Ext.refl _ | with_reducible assumption | ((with_reducible refine Ext.setCell ?_ ?_ _); rotate_left; focus (first | omega | (simp <;> omega))) | with_reducible refine Ext.alloc ?_ _ | with_reducible refine Ext.drewN ?_ _ | with_reducible refine Ext.drew ?_ | with_reducible refine Ext.trans ?_ (by with_reducible assumption))))) (k.ext (by (repeat (first | with_reducible exact Ext.refl _ | with_reducible assumption | ((with_reducible refine Ext.setCell ?_ ?_ _); rotate_left; focus (first | omega | (simp <;> omega))) | with_reducible refine Ext.alloc ?_ _ | with_reducible refine Ext.drewN ?_ _ | with_reducible refine Ext.drew ?_ | with_reducible refine Ext.trans ?_ (by with_reducible assumption))))) h1).mono ?_
    rintro e w1 ⟨rfl, he⟩
    go_wp2
    go_ret2; exact ⟨rfl, by (repeat (first | with_reducible exact Ext.refl _ | with_reducible assumption | ((with_reducible refine Ext.setCell ?_ ?_ _); rotate_left; focus (first | omega | (simp <;> omega))) | with_reducible refine Ext.alloc ?_ _ | with_reducible refine Ext.drewN ?_ _ | with_reducible refine Ext.drew ?_ | with_reducible refine Ext.trans ?_ (by with_reducible assumption)))⟩
  obtain ⟨ht, h2⟩ := and2_true h1
  obtain ⟨hc, hv, _⟩ := takes_facts ht
  obtain ⟨u, rfl⟩ := int_nat hv.1
  rw [show ((u : Int)).toNat = u by omega] at h2 ⊢
  have hu : u ≤ 6 := by omega
  obtain ⟨h3, _⟩ := and2_true h2
  rw [← HL.out] at h3 ⊢
  have hmN : m = pow3 u := by simpa using h3
  have hN6 : m ≤ 729 := by rw [hmN]; have := pow3_mono hu; have h6 : pow3 6 = 729 := rfl; omega
  have H1 := hide h1
  have hTG := fun W (hI : Intss W A n cls) (hk : Ints W B m tb) => tableGame_yes u A n d cls B m q tb W hI hk H1.out
  rw [← hmN] at hTG
  have HTG := hide hTG
  have HN := hide hmN
  rw [Bool.true_and]
  obtain ⟨r, hr⟩ : ∃ r, (List.range m).all (dOk u cls tb) = r := ⟨_, rfl⟩
  rw [hr]
  have HR := hide hr
  clear hr h1 h2 h3 ht hc hmN hTG
  go_enter Try.func34, Try.ntmps34
  go_wp2_with fail
  refine (HTG.out _ (h.ext (by (repeat (first | with_reducible exact Ext.refl _ | with_reducible assumption | ((with_reducible refine Ext.setCell ?_ ?_ _); rotate_left; focus (first | omega | (simp <;> omega))) | with_reducible refine Ext.alloc ?_ _ | with_reducible refine Ext.drewN ?_ _ | with_reducible refine Ext.drew ?_ | with_reducible refine Ext.trans ?_ (by with_reducible assumption))))) (k.ext (by (repeat (first | with_reducible exact Ext.refl _ | with_reducible assumption | ((with_reducible refine Ext.setCell ?_ ?_ _); rotate_left; focus (first | omega | (simp <;> omega))) | with_reducible refine Ext.alloc ?_ _ | with_reducible refine Ext.drewN ?_ _ | with_reducible refine Ext.drew ?_ | with_reducible refine Ext.trans ?_ (by with_reducible assumption)))))).mono ?_
  rintro e w1 ⟨b, g0, g1, g2, g3, ov, rfl, hG, hov, he⟩
  have hov := hide hov
  have b0 := he.box 0 (.int .i64 u) rfl
  have e1 : Ext w w1 := by (repeat (first | with_reducible exact Ext.refl _ | with_reducible assumption | ((with_reducible refine Ext.setCell ?_ ?_ _); rotate_left; focus (first | omega | (simp <;> omega))) | with_reducible refine Ext.alloc ?_ _ | with_reducible refine Ext.drewN ?_ _ | with_reducible refine Ext.drew ?_ | with_reducible refine Ext.trans ?_ (by with_reducible assumption)))
  clear he
  go_wp2_with fail
  refine wp_loopF 57 _ rfl rfl [1, 2, 6, 20, 21] rfl (fun fr wr => Ext w1 wr ∧ ∃ i : Nat, i ≤ m ∧ (fr 22) = .int .i64 i ∧ Hid ((List.range i).all (dOk u cls tb) = true)) (fun fr wr => m - (intOf (fr 22)).toNat) ?_ ?_
  · (exact ⟨Ext.refl _, 0, by omega, rfl, by simp [Hid]⟩)
  intro ks fr wr hkept hrel; (try dsimp only at hrel)
  change Code.wp _ _ _ ⟨#[fr 0, ks 1, ks 2, fr 3, fr 4, fr 5, ks 6, fr 7, fr 8, fr 9, fr 10, fr 11, fr 12, fr 13, fr 14, fr 15, fr 16, fr 17, fr 18, fr 19, ks 20, ks 21, fr 22, fr 23, fr 24, fr 25, fr 26, fr 27, fr 28, fr 29, fr 30, fr 31, fr 32, fr 33, fr 34, fr 35, fr 36, fr 37, fr 38, fr 39, fr 40, fr 41, fr 42, fr 43, fr 44, fr 45, fr 46, fr 47, fr 48, fr 49, fr 50, fr 51, fr 52, fr 53, fr 54, fr 55, fr 56], []⟩ wr
  simp only [KeptV, List.getD_cons_zero, List.getD_cons_succ] at hkept; obtain ⟨hk1, hk2, hk6, hk20, hk21, -⟩ := hkept
  generalize ks 1 = k1 at hk1 ⊢; subst hk1
  generalize ks 2 = k2 at hk2 ⊢; subst hk2
  generalize ks 6 = k6 at hk6 ⊢; subst hk6
  generalize ks 20 = k20 at hk20 ⊢; subst hk20
  generalize ks 21 = k21 at hk21 ⊢; subst hk21
  generalize fr 22 = s22 at hrel ⊢
  obtain ⟨he, c, hci, hs1, hq⟩ := hrel
  subst hs1
  have c0 := he.cell b0
  by_cases hlt : c < m
  · obtain ⟨ad, x, rfl, hx, hcx⟩ := (k.ext (e1.trans he)).at_ hlt
    have hgx : tb.getD c 0 = x := getD_of hx
    have hcn : c < pow3 u := by rw [← HN.out]; exact hlt
    by_cases hx0 : x = 0
    · have hq2 := rangeAll_succ hq (show dOk u cls tb c = true by unfold dOk; rw [hgx]; simp [hx0])
      have hz : (x == 0) = true := by simpa using hx0
      clear hgx hx hcn
      subst hx0
      have heh := hide he
      go_wp2
      exact ⟨⟨(by (repeat (first | exact trivial | refine ⟨rfl, ?_⟩))), heh.out, c + 1, by omega, by go_num, hq2⟩, (by simp [intOf] <;> omega)⟩
    · have hz : (x == 0) = false := by simpa using hx0
      have hdk : dOk u cls tb c = (!falseAny cls (codeLits u 1 c) && (opens u c).all (fun v => decide (x ≤ ptsT tb c v))) := by unfold dOk; rw [hgx, hz, Bool.false_or]
      have hG2 := hG.ext he
      have hf := hG2.ov hlt
      rw [hov.out c hlt] at hf
      have e2 := hG2.box.cell 2 (.slice (some ⟨g0, 0, none⟩) m m) rfl
      clear hx0 hgx
      cases hfa : falseAny cls (codeLits u 1 c)
      rotate_left
      · have hrf : Hid (r = false) := hide (by rw [← HR.out]; exact rangeAll_false hlt (by rw [hdk, hfa]; rfl))
        rw [hfa] at hf
        clear hfa hdk
        go_wp2
        go_ret2; exact ⟨by rw [hrf.out]; rfl, by (repeat (first | with_reducible exact Ext.refl _ | with_reducible assumption | ((with_reducible refine Ext.setCell ?_ ?_ _); rotate_left; focus (first | omega | (simp <;> omega))) | with_reducible refine Ext.alloc ?_ _ | with_reducible refine Ext.drewN ?_ _ | with_reducible refine Ext.drew ?_ | with_reducible refine Ext.trans ?_ (by with_reducible assumption)))⟩
      · rw [hfa, Bool.not_false, Bool.true_and] at hdk
        rw [hfa] at hf
        have HDK := hide hdk
        have HOL := hide (openList_code (n := u) (code := c))
        clear hfa hdk
        go_wp2_with fail
        go_region_held3 (fun w' => w'.cell? ⟨w.heap.size, 0, none⟩ = some (.int .i64 u)) (exact (show Ext wr _ by (repeat (first | with_reducible exact Ext.refl _ | with_reducible assumption | ((with_reducible refine Ext.setCell ?_ ?_ _); rotate_left; focus (first | omega | (simp <;> omega))) | with_reducible refine Ext.alloc ?_ _ | with_reducible refine Ext.drewN ?_ _ | with_reducible refine Ext.drew ?_ | with_reducible refine Ext.trans ?_ (by with_reducible assumption)))).cell c0) (first | (go_at_call 70; refine (ofCode_c u c _ hu (by omega)).mono ?_; rintro e w3 ⟨X1, y1, z1, rfl, ho1, hy1, he3⟩) | (go_at_call 69; refine (openVars_c u X1 y1 z1 (codeLits u 1 c) _ ((ho1.ints (by omega)).ext (by (repeat (first | with_reducible exact Ext.refl _ | with_reducible assumption | ((with_reducible refine Ext.setCell ?_ ?_ _); rotate_left; focus (first | omega | (simp <;> omega))) | with_reducible refine Ext.alloc ?_ _ | with_reducible refine Ext.drewN ?_ _ | with_reducible refine Ext.drew ?_ | with_reducible refine Ext.trans ?_ (by with_reducible assumption))))) (by omega)).mono ?_; rintro e w4 ⟨X, y, z, rfl, ho, hyn, he4⟩; have ew4 : Ext wr w4 := (by (repeat (first | with_reducible exact Ext.refl _ | with_reducible assumption | ((with_reducible refine Ext.setCell ?_ ?_ _); rotate_left; focus (first | omega | (simp <;> omega))) | with_reducible refine Ext.alloc ?_ _ | with_reducible refine Ext.drewN ?_ _ | with_reducible refine Ext.drew ?_ | with_reducible refine Ext.trans ?_ (by with_reducible assumption))))))
        rw [HOL.out] at ho
        have hI : Ints w4 X y (natInts (opens u c)) := ho.ints (by omega)
        have HYL := hide hI.len
        clear ho1 ho c0 e2 hf
        go_wp2_with fail
        refine wp_loopF 57 _ rfl rfl [1, 2, 6, 8, 9, 20, 21, 22, 23, 24, 25, 26, 27, 28, 29, 30, 31, 32, 33, 34, 35, 36, 37, 38, 39, 40, 41, 42, 43, 56] rfl (fun fr wr => Ext w4 wr ∧ ∃ j : Nat, j ≤ y ∧ (fr 44) = .int .i64 j ∧ Hid (((opens u c).take j).all (fun v => decide (x ≤ ptsT tb c v)) = true)) (fun fr wr => y - (intOf (fr 44)).toNat) ?_ ?_
        · (exact ⟨Ext.refl _, 0, by omega, rfl, by simp [Hid]⟩)
        intro ks fr wr hkept hrel; (try dsimp only at hrel)
        change Code.wp _ _ _ ⟨#[fr 0, ks 1, ks 2, fr 3, fr 4, fr 5, ks 6, fr 7, ks 8, ks 9, fr 10, fr 11, fr 12, fr 13, fr 14, fr 15, fr 16, fr 17, fr 18, fr 19, ks 20, ks 21, ks 22, ks 23, ks 24, ks 25, ks 26, ks 27, ks 28, ks 29, ks 30, ks 31, ks 32, ks 33, ks 34, ks 35, ks 36, ks 37, ks 38, ks 39, ks 40, ks 41, ks 42, ks 43, fr 44, fr 45, fr 46, fr 47, fr 48, fr 49, fr 50, fr 51, fr 52, fr 53, fr 54, fr 55, ks 56], []⟩ wr
        simp only [KeptV, List.getD_cons_zero, List.getD_cons_succ] at hkept; obtain ⟨hk1, hk2, hk6, hk8, hk9, hk20, hk21, hk22, hk23, hk24, hk25, hk26, hk27, hk28, hk29, hk30, hk31, hk32, hk33, hk34, hk35, hk36, hk37, hk38, hk39, hk40, hk41, hk42, hk43, hk56, -⟩ := hkept
        generalize ks 1 = k1 at hk1 ⊢; subst hk1
        generalize ks 2 = k2 at hk2 ⊢; subst hk2
        generalize ks 6 = k6 at hk6 ⊢; subst hk6
        generalize ks 8 = k8 at hk8 ⊢; subst hk8
        generalize ks 9 = k9 at hk9 ⊢; subst hk9
        generalize ks 20 = k20 at hk20 ⊢; subst hk20
        generalize ks 21 = k21 at hk21 ⊢; subst hk21
        generalize ks 22 = k22 at hk22 ⊢; subst hk22
        generalize ks 23 = k23 at hk23 ⊢; subst hk23
        generalize ks 24 = k24 at hk24 ⊢; subst hk24
        generalize ks 25 = k25 at hk25 ⊢; subst hk25
        generalize ks 26 = k26 at hk26 ⊢; subst hk26
        generalize ks 27 = k27 at hk27 ⊢; subst hk27
        generalize ks 28 = k28 at hk28 ⊢; subst hk28
        generalize ks 29 = k29 at hk29 ⊢; subst hk29
        generalize ks 30 = k30 at hk30 ⊢; subst hk30
        generalize ks 31 = k31 at hk31 ⊢; subst hk31
        generalize ks 32 = k32 at hk32 ⊢; subst hk32
        generalize ks 33 = k33 at hk33 ⊢; subst hk33
        generalize ks 34 = k34 at hk34 ⊢; subst hk34
        generalize ks 35 = k35 at hk35 ⊢; subst hk35
        generalize ks 36 = k36 at hk36 ⊢; subst hk36
        generalize ks 37 = k37 at hk37 ⊢; subst hk37
        generalize ks 38 = k38 at hk38 ⊢; subst hk38
        generalize ks 39 = k39 at hk39 ⊢; subst hk39
        generalize ks 40 = k40 at hk40 ⊢; subst hk40
        generalize ks 41 = k41 at hk41 ⊢; subst hk41
        generalize ks 42 = k42 at hk42 ⊢; subst hk42
        generalize ks 43 = k43 at hk43 ⊢; subst hk43
        generalize ks 56 = k56 at hk56 ⊢; subst hk56
        generalize fr 44 = s44 at hrel ⊢
        obtain ⟨hE, j, hj, hs2, hqj⟩ := hrel
        subst hs2
        by_cases hlt2 : j < y
        · obtain ⟨ad2, x2, rfl, hx2, hcx2⟩ := (hI.ext hE).at_ hlt2
          obtain ⟨v, hv2, rfl⟩ := natInts_get hx2
          have hvo := List.mem_filter.1 (List.mem_of_getElem? hv2.out)
          have hvr := mem_varsTo hvo.1
          have hcodes := open_codes (n := u) hcn hvr hvo.2
          rw [← HN.out] at hcodes
          obtain ⟨t, rfl⟩ : ∃ t, v = t + 1 := ⟨v - 1, by omega⟩
          have hcx2 : wr.cell? (ad2.add j) = some (.int .i64 ((t : Int) + 1)) := by rw [hcx2]; rfl
          have HPT := hide (fun W (hW : Ints W (some ad) m tb) => tablePoints_c (some ad) m q tb c t W hW (by omega) hcodes.2.2 hN6)
          have hK := fun W (hW : Ext wr W) => k.ext (e1.trans (he.trans (ew4.trans (hE.trans hW))))
          have hpt : ptsT tb c (t + 1) = gPts (tb.getD (gNo c (t + 1)) 0) (tb.getD (gYes c (t + 1)) 0) := rfl
          generalize tb.getD (gNo c (t + 1)) 0 = s1 at *
          generalize tb.getD (gYes c (t + 1)) 0 = s2 at *
          have HB := hide (fun W => best_pts s1 s2 W)
          have HK := hide hK
          clear hK hvo hvr hcodes hx2
          generalize gPts s1 s2 = P1 at *
          by_cases hg : x ≤ P1
          · have hq3 := all_take_get hv2 hqj (p := fun v => decide (x ≤ ptsT tb c v)) (by simp [hpt, hg])
            have hgt : decide (P1 < x) = false := by simp; omega
            clear hpt hv2
            go_wp2_with fail
            refine (HPT.out _ (HK.out _ (by (repeat (first | with_reducible exact Ext.refl _ | with_reducible assumption | ((with_reducible refine Ext.setCell ?_ ?_ _); rotate_left; focus (first | omega | (simp <;> omega))) | with_reducible refine Ext.alloc ?_ _ | with_reducible refine Ext.drewN ?_ _ | with_reducible refine Ext.drew ?_ | with_reducible refine Ext.trans ?_ (by with_reducible assumption)))))).mono ?_
            rintro e w5 ⟨rfl, he5⟩
            go_wp2_with fail
            refine (HB.out _).mono ?_
            rintro e w6 ⟨rfl, he6⟩
            have hEH := hide ((hE.trans he5).trans he6)
            go_wp2
            exact ⟨⟨(by (repeat (first | exact trivial | refine ⟨rfl, ?_⟩))), hEH.out, j + 1, by omega, by go_num, hq3⟩, (by simp [intOf] <;> omega)⟩
          · have hgt : decide (P1 < x) = true := by simp; omega
            have hrf : Hid (r = false) := hide (by rw [← HR.out]; exact rangeAll_false hlt (by rw [HDK.out]; exact all_get_false hv2 (by simp [hpt]; omega)))
            clear hpt hv2
            go_wp2_with fail
            refine (HPT.out _ (HK.out _ (by (repeat (first | with_reducible exact Ext.refl _ | with_reducible assumption | ((with_reducible refine Ext.setCell ?_ ?_ _); rotate_left; focus (first | omega | (simp <;> omega))) | with_reducible refine Ext.alloc ?_ _ | with_reducible refine Ext.drewN ?_ _ | with_reducible refine Ext.drew ?_ | with_reducible refine Ext.trans ?_ (by with_reducible assumption)))))).mono ?_
            rintro e w5 ⟨rfl, he5⟩
            go_wp2_with fail
            refine (HB.out _).mono ?_
            rintro e w6 ⟨rfl, he6⟩
            have hEH := hide (e1.trans (he.trans (ew4.trans ((hE.trans he5).trans he6))))
            go_wp2
            go_ret2; exact ⟨by rw [hrf.out]; rfl, hEH.out⟩
        · have hfin := hqj.out
          rw [List.take_of_length_le (by have := HYL.out; simp [natInts] at this; omega)] at hfin
          have hq2 := rangeAll_succ hq (show dOk u cls tb c = true by rw [HDK.out]; exact hfin)
          clear hfin
          have hEH := hide (he.trans (ew4.trans hE))
          go_wp2
          exact ⟨⟨(by (repeat (first | exact trivial | refine ⟨rfl, ?_⟩))), hEH.out, c + 1, by omega, by go_num, hq2⟩, (by simp [intOf] <;> omega)⟩
  · obtain rfl : c = m := by omega
    have hrt : Hid (r = true) := hide (by rw [← HR.out]; exact hq.out)
    have heh := hide (e1.trans he)
    go_wp2
    go_ret2; exact ⟨by rw [hrt.out]; rfl, heh.out⟩
end Go.Proofs.Ytmpfhibncnamnaa
