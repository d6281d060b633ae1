/-
  The Prover's variable, the tree's variable.
-/
import Derived.Test.YtmpfhibncnamnaaC46
namespace Go.Proofs.Ytmpfhibncnamnaa
set_option linter.unusedSimpArgs false
set_option linter.unusedVariables false
open Go.RowKit

def fstV (p : Nat → Bool) : List Nat → Nat
  | [] => 0
  | v :: vs => if p v then v else fstV p vs
theorem fstV_drop {p : Nat → Bool} {vs : List Nat} {i v : Nat} (hv : Hid (vs[i]? = some v)) : fstV p (vs.drop i) = if p v then v else fstV p (vs.drop (i + 1)) := by
  have h : vs.drop i = v :: vs.drop (i + 1) := by
    obtain ⟨hl, he⟩ := List.getElem?_eq_some_iff.1 hv.out
    rw [← he]; exact List.drop_eq_getElem_cons hl
  rw [h]; rfl
theorem fstV_filter (p q : Nat → Bool) : ∀ vs : List Nat, fstV (fun v => q v && p v) vs = fstV p (vs.filter q)
  | [] => rfl
  | v :: vs => by
    rw [List.filter_cons, fstV, fstV_filter p q vs]
    cases q v
    · simp
    · simp [fstV]
def goodS (T : Tab) (code v : Nat) : Bool := gPts (T.sc.getD (gNo code v) 0) (T.sc.getD (gYes code v) 0) == T.sc.getD code 0
def goodT (T : Tab) (code v : Nat) : Bool := wrap64 (T.sz.getD (gNo code v) 0 + T.sz.getD (gYes code v) 0) == T.sz.getD code 0
def proverOf (n : Nat) (T : Tab) (code : Nat) : Nat := fstV (goodS T code) (opens n code)
def treeOf (n : Nat) (T : Tab) (code : Nat) : Nat := fstV (goodT T code) (opens n code)
theorem varsTo_get {n j : Nat} (h : j < n) : (varsTo n)[j]? = some (j + 1) := by simp [varsTo, h]

set_option maxRecDepth 100000 in
set_option maxHeartbeats 4000000 in
theorem l12Prover_c (n L g1 g2 g3 code N : Nat) (A : Option Addr) (m d : Nat) (T : Tab) (w : World) (hT : TabAt w L g1 g2 g3 N T) (hn : n ≤ 6) (hN : N = pow3 n) (hc : code < N) :
    Calls Try.prog 75 #[.agg #[.int .i64 n, .slice A m d], .agg #[.slice (some ⟨g1, 0, none⟩) N N, .slice (some ⟨g2, 0, none⟩) N N, .slice (some ⟨g3, 0, none⟩) N N], .int .i64 code] w fun e w' =>
      e = .returned (.int .i64 (proverOf n T code : Int)) ∧ Ext w w' := by
  have hfil : fstV (fun v => openAt code v && goodS T code v) (varsTo n) = proverOf n T code := fstV_filter _ _ _
  rw [← hfil]
  clear hfil
  have hN6 : N ≤ 729 := by have := pow3_mono hn; have h6 : pow3 6 = 729 := rfl; omega
  have HN := hide hN
  clear hN
  obtain ⟨W2, hW2⟩ : ∃ W, W = (w.alloc (.cells #[.int .i64 n, .slice A m d] 28)).alloc (.cells #[.slice (some ⟨g1, 0, none⟩) N N, .slice (some ⟨g2, 0, none⟩) N N, .slice (some ⟨g3, 0, none⟩) N N] 62) := ⟨_, rfl⟩
  have eW : Ext w W2 := by rw [hW2]; exact ((Ext.refl w).alloc _).alloc _
  have b0 : W2.cell? ⟨w.heap.size, 0, none⟩ = some (.int .i64 n) := by rw [hW2]; simp [go_sem]
  have b1 : W2.cell? ⟨w.heap.size + 1, 0, none⟩ = some (.slice (some ⟨g1, 0, none⟩) N N) := by rw [hW2]; simp [go_sem]
  go_enter Try.func75, Try.ntmps75
  go_wp2
  rw [← hW2]
  clear hW2
  refine wp_loopF 45 _ rfl rfl [1, 2, 3, 4] rfl (fun fr wr => Ext W2 wr ∧ ∃ j : Nat, j ≤ n ∧ (fr 7) = .int .i64 ((j + 1 : Nat) : Int) ∧ Hid (fstV (fun v => openAt code v && goodS T code v) ((varsTo n).drop j) = fstV (fun v => openAt code v && goodS T code v) (varsTo n))) (fun fr wr => n + 1 - (intOf (fr 7)).toNat) ?_ ?_
  · (exact ⟨Ext.refl _, 0, by omega, by go_num, rfl⟩)
  intro ks fr wr hkept hrel; (try dsimp only at hrel)
  change Code.wp _ _ _ ⟨#[fr 0, ks 1, ks 2, ks 3, ks 4, fr 5, fr 6, fr 7, fr 8, fr 9, fr 10, fr 11, fr 12, fr 13, fr 14, fr 15, fr 16, fr 17, fr 18, fr 19, fr 20, fr 21, fr 22, fr 23, fr 24, fr 25, fr 26, fr 27, fr 28, fr 29, fr 30, fr 31, fr 32, fr 33, fr 34, fr 35, fr 36, fr 37, fr 38, fr 39, fr 40, fr 41, fr 42, fr 43, fr 44], []⟩ wr
  simp only [KeptV, List.getD_cons_zero, List.getD_cons_succ] at hkept; obtain ⟨hk1, hk2, hk3, hk4, -⟩ := hkept
  generalize ks 1 = k1 at hk1 ⊢; subst hk1
  generalize ks 2 = k2 at hk2 ⊢; subst hk2
  generalize ks 3 = k3 at hk3 ⊢; subst hk3
  generalize ks 4 = k4 at hk4 ⊢; subst hk4
  generalize fr 7 = s7 at hrel ⊢
  obtain ⟨he, j, hj, hs1, hq⟩ := hrel
  subst hs1
  have c0 := he.cell b0
  have c1 := he.cell b1
  by_cases hlt : j < n
  · have HA := hide (fun W => l12After_c code j W (by omega) (by omega))
    have hst := fstV_drop (p := fun v => openAt code v && goodS T code v) (hide (varsTo_get hlt))
    rw [hq.out] at hst
    cases hop : openAt code (j + 1)
    · rw [hop] at HA hst
      have hq2 : Hid (fstV (fun v => openAt code v && goodS T code v) ((varsTo n).drop (j + 1)) = fstV (fun v => openAt code v && goodS T code v) (varsTo n)) := hide (by rw [hst]; simp)
      clear hop hst
      go_wp2_with fail
      refine (HA.out _).mono ?_
      rintro e w6 ⟨rfl, he6⟩
      go_wp2_with fail
      go_quiet (fail)
      go_wp2_with fail
      exact ⟨⟨(by (repeat (first | exact trivial | refine ⟨rfl, ?_⟩))), by (repeat (first | with_reducible exact Ext.refl _ | with_reducible assumption | ((with_reducible refine Ext.setCell ?_ ?_ _); rotate_left; focus (first | omega | (simp <;> omega))) | with_reducible refine Ext.alloc ?_ _ | with_reducible refine Ext.drewN ?_ _ | with_reducible refine Ext.drew ?_ | with_reducible refine Ext.trans ?_ (by with_reducible assumption))), j + 1, by omega, by go_num, hq2⟩, (by simp [intOf] <;> omega)⟩
    · have hcodes := open_codes (n := n) (by rw [← HN.out]; exact hc) (v := j + 1) ⟨by omega, by omega⟩ hop
      rw [← HN.out] at hcodes
      rw [hop] at HA hst
      clear hop
      have hp3 : pow3 j ≤ 729 := by have := pow3_mono (show j ≤ 6 by omega); have h6 : pow3 6 = 729 := rfl; omega
      have hge1 : gNo code (j + 1) = code + pow3 j := rfl
      have hge2 : gYes code (j + 1) = code + 2 * pow3 j := rfl
      have hT2 := hT.ext (eW.trans he)
      have hgood : goodS T code (j + 1) = (gPts (T.sc.getD (code + pow3 j) 0) (T.sc.getD (code + 2 * pow3 j) 0) == T.sc.getD code 0) := rfl
      rw [hgood] at hst
      rw [hge1, hge2] at HA hcodes
      have f5 := hT2.sc (show code + pow3 j < N by omega)
      have f6 := hT2.sc (show code + 2 * pow3 j < N by omega)
      have q1 := hT2.sc hc
      clear hge1 hge2 hgood
      generalize T.sc.getD (code + pow3 j) 0 = s1 at *
      generalize T.sc.getD (code + 2 * pow3 j) 0 = s2 at *
      generalize T.sc.getD code 0 = s0 at *
      generalize pow3 j = p at *
      have HPt := hide (fun W => l12Points_c s1 s2 W)
      generalize hP : gPts s1 s2 = P1 at *
      clear hP
      have ha1 : (0 : Int) ≤ (code : Int) + p := by omega
      have ha2 : (code : Int) + p < N := by omega
      have ha3 : ((code : Int) + p).toNat = code + p := by omega
      have ha4 : (0 : Int) ≤ (code : Int) + 2 * p := by omega
      have ha5 : (code : Int) + 2 * p < N := by omega
      have ha6 : ((code : Int) + 2 * p).toNat = code + 2 * p := by omega
      by_cases hg : P1 = s0
      · have hq2 : Hid (((j + 1 : Nat) : Int) = (fstV (fun v => openAt code v && goodS T code v) (varsTo n) : Nat)) := hide (by rw [hst]; simp [hg])
        clear hst
        go_wp2_with fail
        refine (HA.out _).mono ?_
        rintro e w6 ⟨rfl, he6⟩
        have f5 := he6.cell f5; have f6 := he6.cell f6; have q1 := he6.cell q1; have c0 := he6.cell c0; have c1 := he6.cell c1
        (try rw [show ((code + p : Nat) : Int) = (code : Int) + p by omega])
        (try rw [show ((code + 2 * p : Nat) : Int) = (code : Int) + 2 * p by omega])
        go_wp2_with fail
        go_quiet ((go_at_call 67; first | (refine quiet_left (HPt.out _)) | (refine quiet_left2 (HPt.out _))))
        go_wp2_with fail
        go_ret; exact ⟨ret_int (by rw [← hq2.out]; rfl), by (repeat (first | with_reducible exact Ext.refl _ | with_reducible assumption | ((with_reducible refine Ext.setCell ?_ ?_ _); rotate_left; focus (first | omega | (simp <;> omega))) | with_reducible refine Ext.alloc ?_ _ | with_reducible refine Ext.drewN ?_ _ | with_reducible refine Ext.drew ?_ | with_reducible refine Ext.trans ?_ (by with_reducible assumption)))⟩
      · have hq2 : Hid (fstV (fun v => openAt code v && goodS T code v) ((varsTo n).drop (j + 1)) = fstV (fun v => openAt code v && goodS T code v) (varsTo n)) := hide (by rw [hst]; simp [hg])
        have hgf : (P1 == s0) = false := by simpa using hg
        clear hst
        go_wp2_with fail
        refine (HA.out _).mono ?_
        rintro e w6 ⟨rfl, he6⟩
        have f5 := he6.cell f5; have f6 := he6.cell f6; have q1 := he6.cell q1; have c0 := he6.cell c0; have c1 := he6.cell c1
        (try rw [show ((code + p : Nat) : Int) = (code : Int) + p by omega])
        (try rw [show ((code + 2 * p : Nat) : Int) = (code : Int) + 2 * p by omega])
        go_wp2_with fail
        go_quiet ((go_at_call 67; first | (refine quiet_left (HPt.out _)) | (refine quiet_left2 (HPt.out _))))
        go_wp2_with fail
        exact ⟨⟨(by (repeat (first | exact trivial | refine ⟨rfl, ?_⟩))), by (repeat (first | with_reducible exact Ext.refl _ | with_reducible assumption | ((with_reducible refine Ext.setCell ?_ ?_ _); rotate_left; focus (first | omega | (simp <;> omega))) | with_reducible refine Ext.alloc ?_ _ | with_reducible refine Ext.drewN ?_ _ | with_reducible refine Ext.drew ?_ | with_reducible refine Ext.trans ?_ (by with_reducible assumption))), j + 1, by omega, by go_num, hq2⟩, (by simp [intOf] <;> omega)⟩
  · obtain rfl : j = n := by omega
    have hz : Hid (fstV (fun v => openAt code v && goodS T code v) (varsTo j) = 0) := hide (by rw [← hq.out, List.drop_eq_nil_of_le (by rw [varsTo_length]; exact Nat.le_refl _)]; rfl)
    go_wp2
    go_ret; exact ⟨ret_int (by rw [hz.out]; rfl), by (repeat (first | with_reducible exact Ext.refl _ | with_reducible assumption | ((with_reducible refine Ext.setCell ?_ ?_ _); rotate_left; focus (first | omega | (simp <;> omega))) | with_reducible refine Ext.alloc ?_ _ | with_reducible refine Ext.drewN ?_ _ | with_reducible refine Ext.drew ?_ | with_reducible refine Ext.trans ?_ (by with_reducible assumption)))⟩
end Go.Proofs.Ytmpfhibncnamnaa
