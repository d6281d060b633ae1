/-
  Tables that are like a Delayer's; what a table has for a variable.
-/
import Derived.Test.YtmpfhibncnamnaaC51
namespace Go.Proofs.Ytmpfhibncnamnaa
set_option linter.unusedSimpArgs false
set_option linter.unusedVariables false
open Go.RowKit

def tblOk (v : Int) (cls : List (List Int)) (tb : List Int) : Bool := takes v cls && (decide (tb.length = pow3 v.toNat) && tb.all (fun x => within x 0 1000000))
def ptsT (tb : List Int) (code v : Nat) : Int := gPts (tb.getD (gNo code v) 0) (tb.getD (gYes code v) 0)
set_option maxRecDepth 100000 in
set_option maxHeartbeats 1600000 in
theorem l12Table_c (v : Int) (A : Option Addr) (n d : Nat) (cls : List (List Int)) (B : Option Addr) (m q : Nat) (tb : List Int) (w : World) (h : Intss w A n cls) (k : Ints w B m tb) :
    Calls Try.prog 63 #[.agg #[.int .i64 v, .slice A n d], .slice B m q] w fun e w' => e = .returned (.bool (tblOk v cls tb)) ∧ Ext w w' := by
  have hb := k.bound
  have HL := hide k.len
  unfold tblOk
  cases h1 : takes v cls
  · go_enter Try.func63, Try.ntmps63
    go_wp2_with fail
    refine (l12Takes_c _ _ _ _ cls _ (h.ext (by (repeat (first | with_reducible exact Ext.refl _ | with_reducible assumption | ((with_reducible refine Ext.setCell ?_ ?_ _); rotate_left; focus (first | omega | (simp <;> omega))) | with_reducible refine Ext.alloc ?_ _ | with_reducible refine Ext.drewN ?_ _ | with_reducible refine Ext.drew ?_ | with_reducible refine Ext.trans ?_ (by with_reducible assumption)))))).mono ?_
    rw [h1]
    rintro e w1 ⟨rfl, he⟩
    go_wp2
    go_ret; exact ⟨rfl, by (repeat (first | with_reducible exact Ext.refl _ | with_reducible assumption | ((with_reducible refine Ext.setCell ?_ ?_ _); rotate_left; focus (first | omega | (simp <;> omega))) | with_reducible refine Ext.alloc ?_ _ | with_reducible refine Ext.drewN ?_ _ | with_reducible refine Ext.drew ?_ | with_reducible refine Ext.trans ?_ (by with_reducible assumption)))⟩
  obtain ⟨_, hv, _⟩ := takes_facts h1
  obtain ⟨u, rfl⟩ := int_nat hv.1
  rw [show ((u : Int)).toNat = u by omega, Bool.true_and]
  have H1 := hide h1
  clear h1
  have HP := hide (fun W => l12Pow_c u W (by omega))
  generalize pow3 u = N at *
  rw [← HL.out]
  by_cases hmN : m = N
  · subst hmN
    rw [show decide (m = m) = true by simp, Bool.true_and]
    obtain ⟨r, hr⟩ : ∃ r, tb.all (fun x => within x 0 1000000) = r := ⟨_, rfl⟩
    rw [hr]
    have HR := hide hr
    clear hr
    have hmm : ((m : Int) == (m : Int)) = true := by simp
    go_enter Try.func63, Try.ntmps63
    go_wp2_with fail
    refine (l12Takes_c _ _ _ _ cls _ (h.ext (by (repeat (first | with_reducible exact Ext.refl _ | with_reducible assumption | ((with_reducible refine Ext.setCell ?_ ?_ _); rotate_left; focus (first | omega | (simp <;> omega))) | with_reducible refine Ext.alloc ?_ _ | with_reducible refine Ext.drewN ?_ _ | with_reducible refine Ext.drew ?_ | with_reducible refine Ext.trans ?_ (by with_reducible assumption)))))).mono ?_
    rw [H1.out]
    rintro e w1 ⟨rfl, he⟩
    have c0 := he.box 0 (.int .i64 u) rfl
    go_wp2_with fail
    refine (HP.out _).mono ?_
    rintro e w2 ⟨rfl, rfl⟩
    have e1 : Ext w w1 := by (repeat (first | with_reducible exact Ext.refl _ | with_reducible assumption | ((with_reducible refine Ext.setCell ?_ ?_ _); rotate_left; focus (first | omega | (simp <;> omega))) | with_reducible refine Ext.alloc ?_ _ | with_reducible refine Ext.drewN ?_ _ | with_reducible refine Ext.drew ?_ | with_reducible refine Ext.trans ?_ (by with_reducible assumption)))
    clear he
    go_wp2_with fail
    refine wp_loopF 29 _ rfl rfl [1] rfl (fun fr wr => Ext w wr ∧ ∃ i : Nat, i ≤ m ∧ (fr 5) = .int .i64 i ∧ Hid ((tb.take i).all (fun x => within x 0 1000000) = true)) (fun fr wr => m - (intOf (fr 5)).toNat) ?_ ?_
    · (exact ⟨e1, 0, by omega, rfl, by simp [Hid]⟩)
    intro ks fr wr hkept hrel; (try dsimp only at hrel)
    change Code.wp _ _ _ ⟨#[fr 0, ks 1, fr 2, fr 3, fr 4, fr 5, fr 6, fr 7, fr 8, fr 9, fr 10, fr 11, fr 12, fr 13, fr 14, fr 15, fr 16, fr 17, fr 18, fr 19, fr 20, fr 21, fr 22, fr 23, fr 24, fr 25, fr 26, fr 27, fr 28], []⟩ wr
    simp only [KeptV, List.getD_cons_zero, List.getD_cons_succ] at hkept; obtain ⟨hk1, -⟩ := hkept
    generalize ks 1 = k1 at hk1 ⊢; subst hk1
    generalize fr 5 = s5 at hrel ⊢
    obtain ⟨he, i, hi, hs1, hq⟩ := hrel
    subst hs1
    by_cases hlt : i < m
    · obtain ⟨ad, x, rfl, hx, hcx⟩ := (k.ext he).at_ hlt
      cases hw : within x 0 1000000
      · have hq2 : Hid (r = false) := hide (by rw [← HR.out]; exact all_false_of hx hw)
        have HW := hide hw
        clear hw
        go_wp2_with fail
        refine (l1In_c _ _ _ _).mono ?_
        rw [HW.out]
        rintro e w3 ⟨rfl, rfl⟩
        go_wp2
        go_ret; exact ⟨ret_bool hq2.out.symm, by (repeat (first | with_reducible exact Ext.refl _ | with_reducible assumption | ((with_reducible refine Ext.setCell ?_ ?_ _); rotate_left; focus (first | omega | (simp <;> omega))) | with_reducible refine Ext.alloc ?_ _ | with_reducible refine Ext.drewN ?_ _ | with_reducible refine Ext.drew ?_ | with_reducible refine Ext.trans ?_ (by with_reducible assumption)))⟩
      · have hq2 := all_take_succ hx hq hw
        have HW := hide hw
        clear hw
        go_wp2_with fail
        refine (l1In_c _ _ _ _).mono ?_
        rw [HW.out]
        rintro e w3 ⟨rfl, rfl⟩
        go_wp2
        exact ⟨⟨(by (repeat (first | exact trivial | refine ⟨rfl, ?_⟩))), by (repeat (first | with_reducible exact Ext.refl _ | with_reducible assumption | ((with_reducible refine Ext.setCell ?_ ?_ _); rotate_left; focus (first | omega | (simp <;> omega))) | with_reducible refine Ext.alloc ?_ _ | with_reducible refine Ext.drewN ?_ _ | with_reducible refine Ext.drew ?_ | with_reducible refine Ext.trans ?_ (by with_reducible assumption))), i + 1, by omega, by go_num, hq2⟩, (by simp [intOf] <;> omega)⟩
    · obtain rfl : i = m := by omega
      have hq2 : Hid (r = true) := hide (by rw [← HR.out]; exact all_take_all hq (by rw [HL.out]; exact Nat.le_refl _))
      go_wp2
      go_ret; exact ⟨ret_bool hq2.out.symm, by (repeat (first | with_reducible exact Ext.refl _ | with_reducible assumption | ((with_reducible refine Ext.setCell ?_ ?_ _); rotate_left; focus (first | omega | (simp <;> omega))) | with_reducible refine Ext.alloc ?_ _ | with_reducible refine Ext.drewN ?_ _ | with_reducible refine Ext.drew ?_ | with_reducible refine Ext.trans ?_ (by with_reducible assumption)))⟩
  · rw [show decide (m = N) = false by simpa using hmN, Bool.false_and]
    have hmm : ((m : Int) == (N : Int)) = false := by simp; omega
    have hmm2 : ((m : Int) != (N : Int)) = true := by simp; omega
    go_enter Try.func63, Try.ntmps63
    go_wp2_with fail
    refine (l12Takes_c _ _ _ _ cls _ (h.ext (by (repeat (first | with_reducible exact Ext.refl _ | with_reducible assumption | ((with_reducible refine Ext.setCell ?_ ?_ _); rotate_left; focus (first | omega | (simp <;> omega))) | with_reducible refine Ext.alloc ?_ _ | with_reducible refine Ext.drewN ?_ _ | with_reducible refine Ext.drew ?_ | with_reducible refine Ext.trans ?_ (by with_reducible assumption)))))).mono ?_
    rw [H1.out]
    rintro e w1 ⟨rfl, he⟩
    have c0 := he.box 0 (.int .i64 u) rfl
    go_wp2_with fail
    refine (HP.out _).mono ?_
    rintro e w2 ⟨rfl, rfl⟩
    go_wp2
    go_ret; exact ⟨rfl, by (repeat (first | with_reducible exact Ext.refl _ | with_reducible assumption | ((with_reducible refine Ext.setCell ?_ ?_ _); rotate_left; focus (first | omega | (simp <;> omega))) | with_reducible refine Ext.alloc ?_ _ | with_reducible refine Ext.drewN ?_ _ | with_reducible refine Ext.drew ?_ | with_reducible refine Ext.trans ?_ (by with_reducible assumption)))⟩
theorem tableGame_lit_c (x : Int) (w : World) :
    Calls Try.prog 109 #[.int .i64 x] w fun e w' => e = .returned (.bool (!within x 0 1000000)) ∧ Ext w w' := by
  go_enter Try.func109, Try.ntmps109
  go_wp2_with fail
  refine (within_c _ _ _ _).mono ?_
  rintro e w1 ⟨rfl, rfl⟩
  go_wp2
  go_ret; exact ⟨rfl, by (repeat (first | with_reducible exact Ext.refl _ | with_reducible assumption | ((with_reducible refine Ext.setCell ?_ ?_ _); rotate_left; focus (first | omega | (simp <;> omega))) | with_reducible refine Ext.alloc ?_ _ | with_reducible refine Ext.drewN ?_ _ | with_reducible refine Ext.drew ?_ | with_reducible refine Ext.trans ?_ (by with_reducible assumption)))⟩
theorem tableGame_lit_enters : Enters Try.prog 109 := enters_of Try.func109 (by kernel_rfl) (by kernel_rfl)
set_option maxRecDepth 100000 in
set_option maxHeartbeats 1600000 in
theorem tableGame_no (v : Int) (A : Option Addr) (n d : Nat) (cls : List (List Int)) (B : Option Addr) (m q : Nat) (tb : List Int) (w : World) (h : Intss w A n cls) (k : Ints w B m tb) (ht : tblOk v cls tb = false) :
    Calls Try.prog 68 #[.agg #[.int .i64 v, .slice A n d], .slice B m q] w fun e w' => e = .returned (.tuple #[.pointer none, .bool false]) ∧ Ext w w' := by
  have HL := hide k.len
  have hb := k.bound
  rcases and2_false ht with h1 | ⟨h1, h2⟩
  · have H1 := hide h1
    clear h1 ht
    go_enter Try.func68, Try.ntmps68
    go_wp2_with fail
    refine (newGame_no _ _ _ _ cls _ (h.ext (by (repeat (first | with_reducible exact Ext.refl _ | with_reducible assumption | ((with_reducible refine Ext.setCell ?_ ?_ _); rotate_left; focus (first | omega | (simp <;> omega))) | with_reducible refine Ext.alloc ?_ _ | with_reducible refine Ext.drewN ?_ _ | with_reducible refine Ext.drew ?_ | with_reducible refine Ext.trans ?_ (by with_reducible assumption))))) H1.out).mono ?_
    rintro e w1 ⟨rfl, he⟩
    go_wp2
    go_ret2; exact ⟨rfl, by (repeat (first | with_reducible exact Ext.refl _ | with_reducible assumption | ((with_reducible refine Ext.setCell ?_ ?_ _); rotate_left; focus (first | omega | (simp <;> omega))) | with_reducible refine Ext.alloc ?_ _ | with_reducible refine Ext.drewN ?_ _ | with_reducible refine Ext.drew ?_ | with_reducible refine Ext.trans ?_ (by with_reducible assumption)))⟩
  obtain ⟨_, hv, _⟩ := takes_facts h1
  obtain ⟨u, rfl⟩ := int_nat hv.1
  rw [show ((u : Int)).toNat = u by omega] at h2
  have H1 := hide h1
  have hNG := fun W (hI : Intss W A n cls) => newGame_yes u A n d cls W hI H1.out
  generalize pow3 u = N at *
  have HNG := hide hNG
  clear h1 ht hNG
  rw [← HL.out] at h2
  rcases and2_false h2 with h3 | ⟨h3, h4⟩
  · have hmm : ((m : Int) == (N : Int)) = false := by simp at h3; simp; omega
    have hmm2 : ((m : Int) != (N : Int)) = true := by simp at h3; simp; omega
    clear h2 h3
    go_enter Try.func68, Try.ntmps68
    go_wp2_with fail
    refine (HNG.out _ (h.ext (by (repeat (first | with_reducible exact Ext.refl _ | with_reducible assumption | ((with_reducible refine Ext.setCell ?_ ?_ _); rotate_left; focus (first | omega | (simp <;> omega))) | with_reducible refine Ext.alloc ?_ _ | with_reducible refine Ext.drewN ?_ _ | with_reducible refine Ext.drew ?_ | with_reducible refine Ext.trans ?_ (by with_reducible assumption)))))).mono ?_
    rintro e w1 ⟨b, g0, g1, g2, g3, ov, rfl, hG, hov, he⟩
    have hov := hide hov
    have e3 := hG.box.cell 3 (.slice (some ⟨g1, 0, none⟩) N N) rfl
    go_wp2
    go_ret2; exact ⟨rfl, by (repeat (first | with_reducible exact Ext.refl _ | with_reducible assumption | ((with_reducible refine Ext.setCell ?_ ?_ _); rotate_left; focus (first | omega | (simp <;> omega))) | with_reducible refine Ext.alloc ?_ _ | with_reducible refine Ext.drewN ?_ _ | with_reducible refine Ext.drew ?_ | with_reducible refine Ext.trans ?_ (by with_reducible assumption)))⟩
  · have hmN : m = N := by simpa using h3
    subst hmN
    have hmm : ((m : Int) == (m : Int)) = true := by simp
    have hany : tb.any (fun x => !within x 0 1000000) = true := by
      rw [← List.not_all_eq_any_not, h4]; rfl
    clear h2 h3 h4
    have HC := fun W (hk : Ints W B m tb) => ContainsFunc_int_c 109 #[] (fun x => !within x 0 1000000) B m q tb W hk tableGame_lit_enters (fun x wr _ _ => by simpa using tableGame_lit_c x wr)
    rw [hany] at HC
    have HC := hide HC
    clear hany
    go_enter Try.func68, Try.ntmps68
    go_wp2_with fail
    refine (HNG.out _ (h.ext (by (repeat (first | with_reducible exact Ext.refl _ | with_reducible assumption | ((with_reducible refine Ext.setCell ?_ ?_ _); rotate_left; focus (first | omega | (simp <;> omega))) | with_reducible refine Ext.alloc ?_ _ | with_reducible refine Ext.drewN ?_ _ | with_reducible refine Ext.drew ?_ | with_reducible refine Ext.trans ?_ (by with_reducible assumption)))))).mono ?_
    rintro e w1 ⟨b, g0, g1, g2, g3, ov, rfl, hG, hov, he⟩
    have hov := hide hov
    have e3 := hG.box.cell 3 (.slice (some ⟨g1, 0, none⟩) m m) rfl
    go_wp2_with fail
    refine (HC.out _ (k.ext (by (repeat (first | with_reducible exact Ext.refl _ | with_reducible assumption | ((with_reducible refine Ext.setCell ?_ ?_ _); rotate_left; focus (first | omega | (simp <;> omega))) | with_reducible refine Ext.alloc ?_ _ | with_reducible refine Ext.drewN ?_ _ | with_reducible refine Ext.drew ?_ | with_reducible refine Ext.trans ?_ (by with_reducible assumption)))))).mono ?_
    rintro e w2 ⟨rfl, he2⟩
    go_wp2
    go_ret2; exact ⟨rfl, by (repeat (first | with_reducible exact Ext.refl _ | with_reducible assumption | ((with_reducible refine Ext.setCell ?_ ?_ _); rotate_left; focus (first | omega | (simp <;> omega))) | with_reducible refine Ext.alloc ?_ _ | with_reducible refine Ext.drewN ?_ _ | with_reducible refine Ext.drew ?_ | with_reducible refine Ext.trans ?_ (by with_reducible assumption)))⟩
set_option maxRecDepth 100000 in
set_option maxHeartbeats 1600000 in
theorem tableGame_yes (u : Nat) (A : Option Addr) (n d : Nat) (cls : List (List Int)) (B : Option Addr) (m q : Nat) (tb : List Int) (w : World) (h : Intss w A n cls) (k : Ints w B m tb) (ht : tblOk u cls tb = true) :
    Calls Try.prog 68 #[.agg #[.int .i64 u, .slice A n d], .slice B m q] w fun e w' => ∃ b g0 g1 g2 g3 ov, e = .returned (.tuple #[.pointer (some ⟨b, 0, none⟩), .bool true]) ∧
      GameAt w' w.heap.size b g0 g1 g2 g3 u A n d (pow3 u) ov (gAll u cls) ∧ (∀ c, c < pow3 u → ov.getD c false = falseAny cls (codeLits u 1 c)) ∧ Ext w w' := by
  have HL := hide k.len
  have hb := k.bound
  obtain ⟨h1, h2⟩ := and2_true ht
  rw [show ((u : Int)).toNat = u by omega] at h2
  obtain ⟨h3, h4⟩ := and2_true h2
  have H1 := hide h1
  have hNG := fun W (hI : Intss W A n cls) => newGame_yes u A n d cls W hI H1.out
  generalize pow3 u = N at *
  have HNG := hide hNG
  rw [← HL.out] at h3
  have hmN : m = N := by simpa using h3
  subst hmN
  have hmm : ((m : Int) == (m : Int)) = true := by simp
  have hany : tb.any (fun x => !within x 0 1000000) = false := by
    rw [← List.not_all_eq_any_not, h4]; rfl
  have HC := fun W (hk : Ints W B m tb) => ContainsFunc_int_c 109 #[] (fun x => !within x 0 1000000) B m q tb W hk tableGame_lit_enters (fun x wr _ _ => by simpa using tableGame_lit_c x wr)
  rw [hany] at HC
  have HC := hide HC
  clear hany h1 h2 h3 h4 ht hNG
  go_enter Try.func68, Try.ntmps68
  go_wp2_with fail
  refine (HNG.out _ (h.ext (by (repeat (first | with_reducible exact Ext.refl _ | with_reducible assumption | ((with_reducible refine Ext.setCell ?_ ?_ _); rotate_left; focus (first | omega | (simp <;> omega))) | with_reducible refine Ext.alloc ?_ _ | with_reducible refine Ext.drewN ?_ _ | with_reducible refine Ext.drew ?_ | with_reducible refine Ext.trans ?_ (by with_reducible assumption)))))).mono ?_
  rintro e w1 ⟨b, g0, g1, g2, g3, ov, rfl, hG, hov, he⟩
  have hov := hide hov
  have e3 := hG.box.cell 3 (.slice (some ⟨g1, 0, none⟩) m m) rfl
  go_wp2_with fail
  refine (HC.out _ (k.ext (by (repeat (first | with_reducible exact Ext.refl _ | with_reducible assumption | ((with_reducible refine Ext.setCell ?_ ?_ _); rotate_left; focus (first | omega | (simp <;> omega))) | with_reducible refine Ext.alloc ?_ _ | with_reducible refine Ext.drewN ?_ _ | with_reducible refine Ext.drew ?_ | with_reducible refine Ext.trans ?_ (by with_reducible assumption)))))).mono ?_
  rintro e w2 ⟨rfl, he2⟩
  have hG2 := hG.ext he2
  go_wp2
  go_ret2
  refine ⟨b, g0, g1, g2, g3, ov, rfl, ?_, hov.out, by (repeat (first | with_reducible exact Ext.refl _ | with_reducible assumption | ((with_reducible refine Ext.setCell ?_ ?_ _); rotate_left; focus (first | omega | (simp <;> omega))) | with_reducible refine Ext.alloc ?_ _ | with_reducible refine Ext.drewN ?_ _ | with_reducible refine Ext.drew ?_ | with_reducible refine Ext.trans ?_ (by with_reducible assumption)))⟩
  exact ⟨hG2.box, hG2.over, ⟨hG2.tab.o1, hG2.tab.o2, hG2.tab.o3, hG2.tab.full, hG2.tab.ne, by have := hG2.tab.lo; simp at this; omega⟩, hG2.len, hG2.ne, by have := hG2.lo; simp at this; omega⟩
set_option maxRecDepth 100000 in
theorem tablePoints_c (S : Option Addr) (N c : Nat) (tb : List Int) (code u : Nat) (w : World) (hS : Ints w S N tb) (hu : u ≤ 5) (hN : gYes code (u + 1) < N) (hN2 : N ≤ 729) :
    Calls Try.prog 72 #[.slice S N c, .int .i64 code, .int .i64 ((u : Int) + 1)] w fun e w' =>
      e = .returned (.agg #[.int .i64 (wrap64 (1 + min (tb.getD (gNo code (u + 1)) 0) (tb.getD (gYes code (u + 1)) 0))), .int .i64 (tb.getD (gNo code (u + 1)) 0), .int .i64 (tb.getD (gYes code (u + 1)) 0)]) ∧ Ext w w' := by
  have HPT := hide (fun b W (he : Ext w W) hb => points_c b S N c tb code u W (hS.ext he) hb hu hN hN2)
  generalize tb.getD (gNo code (u + 1)) 0 = s1 at *
  generalize tb.getD (gYes code (u + 1)) 0 = s2 at *
  generalize wrap64 (1 + min s1 s2) = Q1 at *
  clear hS hN
  go_enter Try.func72, Try.ntmps72
  go_wp2_with fail
  refine (HPT.out (w.heap.size + 1) _ (by (repeat (first | with_reducible exact Ext.refl _ | with_reducible assumption | ((with_reducible refine Ext.setCell ?_ ?_ _); rotate_left; focus (first | omega | (simp <;> omega))) | with_reducible refine Ext.alloc ?_ _ | with_reducible refine Ext.drewN ?_ _ | with_reducible refine Ext.drew ?_ | with_reducible refine Ext.trans ?_ (by with_reducible assumption)))) (by simp [go_sem])).mono ?_
  rintro e w1 ⟨rfl, he1⟩
  have hbx : BoxAt w1 w.heap.size 83 #[.int .i64 0, .int .i64 0, .int .i64 0] := ((BoxAt.made w _ _).alloc_old).ext he1
  have k0 := hbx.cell 0 (.int .i64 0) rfl
  have k1 := hbx.cell 1 (.int .i64 0) rfl
  have k2 := hbx.cell 2 (.int .i64 0) rfl
  have y0 := hbx.frozen 0
  have y1 := hbx.frozen 1
  have y2 := hbx.frozen 2
  have hlt := hbx.lt
  have ew : Ext w w1 := by (repeat (first | with_reducible exact Ext.refl _ | with_reducible assumption | ((with_reducible refine Ext.setCell ?_ ?_ _); rotate_left; focus (first | omega | (simp <;> omega))) | with_reducible refine Ext.alloc ?_ _ | with_reducible refine Ext.drewN ?_ _ | with_reducible refine Ext.drew ?_ | with_reducible refine Ext.trans ?_ (by with_reducible assumption)))
  go_wp2
  refine bodyPost_ret (v := .agg #[.int .i64 Q1, .int .i64 s1, .int .i64 s2]) (by simp only [results, Try.results72]; simp [go_sem, k0, k1, k2, hlt]) rfl ⟨rfl, ?_⟩
  exact Ext.setCell (Ext.setCell (Ext.setCell ew (by simp) _) (by simp) _) (by simp) _
end Go.Proofs.Ytmpfhibncnamnaa
