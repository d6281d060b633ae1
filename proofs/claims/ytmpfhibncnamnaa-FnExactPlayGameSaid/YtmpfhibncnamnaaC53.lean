/-
  DelayerAnswer.
-/
import Derived.Test.YtmpfhibncnamnaaC52
namespace Go.Proofs.Ytmpfhibncnamnaa
set_option linter.unusedSimpArgs false
set_option linter.unusedVariables false
open Go.RowKit

def answerOk (v : Int) (cls : List (List Int)) (a : List Int) (x : Int) : Bool := askedOpen v cls a && within x 1 v && openL a x
def delayerAns (v : Int) (cls : List (List Int)) (a : List Int) (x : Int) : Int := if answerOk v cls a x then answerOf (gAll v.toNat cls) (codeOf a) x.toNat else 0
set_option maxRecDepth 100000 in
set_option maxHeartbeats 4000000 in
theorem spec_DelayerAnswer_c (v : Int) (A : Option Addr) (n d : Nat) (cls : List (List Int)) (B : Option Addr) (m q : Nat) (a : List Int) (x : Int) (w : World) (h : Intss w A n cls) (k : Ints w B m a) :
    Calls Try.prog 41 #[.agg #[.int .i64 v, .slice A n d], .slice B m q, .int .i64 x] w fun e w' => e = .returned (.tuple #[.int .i64 (delayerAns v cls a x), .bool (answerOk v cls a x)]) ∧ Ext w w' := by
  unfold delayerAns
  cases h0 : asked v cls a
  · have hF : answerOk v cls a x = false := by simp [answerOk, askedOpen, h0]
    rw [hF]
    simp only [Bool.false_eq_true, if_false]
    clear hF
    go_enter Try.func41, Try.ntmps41
    go_wp2_with fail
    refine (l12Asked_c _ _ _ _ cls _ _ _ a _ (h.ext (by (repeat (first | with_reducible exact Ext.refl _ | with_reducible assumption | ((with_reducible refine Ext.setCell ?_ ?_ _); rotate_left; focus (first | omega | (simp <;> omega))) | with_reducible refine Ext.alloc ?_ _ | with_reducible refine Ext.drewN ?_ _ | with_reducible refine Ext.drew ?_ | with_reducible refine Ext.trans ?_ (by with_reducible assumption))))) (k.ext (by (repeat (first | with_reducible exact Ext.refl _ | with_reducible assumption | ((with_reducible refine Ext.setCell ?_ ?_ _); rotate_left; focus (first | omega | (simp <;> omega))) | with_reducible refine Ext.alloc ?_ _ | with_reducible refine Ext.drewN ?_ _ | with_reducible refine Ext.drew ?_ | with_reducible refine Ext.trans ?_ (by with_reducible assumption)))))).mono ?_
    rw [h0]
    rintro e w1 ⟨rfl, he⟩
    go_wp2
    go_ret2; exact ⟨rfl, by (repeat (first | with_reducible exact Ext.refl _ | with_reducible assumption | ((with_reducible refine Ext.setCell ?_ ?_ _); rotate_left; focus (first | omega | (simp <;> omega))) | with_reducible refine Ext.alloc ?_ _ | with_reducible refine Ext.drewN ?_ _ | with_reducible refine Ext.drew ?_ | with_reducible refine Ext.trans ?_ (by with_reducible assumption)))⟩
  obtain ⟨ht, ha⟩ := and2_true h0
  obtain ⟨hc, hv, _⟩ := takes_facts ht
  have HC := hide (fun c hcc => (cnf_lits hc c hcc).2)
  obtain ⟨u, rfl⟩ := int_nat hv.1
  obtain ⟨hrt, hcd⟩ := asg_code ha
  obtain ⟨_, hc6, hlen⟩ := clause_facts ha
  have hm6 : m ≤ 6 := by have := k.len; omega
  have HC6 := hide (show ∀ x ∈ a, -6 ≤ x ∧ x ≤ 6 ∧ x ≠ 0 from fun x hx => by have := hc6 x hx; omega)
  have H0 := hide h0
  cases h2 : falseAny cls a
  rotate_left
  · have hF : answerOk u cls a x = false := by simp [answerOk, askedOpen, h2]
    rw [hF]
    simp only [Bool.false_eq_true, if_false]
    have H2 := hide h2
    clear hF h2 h0 ht ha hc hrt hcd hc6 hlen
    go_enter Try.func41, Try.ntmps41
    go_wp2_with fail
    refine (l12Asked_c _ _ _ _ cls _ _ _ a _ (h.ext (by (repeat (first | with_reducible exact Ext.refl _ | with_reducible assumption | ((with_reducible refine Ext.setCell ?_ ?_ _); rotate_left; focus (first | omega | (simp <;> omega))) | with_reducible refine Ext.alloc ?_ _ | with_reducible refine Ext.drewN ?_ _ | with_reducible refine Ext.drew ?_ | with_reducible refine Ext.trans ?_ (by with_reducible assumption))))) (k.ext (by (repeat (first | with_reducible exact Ext.refl _ | with_reducible assumption | ((with_reducible refine Ext.setCell ?_ ?_ _); rotate_left; focus (first | omega | (simp <;> omega))) | with_reducible refine Ext.alloc ?_ _ | with_reducible refine Ext.drewN ?_ _ | with_reducible refine Ext.drew ?_ | with_reducible refine Ext.trans ?_ (by with_reducible assumption)))))).mono ?_
    rw [H0.out]
    rintro e w1 ⟨rfl, he⟩
    have c0 := he.box 0 (.int .i64 u) rfl
    have c1 := he.box 1 (.slice A n d) rfl
    go_wp2_with fail
    refine (l12False_c u A n d cls B m q a _ (h.ext (by (repeat (first | with_reducible exact Ext.refl _ | with_reducible assumption | ((with_reducible refine Ext.setCell ?_ ?_ _); rotate_left; focus (first | omega | (simp <;> omega))) | with_reducible refine Ext.alloc ?_ _ | with_reducible refine Ext.drewN ?_ _ | with_reducible refine Ext.drew ?_ | with_reducible refine Ext.trans ?_ (by with_reducible assumption))))) (k.ext (by (repeat (first | with_reducible exact Ext.refl _ | with_reducible assumption | ((with_reducible refine Ext.setCell ?_ ?_ _); rotate_left; focus (first | omega | (simp <;> omega))) | with_reducible refine Ext.alloc ?_ _ | with_reducible refine Ext.drewN ?_ _ | with_reducible refine Ext.drew ?_ | with_reducible refine Ext.trans ?_ (by with_reducible assumption))))) HC.out).mono ?_
    rw [H2.out]
    rintro e w2 ⟨rfl, he2⟩
    go_wp2
    go_ret2; exact ⟨rfl, by (repeat (first | with_reducible exact Ext.refl _ | with_reducible assumption | ((with_reducible refine Ext.setCell ?_ ?_ _); rotate_left; focus (first | omega | (simp <;> omega))) | with_reducible refine Ext.alloc ?_ _ | with_reducible refine Ext.drewN ?_ _ | with_reducible refine Ext.drew ?_ | with_reducible refine Ext.trans ?_ (by with_reducible assumption)))⟩
  cases h3 : within x 1 u
  · have hF : answerOk u cls a x = false := by simp [answerOk, h3]
    rw [hF]
    simp only [Bool.false_eq_true, if_false]
    have H2 := hide h2
    have H3 := hide h3
    clear hF h2 h3 h0 ht ha hc hrt hcd hc6 hlen
    go_enter Try.func41, Try.ntmps41
    go_wp2_with fail
    refine (l12Asked_c _ _ _ _ cls _ _ _ a _ (h.ext (by (repeat (first | with_reducible exact Ext.refl _ | with_reducible assumption | ((with_reducible refine Ext.setCell ?_ ?_ _); rotate_left; focus (first | omega | (simp <;> omega))) | with_reducible refine Ext.alloc ?_ _ | with_reducible refine Ext.drewN ?_ _ | with_reducible refine Ext.drew ?_ | with_reducible refine Ext.trans ?_ (by with_reducible assumption))))) (k.ext (by (repeat (first | with_reducible exact Ext.refl _ | with_reducible assumption | ((with_reducible refine Ext.setCell ?_ ?_ _); rotate_left; focus (first | omega | (simp <;> omega))) | with_reducible refine Ext.alloc ?_ _ | with_reducible refine Ext.drewN ?_ _ | with_reducible refine Ext.drew ?_ | with_reducible refine Ext.trans ?_ (by with_reducible assumption)))))).mono ?_
    rw [H0.out]
    rintro e w1 ⟨rfl, he⟩
    have c0 := he.box 0 (.int .i64 u) rfl
    have c1 := he.box 1 (.slice A n d) rfl
    go_wp2_with fail
    refine (l12False_c u A n d cls B m q a _ (h.ext (by (repeat (first | with_reducible exact Ext.refl _ | with_reducible assumption | ((with_reducible refine Ext.setCell ?_ ?_ _); rotate_left; focus (first | omega | (simp <;> omega))) | with_reducible refine Ext.alloc ?_ _ | with_reducible refine Ext.drewN ?_ _ | with_reducible refine Ext.drew ?_ | with_reducible refine Ext.trans ?_ (by with_reducible assumption))))) (k.ext (by (repeat (first | with_reducible exact Ext.refl _ | with_reducible assumption | ((with_reducible refine Ext.setCell ?_ ?_ _); rotate_left; focus (first | omega | (simp <;> omega))) | with_reducible refine Ext.alloc ?_ _ | with_reducible refine Ext.drewN ?_ _ | with_reducible refine Ext.drew ?_ | with_reducible refine Ext.trans ?_ (by with_reducible assumption))))) HC.out).mono ?_
    rw [H2.out]
    rintro e w2 ⟨rfl, he2⟩
    have c0 := he2.cell c0
    go_wp2_with fail
    refine (l1In_c _ _ _ _).mono ?_
    rw [H3.out]
    rintro e w3 ⟨rfl, rfl⟩
    go_wp2
    go_ret2; exact ⟨rfl, by (repeat (first | with_reducible exact Ext.refl _ | with_reducible assumption | ((with_reducible refine Ext.setCell ?_ ?_ _); rotate_left; focus (first | omega | (simp <;> omega))) | with_reducible refine Ext.alloc ?_ _ | with_reducible refine Ext.drewN ?_ _ | with_reducible refine Ext.drew ?_ | with_reducible refine Ext.trans ?_ (by with_reducible assumption)))⟩
  have hx := within_true h3
  obtain ⟨t, rfl⟩ : ∃ t : Nat, x = (t : Int) + 1 := ⟨(x - 1).toNat, by omega⟩
  have ho := openL_has a ((t : Int) + 1)
  have hwn : wrap64 (-((t : Int) + 1)) = -((t : Int) + 1) := by unfold wrap64; omega
  have hmain : Calls Try.prog 41 #[.agg #[.int .i64 u, .slice A n d], .slice B m q, .int .i64 ((t : Int) + 1)] w fun e w' => e = .returned (.tuple #[.int .i64 (if openL a ((t : Int) + 1) then answerOf (gAll u cls) (codeOf a) (t + 1) else 0), .bool (openL a ((t : Int) + 1))]) ∧ Ext w w' := by
    have H2 := hide h2
    have H3 := hide h3
    cases h4 : hasInt ((t : Int) + 1) a
    · cases h5 : hasInt (-((t : Int) + 1)) a
      · have hot : openL a ((t : Int) + 1) = true := by rw [ho, h4, h5]; rfl
        rw [hot]
        simp only [if_true]
        have hopc : openAt (codeOf a) (t + 1) = true := by
          have := codeLits_openAt (n := u) (code := codeOf a) (v := t + 1) (by omega) (by omega)
          rw [hrt] at this
          rw [← this]; exact hot
        have hcodes := open_codes hcd (v := t + 1) ⟨by omega, by omega⟩ hopc
        have H4 := hide h4
        have H5 := hide h5
        have hN6 : pow3 u ≤ 729 := by have := pow3_mono (show u ≤ 6 by omega); have h6 : pow3 6 = 729 := rfl; omega
        obtain ⟨code, hcode⟩ : ∃ c, codeOf a = c := ⟨_, rfl⟩
        rw [hcode] at hcodes hopc ⊢
        have HCD := hide hcode
        have HOP := hide hopc
        have HCO := hide hcodes
        clear h0 h2 h3 h4 h5 ho hot hopc hcodes hcode ht ha hc hrt hcd hc6 hlen
        go_enter Try.func41, Try.ntmps41
        go_wp2_with fail
        refine (l12Asked_c _ _ _ _ cls _ _ _ a _ (h.ext (by (repeat (first | with_reducible exact Ext.refl _ | with_reducible assumption | ((with_reducible refine Ext.setCell ?_ ?_ _); rotate_left; focus (first | omega | (simp <;> omega))) | with_reducible refine Ext.alloc ?_ _ | with_reducible refine Ext.drewN ?_ _ | with_reducible refine Ext.drew ?_ | with_reducible refine Ext.trans ?_ (by with_reducible assumption))))) (k.ext (by (repeat (first | with_reducible exact Ext.refl _ | with_reducible assumption | ((with_reducible refine Ext.setCell ?_ ?_ _); rotate_left; focus (first | omega | (simp <;> omega))) | with_reducible refine Ext.alloc ?_ _ | with_reducible refine Ext.drewN ?_ _ | with_reducible refine Ext.drew ?_ | with_reducible refine Ext.trans ?_ (by with_reducible assumption)))))).mono ?_
        rw [H0.out]
        rintro e w1 ⟨rfl, he⟩
        have c0 := he.box 0 (.int .i64 u) rfl
        have c1 := he.box 1 (.slice A n d) rfl
        go_wp2_with fail
        refine (l12False_c u A n d cls B m q a _ (h.ext (by (repeat (first | with_reducible exact Ext.refl _ | with_reducible assumption | ((with_reducible refine Ext.setCell ?_ ?_ _); rotate_left; focus (first | omega | (simp <;> omega))) | with_reducible refine Ext.alloc ?_ _ | with_reducible refine Ext.drewN ?_ _ | with_reducible refine Ext.drew ?_ | with_reducible refine Ext.trans ?_ (by with_reducible assumption))))) (k.ext (by (repeat (first | with_reducible exact Ext.refl _ | with_reducible assumption | ((with_reducible refine Ext.setCell ?_ ?_ _); rotate_left; focus (first | omega | (simp <;> omega))) | with_reducible refine Ext.alloc ?_ _ | with_reducible refine Ext.drewN ?_ _ | with_reducible refine Ext.drew ?_ | with_reducible refine Ext.trans ?_ (by with_reducible assumption))))) HC.out).mono ?_
        rw [H2.out]
        rintro e w2 ⟨rfl, he2⟩
        have c0 := he2.cell c0
        have c1 := he2.cell c1
        go_wp2_with fail
        refine (l1In_c _ _ _ _).mono ?_
        rw [H3.out]
        rintro e w3 ⟨rfl, rfl⟩
        go_wp2_with fail
        refine (l2Has_c _ _ _ _ a _ (k.ext (by (repeat (first | with_reducible exact Ext.refl _ | with_reducible assumption | ((with_reducible refine Ext.setCell ?_ ?_ _); rotate_left; focus (first | omega | (simp <;> omega))) | with_reducible refine Ext.alloc ?_ _ | with_reducible refine Ext.drewN ?_ _ | with_reducible refine Ext.drew ?_ | with_reducible refine Ext.trans ?_ (by with_reducible assumption)))))).mono ?_
        rw [H4.out]
        rintro e w4 ⟨rfl, he4⟩
        have c0 := he4.cell c0
        have c1 := he4.cell c1
        go_wp2_with fail
        refine (l2Has_c _ _ _ _ a _ (k.ext (by (repeat (first | with_reducible exact Ext.refl _ | with_reducible assumption | ((with_reducible refine Ext.setCell ?_ ?_ _); rotate_left; focus (first | omega | (simp <;> omega))) | with_reducible refine Ext.alloc ?_ _ | with_reducible refine Ext.drewN ?_ _ | with_reducible refine Ext.drew ?_ | with_reducible refine Ext.trans ?_ (by with_reducible assumption)))))).mono ?_
        (try rw [hwn])
        (try rw [show -1 - (t : Int) = -((t : Int) + 1) by omega])
        (try rw [show -1 + -(t : Int) = -((t : Int) + 1) by omega])
        rw [H5.out]
        rintro e w5 ⟨rfl, he5⟩
        have c0 := he5.cell c0
        have c1 := he5.cell c1
        go_wp2_with fail
        refine (l12Play_c u A n d cls _ (h.ext (by (repeat (first | with_reducible exact Ext.refl _ | with_reducible assumption | ((with_reducible refine Ext.setCell ?_ ?_ _); rotate_left; focus (first | omega | (simp <;> omega))) | with_reducible refine Ext.alloc ?_ _ | with_reducible refine Ext.drewN ?_ _ | with_reducible refine Ext.drew ?_ | with_reducible refine Ext.trans ?_ (by with_reducible assumption))))) (by omega) HC.out).mono ?_
        rintro e w6 ⟨g1, g2, g3, rfl, hT, he6⟩
        go_wp2_with fail
        refine (l12Code_c B m q a _ (k.ext (by (repeat (first | with_reducible exact Ext.refl _ | with_reducible assumption | ((with_reducible refine Ext.setCell ?_ ?_ _); rotate_left; focus (first | omega | (simp <;> omega))) | with_reducible refine Ext.alloc ?_ _ | with_reducible refine Ext.drewN ?_ _ | with_reducible refine Ext.drew ?_ | with_reducible refine Ext.trans ?_ (by with_reducible assumption))))) hm6 HC6.out).mono ?_
        rw [HCD.out]
        rintro e w7 ⟨rfl, he7⟩
        go_wp2_with fail
        refine (l12Answer_c _ g1 g2 g3 code t (pow3 u) (gAll u cls) _ (hT.ext he7) (by omega) (by have := HCO.out; omega) hN6 HOP.out).mono ?_
        rintro e w8 ⟨rfl, he8⟩
        go_wp2
        go_ret2; exact ⟨rfl, by (repeat (first | with_reducible exact Ext.refl _ | with_reducible assumption | ((with_reducible refine Ext.setCell ?_ ?_ _); rotate_left; focus (first | omega | (simp <;> omega))) | with_reducible refine Ext.alloc ?_ _ | with_reducible refine Ext.drewN ?_ _ | with_reducible refine Ext.drew ?_ | with_reducible refine Ext.trans ?_ (by with_reducible assumption)))⟩
      · have hot : openL a ((t : Int) + 1) = false := by rw [ho, h4, h5]; rfl
        rw [hot]
        simp only [Bool.false_eq_true, if_false]
        have H4 := hide h4
        have H5 := hide h5
        clear h0 h2 h3 h4 h5 ho hot ht ha hc hrt hcd hc6 hlen
        go_enter Try.func41, Try.ntmps41
        go_wp2_with fail
        refine (l12Asked_c _ _ _ _ cls _ _ _ a _ (h.ext (by (repeat (first | with_reducible exact Ext.refl _ | with_reducible assumption | ((with_reducible refine Ext.setCell ?_ ?_ _); rotate_left; focus (first | omega | (simp <;> omega))) | with_reducible refine Ext.alloc ?_ _ | with_reducible refine Ext.drewN ?_ _ | with_reducible refine Ext.drew ?_ | with_reducible refine Ext.trans ?_ (by with_reducible assumption))))) (k.ext (by (repeat (first | with_reducible exact Ext.refl _ | with_reducible assumption | ((with_reducible refine Ext.setCell ?_ ?_ _); rotate_left; focus (first | omega | (simp <;> omega))) | with_reducible refine Ext.alloc ?_ _ | with_reducible refine Ext.drewN ?_ _ | with_reducible refine Ext.drew ?_ | with_reducible refine Ext.trans ?_ (by with_reducible assumption)))))).mono ?_
        rw [H0.out]
        rintro e w1 ⟨rfl, he⟩
        have c0 := he.box 0 (.int .i64 u) rfl
        have c1 := he.box 1 (.slice A n d) rfl
        go_wp2_with fail
        refine (l12False_c u A n d cls B m q a _ (h.ext (by (repeat (first | with_reducible exact Ext.refl _ | with_reducible assumption | ((with_reducible refine Ext.setCell ?_ ?_ _); rotate_left; focus (first | omega | (simp <;> omega))) | with_reducible refine Ext.alloc ?_ _ | with_reducible refine Ext.drewN ?_ _ | with_reducible refine Ext.drew ?_ | with_reducible refine Ext.trans ?_ (by with_reducible assumption))))) (k.ext (by (repeat (first | with_reducible exact Ext.refl _ | with_reducible assumption | ((with_reducible refine Ext.setCell ?_ ?_ _); rotate_left; focus (first | omega | (simp <;> omega))) | with_reducible refine Ext.alloc ?_ _ | with_reducible refine Ext.drewN ?_ _ | with_reducible refine Ext.drew ?_ | with_reducible refine Ext.trans ?_ (by with_reducible assumption))))) HC.out).mono ?_
        rw [H2.out]
        rintro e w2 ⟨rfl, he2⟩
        have c0 := he2.cell c0
        go_wp2_with fail
        refine (l1In_c _ _ _ _).mono ?_
        rw [H3.out]
        rintro e w3 ⟨rfl, rfl⟩
        go_wp2_with fail
        refine (l2Has_c _ _ _ _ a _ (k.ext (by (repeat (first | with_reducible exact Ext.refl _ | with_reducible assumption | ((with_reducible refine Ext.setCell ?_ ?_ _); rotate_left; focus (first | omega | (simp <;> omega))) | with_reducible refine Ext.alloc ?_ _ | with_reducible refine Ext.drewN ?_ _ | with_reducible refine Ext.drew ?_ | with_reducible refine Ext.trans ?_ (by with_reducible assumption)))))).mono ?_
        rw [H4.out]
        rintro e w4 ⟨rfl, he4⟩
        go_wp2_with fail
        refine (l2Has_c _ _ _ _ a _ (k.ext (by (repeat (first | with_reducible exact Ext.refl _ | with_reducible assumption | ((with_reducible refine Ext.setCell ?_ ?_ _); rotate_left; focus (first | omega | (simp <;> omega))) | with_reducible refine Ext.alloc ?_ _ | with_reducible refine Ext.drewN ?_ _ | with_reducible refine Ext.drew ?_ | with_reducible refine Ext.trans ?_ (by with_reducible assumption)))))).mono ?_
        (try rw [hwn])
        (try rw [show -1 - (t : Int) = -((t : Int) + 1) by omega])
        (try rw [show -1 + -(t : Int) = -((t : Int) + 1) by omega])
        rw [H5.out]
        rintro e w5 ⟨rfl, he5⟩
        go_wp2
        go_ret2; exact ⟨rfl, by (repeat (first | with_reducible exact Ext.refl _ | with_reducible assumption | ((with_reducible refine Ext.setCell ?_ ?_ _); rotate_left; focus (first | omega | (simp <;> omega))) | with_reducible refine Ext.alloc ?_ _ | with_reducible refine Ext.drewN ?_ _ | with_reducible refine Ext.drew ?_ | with_reducible refine Ext.trans ?_ (by with_reducible assumption)))⟩
    · have hot : openL a ((t : Int) + 1) = false := by rw [ho, h4]; rfl
      rw [hot]
      simp only [Bool.false_eq_true, if_false]
      have H4 := hide h4
      clear h0 h2 h3 h4 ho hot ht ha hc hrt hcd hc6 hlen
      go_enter Try.func41, Try.ntmps41
      go_wp2_with fail
      refine (l12Asked_c _ _ _ _ cls _ _ _ a _ (h.ext (by (repeat (first | with_reducible exact Ext.refl _ | with_reducible assumption | ((with_reducible refine Ext.setCell ?_ ?_ _); rotate_left; focus (first | omega | (simp <;> omega))) | with_reducible refine Ext.alloc ?_ _ | with_reducible refine Ext.drewN ?_ _ | with_reducible refine Ext.drew ?_ | with_reducible refine Ext.trans ?_ (by with_reducible assumption))))) (k.ext (by (repeat (first | with_reducible exact Ext.refl _ | with_reducible assumption | ((with_reducible refine Ext.setCell ?_ ?_ _); rotate_left; focus (first | omega | (simp <;> omega))) | with_reducible refine Ext.alloc ?_ _ | with_reducible refine Ext.drewN ?_ _ | with_reducible refine Ext.drew ?_ | with_reducible refine Ext.trans ?_ (by with_reducible assumption)))))).mono ?_
      rw [H0.out]
      rintro e w1 ⟨rfl, he⟩
      have c0 := he.box 0 (.int .i64 u) rfl
      have c1 := he.box 1 (.slice A n d) rfl
      go_wp2_with fail
      refine (l12False_c u A n d cls B m q a _ (h.ext (by (repeat (first | with_reducible exact Ext.refl _ | with_reducible assumption | ((with_reducible refine Ext.setCell ?_ ?_ _); rotate_left; focus (first | omega | (simp <;> omega))) | with_reducible refine Ext.alloc ?_ _ | with_reducible refine Ext.drewN ?_ _ | with_reducible refine Ext.drew ?_ | with_reducible refine Ext.trans ?_ (by with_reducible assumption))))) (k.ext (by (repeat (first | with_reducible exact Ext.refl _ | with_reducible assumption | ((with_reducible refine Ext.setCell ?_ ?_ _); rotate_left; focus (first | omega | (simp <;> omega))) | with_reducible refine Ext.alloc ?_ _ | with_reducible refine Ext.drewN ?_ _ | with_reducible refine Ext.drew ?_ | with_reducible refine Ext.trans ?_ (by with_reducible assumption))))) HC.out).mono ?_
      rw [H2.out]
      rintro e w2 ⟨rfl, he2⟩
      have c0 := he2.cell c0
      go_wp2_with fail
      refine (l1In_c _ _ _ _).mono ?_
      rw [H3.out]
      rintro e w3 ⟨rfl, rfl⟩
      go_wp2_with fail
      refine (l2Has_c _ _ _ _ a _ (k.ext (by (repeat (first | with_reducible exact Ext.refl _ | with_reducible assumption | ((with_reducible refine Ext.setCell ?_ ?_ _); rotate_left; focus (first | omega | (simp <;> omega))) | with_reducible refine Ext.alloc ?_ _ | with_reducible refine Ext.drewN ?_ _ | with_reducible refine Ext.drew ?_ | with_reducible refine Ext.trans ?_ (by with_reducible assumption)))))).mono ?_
      rw [H4.out]
      rintro e w4 ⟨rfl, he4⟩
      go_wp2
      go_ret2; exact ⟨rfl, by (repeat (first | with_reducible exact Ext.refl _ | with_reducible assumption | ((with_reducible refine Ext.setCell ?_ ?_ _); rotate_left; focus (first | omega | (simp <;> omega))) | with_reducible refine Ext.alloc ?_ _ | with_reducible refine Ext.drewN ?_ _ | with_reducible refine Ext.drew ?_ | with_reducible refine Ext.trans ?_ (by with_reducible assumption)))⟩
  have hok : answerOk u cls a ((t : Int) + 1) = openL a ((t : Int) + 1) := by simp [answerOk, askedOpen, h0, h2, h3]
  rw [hok, show ((u : Int)).toNat = u by omega, show ((t : Int) + 1).toNat = t + 1 by omega]
  exact hmain
set_option maxRecDepth 100000 in
set_option maxHeartbeats 4000000 in
theorem impl_DelayerAnswer_c (v : Int) (A : Option Addr) (n d : Nat) (cls : List (List Int)) (B : Option Addr) (m q : Nat) (a : List Int) (x : Int) (w : World) (h : Intss w A n cls) (k : Ints w B m a) :
    Calls Try.prog 42 #[.agg #[.int .i64 v, .slice A n d], .slice B m q, .int .i64 x] w fun e w' => e = .returned (.tuple #[.int .i64 (delayerAns v cls a x), .bool (answerOk v cls a x)]) ∧ Ext w w' := by
  unfold delayerAns
  cases h0 : asked v cls a
  · have hF : answerOk v cls a x = false := by simp [answerOk, askedOpen, h0]
    rw [hF]
    simp only [Bool.false_eq_true, if_false]
    clear hF
    go_enter Try.func42, Try.ntmps42
    go_wp2_with fail
    refine (gameAt_no _ _ _ _ cls _ _ _ a _ (h.ext (by (repeat (first | with_reducible exact Ext.refl _ | with_reducible assumption | ((with_reducible refine Ext.setCell ?_ ?_ _); rotate_left; focus (first | omega | (simp <;> omega))) | with_reducible refine Ext.alloc ?_ _ | with_reducible refine Ext.drewN ?_ _ | with_reducible refine Ext.drew ?_ | with_reducible refine Ext.trans ?_ (by with_reducible assumption))))) (k.ext (by (repeat (first | with_reducible exact Ext.refl _ | with_reducible assumption | ((with_reducible refine Ext.setCell ?_ ?_ _); rotate_left; focus (first | omega | (simp <;> omega))) | with_reducible refine Ext.alloc ?_ _ | with_reducible refine Ext.drewN ?_ _ | with_reducible refine Ext.drew ?_ | with_reducible refine Ext.trans ?_ (by with_reducible assumption))))) h0).mono ?_
    rintro e w1 ⟨rfl, he⟩
    go_wp2
    go_ret2; exact ⟨rfl, by (repeat (first | with_reducible exact Ext.refl _ | with_reducible assumption | ((with_reducible refine Ext.setCell ?_ ?_ _); rotate_left; focus (first | omega | (simp <;> omega))) | with_reducible refine Ext.alloc ?_ _ | with_reducible refine Ext.drewN ?_ _ | with_reducible refine Ext.drew ?_ | with_reducible refine Ext.trans ?_ (by with_reducible assumption)))⟩
  obtain ⟨ht, ha⟩ := and2_true h0
  obtain ⟨hc, hv, _⟩ := takes_facts ht
  obtain ⟨u, rfl⟩ := int_nat hv.1
  obtain ⟨hrt, hcd⟩ := asg_code ha
  have H0 := hide h0
  have HRT := hide hrt
  have hN6 : pow3 u ≤ 729 := by have := pow3_mono (show u ≤ 6 by omega); have h6 : pow3 6 = 729 := rfl; omega
  obtain ⟨code, hcode⟩ : ∃ c, codeOf a = c := ⟨_, rfl⟩
  have HCD := hide hcode
  cases h2 : falseAny cls a
  rotate_left
  · have hF : answerOk u cls a x = false := by simp [answerOk, askedOpen, h2]
    rw [hF]
    simp only [Bool.false_eq_true, if_false]
    have H2 := hide h2
    rw [hcode] at hcd
    clear hF h2 h0 ht ha hc hrt hcode
    go_enter Try.func42, Try.ntmps42
    go_wp2_with fail
    refine (gameAt_yes u A n d cls B m q a _ (h.ext (by (repeat (first | with_reducible exact Ext.refl _ | with_reducible assumption | ((with_reducible refine Ext.setCell ?_ ?_ _); rotate_left; focus (first | omega | (simp <;> omega))) | with_reducible refine Ext.alloc ?_ _ | with_reducible refine Ext.drewN ?_ _ | with_reducible refine Ext.drew ?_ | with_reducible refine Ext.trans ?_ (by with_reducible assumption))))) (k.ext (by (repeat (first | with_reducible exact Ext.refl _ | with_reducible assumption | ((with_reducible refine Ext.setCell ?_ ?_ _); rotate_left; focus (first | omega | (simp <;> omega))) | with_reducible refine Ext.alloc ?_ _ | with_reducible refine Ext.drewN ?_ _ | with_reducible refine Ext.drew ?_ | with_reducible refine Ext.trans ?_ (by with_reducible assumption))))) H0.out).mono ?_
    rw [HCD.out]
    rintro e w1 ⟨b, g0, g1, g2, g3, ov, rfl, hG, hov, he⟩
    have hf := hG.ov hcd
    rw [hov code hcd, ← HCD.out, HRT.out, H2.out, HCD.out] at hf
    have hov := hide hov
    have e2 := hG.box.cell 2 (.slice (some ⟨g0, 0, none⟩) (pow3 u) (pow3 u)) rfl
    go_wp2
    go_ret2; exact ⟨rfl, by (repeat (first | with_reducible exact Ext.refl _ | with_reducible assumption | ((with_reducible refine Ext.setCell ?_ ?_ _); rotate_left; focus (first | omega | (simp <;> omega))) | with_reducible refine Ext.alloc ?_ _ | with_reducible refine Ext.drewN ?_ _ | with_reducible refine Ext.drew ?_ | with_reducible refine Ext.trans ?_ (by with_reducible assumption)))⟩
  cases h3 : within x 1 u
  · have hF : answerOk u cls a x = false := by simp [answerOk, h3]
    rw [hF]
    simp only [Bool.false_eq_true, if_false]
    have H2 := hide h2
    have H3 := hide h3
    rw [hcode] at hcd
    clear hF h2 h3 h0 ht ha hc hrt hcode
    go_enter Try.func42, Try.ntmps42
    go_wp2_with fail
    refine (gameAt_yes u A n d cls B m q a _ (h.ext (by (repeat (first | with_reducible exact Ext.refl _ | with_reducible assumption | ((with_reducible refine Ext.setCell ?_ ?_ _); rotate_left; focus (first | omega | (simp <;> omega))) | with_reducible refine Ext.alloc ?_ _ | with_reducible refine Ext.drewN ?_ _ | with_reducible refine Ext.drew ?_ | with_reducible refine Ext.trans ?_ (by with_reducible assumption))))) (k.ext (by (repeat (first | with_reducible exact Ext.refl _ | with_reducible assumption | ((with_reducible refine Ext.setCell ?_ ?_ _); rotate_left; focus (first | omega | (simp <;> omega))) | with_reducible refine Ext.alloc ?_ _ | with_reducible refine Ext.drewN ?_ _ | with_reducible refine Ext.drew ?_ | with_reducible refine Ext.trans ?_ (by with_reducible assumption))))) H0.out).mono ?_
    rw [HCD.out]
    rintro e w1 ⟨b, g0, g1, g2, g3, ov, rfl, hG, hov, he⟩
    have hf := hG.ov hcd
    rw [hov code hcd, ← HCD.out, HRT.out, H2.out, HCD.out] at hf
    have hov := hide hov
    have e2 := hG.box.cell 2 (.slice (some ⟨g0, 0, none⟩) (pow3 u) (pow3 u)) rfl
    have c0 := he.box 0 (.int .i64 u) rfl
    go_wp2_with fail
    refine (isVar_c _ _ _).mono ?_
    rw [H3.out]
    rintro e w3 ⟨rfl, rfl⟩
    go_wp2
    go_ret2; exact ⟨rfl, by (repeat (first | with_reducible exact Ext.refl _ | with_reducible assumption | ((with_reducible refine Ext.setCell ?_ ?_ _); rotate_left; focus (first | omega | (simp <;> omega))) | with_reducible refine Ext.alloc ?_ _ | with_reducible refine Ext.drewN ?_ _ | with_reducible refine Ext.drew ?_ | with_reducible refine Ext.trans ?_ (by with_reducible assumption)))⟩
  have hx := within_true h3
  obtain ⟨t, rfl⟩ : ∃ t : Nat, x = (t : Int) + 1 := ⟨(x - 1).toNat, by omega⟩
  have hok : answerOk u cls a ((t : Int) + 1) = openL a ((t : Int) + 1) := by simp [answerOk, askedOpen, h0, h2, h3]
  rw [hok, show ((u : Int)).toNat = u by omega, show ((t : Int) + 1).toNat = t + 1 by omega, hcode]
  have hopc := codeLits_openAt (n := u) (code := codeOf a) (v := t + 1) (by omega) (by omega)
  rw [hrt] at hopc
  have hin : ∀ W : World, Ints (W.alloc (.cells #[.int .i64 ((t : Int) + 1)] 3)) (some ⟨W.heap.size, 0, none⟩) 1 [(t : Int) + 1] := fun W =>
    ⟨rfl, by omega, fun _ => ⟨_, rfl, fun j u hu => by cases j with | zero => simp at hu; subst hu; exact (BoxAt.made W _ _).cell 0 _ rfl | succ j => simp at hu⟩⟩
  have HIN := hide hin
  have H2 := hide h2
  have H3 := hide h3
  rw [hcode] at hcd hopc
  cases ho : openL a ((t : Int) + 1)
  · simp only [Bool.false_eq_true, if_false]
    have hfo : firstO a [(t : Int) + 1] = 0 := by simp [firstO, ho]
    have HFO := hide hfo
    clear h2 h3 h0 ht ha hc hrt hcode hin ho hopc hok hfo
    go_enter Try.func42, Try.ntmps42
    go_wp2_with fail
    refine (gameAt_yes u A n d cls B m q a _ (h.ext (by (repeat (first | with_reducible exact Ext.refl _ | with_reducible assumption | ((with_reducible refine Ext.setCell ?_ ?_ _); rotate_left; focus (first | omega | (simp <;> omega))) | with_reducible refine Ext.alloc ?_ _ | with_reducible refine Ext.drewN ?_ _ | with_reducible refine Ext.drew ?_ | with_reducible refine Ext.trans ?_ (by with_reducible assumption))))) (k.ext (by (repeat (first | with_reducible exact Ext.refl _ | with_reducible assumption | ((with_reducible refine Ext.setCell ?_ ?_ _); rotate_left; focus (first | omega | (simp <;> omega))) | with_reducible refine Ext.alloc ?_ _ | with_reducible refine Ext.drewN ?_ _ | with_reducible refine Ext.drew ?_ | with_reducible refine Ext.trans ?_ (by with_reducible assumption))))) H0.out).mono ?_
    rw [HCD.out]
    rintro e w1 ⟨b, g0, g1, g2, g3, ov, rfl, hG, hov, he⟩
    have hf := hG.ov hcd
    rw [hov code hcd, ← HCD.out, HRT.out, H2.out, HCD.out] at hf
    have hov := hide hov
    have e2 := hG.box.cell 2 (.slice (some ⟨g0, 0, none⟩) (pow3 u) (pow3 u)) rfl
    have c0 := he.box 0 (.int .i64 u) rfl
    go_wp2_with fail
    refine (isVar_c _ _ _).mono ?_
    rw [H3.out]
    rintro e w3 ⟨rfl, rfl⟩
    go_wp2_with fail
    refine (firstOpen_c _ _ _ [(t : Int) + 1] B m q a _ (HIN.out _) (k.ext (by (repeat (first | with_reducible exact Ext.refl _ | with_reducible assumption | ((with_reducible refine Ext.setCell ?_ ?_ _); rotate_left; focus (first | omega | (simp <;> omega))) | with_reducible refine Ext.alloc ?_ _ | with_reducible refine Ext.drewN ?_ _ | with_reducible refine Ext.drew ?_ | with_reducible refine Ext.trans ?_ (by with_reducible assumption))))) (by intro y hy; simp at hy; subst hy; omega)).mono ?_
    rw [HFO.out]
    rintro e w4 ⟨rfl, he4⟩
    go_wp2
    go_ret2; exact ⟨rfl, by (repeat (first | with_reducible exact Ext.refl _ | with_reducible assumption | ((with_reducible refine Ext.setCell ?_ ?_ _); rotate_left; focus (first | omega | (simp <;> omega))) | with_reducible refine Ext.alloc ?_ _ | with_reducible refine Ext.drewN ?_ _ | with_reducible refine Ext.drew ?_ | with_reducible refine Ext.trans ?_ (by with_reducible assumption)))⟩
  · simp only [if_true]
    have hfo : firstO a [(t : Int) + 1] = (t : Int) + 1 := by simp [firstO, ho]
    have HFO := hide hfo
    have hto : openAt code (t + 1) = true := by rw [← hopc]; exact ho
    have hcodes := open_codes hcd (v := t + 1) ⟨by omega, by omega⟩ hto
    have hy := hcodes.2.2
    have hfz : (((t : Int) + 1) == 0) = false := by simp; omega
    unfold answerOf
    clear h2 h3 h0 ht ha hc hrt hcode hin ho hopc hok hfo hto hcodes
    have HY := hide hy
    clear hy
    go_enter Try.func42, Try.ntmps42
    go_wp2_with fail
    refine (gameAt_yes u A n d cls B m q a _ (h.ext (by (repeat (first | with_reducible exact Ext.refl _ | with_reducible assumption | ((with_reducible refine Ext.setCell ?_ ?_ _); rotate_left; focus (first | omega | (simp <;> omega))) | with_reducible refine Ext.alloc ?_ _ | with_reducible refine Ext.drewN ?_ _ | with_reducible refine Ext.drew ?_ | with_reducible refine Ext.trans ?_ (by with_reducible assumption))))) (k.ext (by (repeat (first | with_reducible exact Ext.refl _ | with_reducible assumption | ((with_reducible refine Ext.setCell ?_ ?_ _); rotate_left; focus (first | omega | (simp <;> omega))) | with_reducible refine Ext.alloc ?_ _ | with_reducible refine Ext.drewN ?_ _ | with_reducible refine Ext.drew ?_ | with_reducible refine Ext.trans ?_ (by with_reducible assumption))))) H0.out).mono ?_
    rw [HCD.out]
    rintro e w1 ⟨b, g0, g1, g2, g3, ov, rfl, hG, hov, he⟩
    have hf := hG.ov hcd
    rw [hov code hcd, ← HCD.out, HRT.out, H2.out, HCD.out] at hf
    have hov := hide hov
    have e2 := hG.box.cell 2 (.slice (some ⟨g0, 0, none⟩) (pow3 u) (pow3 u)) rfl
    have c0 := he.box 0 (.int .i64 u) rfl
    go_wp2_with fail
    refine (isVar_c _ _ _).mono ?_
    rw [H3.out]
    rintro e w3 ⟨rfl, rfl⟩
    go_wp2_with fail
    refine (firstOpen_c _ _ _ [(t : Int) + 1] B m q a _ (HIN.out _) (k.ext (by (repeat (first | with_reducible exact Ext.refl _ | with_reducible assumption | ((with_reducible refine Ext.setCell ?_ ?_ _); rotate_left; focus (first | omega | (simp <;> omega))) | with_reducible refine Ext.alloc ?_ _ | with_reducible refine Ext.drewN ?_ _ | with_reducible refine Ext.drew ?_ | with_reducible refine Ext.trans ?_ (by with_reducible assumption))))) (by intro y hy; simp at hy; subst hy; omega)).mono ?_
    rw [HFO.out]
    rintro e w4 ⟨rfl, he4⟩
    have hG4 := hG.ext (w' := w4) (by (repeat (first | with_reducible exact Ext.refl _ | with_reducible assumption | ((with_reducible refine Ext.setCell ?_ ?_ _); rotate_left; focus (first | omega | (simp <;> omega))) | with_reducible refine Ext.alloc ?_ _ | with_reducible refine Ext.drewN ?_ _ | with_reducible refine Ext.drew ?_ | with_reducible refine Ext.trans ?_ (by with_reducible assumption))))
    go_wp2_with fail
    refine (answer_c b _ (pow3 u) (pow3 u) (gAll u cls).sc code t _ (hG4.tab.o1.ints hG4.tab.full.sc (by omega)) (hG4.box.cell 3 _ rfl) (by omega) HY.out hN6).mono ?_
    rintro e w5 ⟨rfl, he5⟩
    go_wp2
    go_ret2; exact ⟨rfl, by (repeat (first | with_reducible exact Ext.refl _ | with_reducible assumption | ((with_reducible refine Ext.setCell ?_ ?_ _); rotate_left; focus (first | omega | (simp <;> omega))) | with_reducible refine Ext.alloc ?_ _ | with_reducible refine Ext.drewN ?_ _ | with_reducible refine Ext.drew ?_ | with_reducible refine Ext.trans ?_ (by with_reducible assumption)))⟩
end Go.Proofs.Ytmpfhibncnamnaa
