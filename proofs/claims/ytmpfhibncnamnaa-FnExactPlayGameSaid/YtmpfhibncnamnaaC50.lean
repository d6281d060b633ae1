/-
  ProverVariable.
-/
import Derived.Test.YtmpfhibncnamnaaC49
namespace Go.Proofs.Ytmpfhibncnamnaa
set_option linter.unusedSimpArgs false
set_option linter.unusedVariables false
open Go.RowKit

def askedOpen (v : Int) (cls : List (List Int)) (a : List Int) : Bool := asked v cls a && !falseAny cls a
def proverVar (v : Int) (cls : List (List Int)) (a : List Int) : Nat := if askedOpen v cls a then proverOf v.toNat (gAll v.toNat cls) (codeOf a) else 0
set_option maxRecDepth 100000 in
set_option maxHeartbeats 1600000 in
theorem spec_ProverVariable_c (v : Int) (A : Option Addr) (n d : Nat) (cls : List (List Int)) (B : Option Addr) (m q : Nat) (a : List Int) (w : World) (h : Intss w A n cls) (k : Ints w B m a) :
    Calls Try.prog 37 #[.agg #[.int .i64 v, .slice A n d], .slice B m q] w fun e w' => e = .returned (.tuple #[.int .i64 (proverVar v cls a : Int), .bool (askedOpen v cls a)]) ∧ Ext w w' := by
  unfold proverVar askedOpen
  cases h1 : asked v cls a
  · simp only [Bool.false_and, Bool.false_eq_true, if_false]
    go_enter Try.func37, Try.ntmps37
    go_wp2_with fail
    refine (l12Asked_c _ _ _ _ cls _ _ _ a _ (h.ext (by (repeat (first | with_reducible exact Ext.refl _ | with_reducible assumption | ((with_reducible refine Ext.setCell ?_ ?_ _); rotate_left; focus (first | omega | (simp <;> omega))) | with_reducible refine Ext.alloc ?_ _ | with_reducible refine Ext.drewN ?_ _ | with_reducible refine Ext.drew ?_ | with_reducible refine Ext.trans ?_ (by with_reducible assumption))))) (k.ext (by (repeat (first | with_reducible exact Ext.refl _ | with_reducible assumption | ((with_reducible refine Ext.setCell ?_ ?_ _); rotate_left; focus (first | omega | (simp <;> omega))) | with_reducible refine Ext.alloc ?_ _ | with_reducible refine Ext.drewN ?_ _ | with_reducible refine Ext.drew ?_ | with_reducible refine Ext.trans ?_ (by with_reducible assumption)))))).mono ?_
    rw [h1]
    rintro e w1 ⟨rfl, he⟩
    go_wp2
    go_ret2; exact ⟨rfl, by (repeat (first | with_reducible exact Ext.refl _ | with_reducible assumption | ((with_reducible refine Ext.setCell ?_ ?_ _); rotate_left; focus (first | omega | (simp <;> omega))) | with_reducible refine Ext.alloc ?_ _ | with_reducible refine Ext.drewN ?_ _ | with_reducible refine Ext.drew ?_ | with_reducible refine Ext.trans ?_ (by with_reducible assumption)))⟩
  obtain ⟨ht, ha⟩ := and2_true h1
  obtain ⟨hc, hv, _⟩ := takes_facts ht
  have HC := hide (fun c hcc => (cnf_lits hc c hcc).2)
  obtain ⟨u, rfl⟩ := int_nat hv.1
  rw [show ((u : Int)).toNat = u by omega]
  cases h2 : falseAny cls a
  · simp only [Bool.not_false, Bool.and_true, if_true]
    obtain ⟨_, hc6, hlen⟩ := clause_facts ha
    have hm6 : m ≤ 6 := by have := k.len; omega
    have HC6 := hide (show ∀ x ∈ a, -6 ≤ x ∧ x ≤ 6 ∧ x ≠ 0 from fun x hx => by have := hc6 x hx; omega)
    have hcd := (asg_code ha).2
    have H1 := hide h1
    have H2 := hide h2
    clear h1 h2 hc ht ha hc6 hlen
    obtain ⟨cd, hcd2⟩ : ∃ c, codeOf a = c := ⟨_, rfl⟩
    rw [hcd2] at hcd ⊢
    have HCD := hide hcd2
    clear hcd2
    go_enter Try.func37, Try.ntmps37
    go_wp2_with fail
    refine (l12Asked_c _ _ _ _ cls _ _ _ a _ (h.ext (by (repeat (first | with_reducible exact Ext.refl _ | with_reducible assumption | ((with_reducible refine Ext.setCell ?_ ?_ _); rotate_left; focus (first | omega | (simp <;> omega))) | with_reducible refine Ext.alloc ?_ _ | with_reducible refine Ext.drewN ?_ _ | with_reducible refine Ext.drew ?_ | with_reducible refine Ext.trans ?_ (by with_reducible assumption))))) (k.ext (by (repeat (first | with_reducible exact Ext.refl _ | with_reducible assumption | ((with_reducible refine Ext.setCell ?_ ?_ _); rotate_left; focus (first | omega | (simp <;> omega))) | with_reducible refine Ext.alloc ?_ _ | with_reducible refine Ext.drewN ?_ _ | with_reducible refine Ext.drew ?_ | with_reducible refine Ext.trans ?_ (by with_reducible assumption)))))).mono ?_
    rw [H1.out]
    rintro e w1 ⟨rfl, he⟩
    have c0 := he.box 0 (.int .i64 u) rfl
    have c1 := he.box 1 (.slice A n d) rfl
    have e1 : Ext w w1 := by (repeat (first | with_reducible exact Ext.refl _ | with_reducible assumption | ((with_reducible refine Ext.setCell ?_ ?_ _); rotate_left; focus (first | omega | (simp <;> omega))) | with_reducible refine Ext.alloc ?_ _ | with_reducible refine Ext.drewN ?_ _ | with_reducible refine Ext.drew ?_ | with_reducible refine Ext.trans ?_ (by with_reducible assumption)))
    clear he
    go_wp2_with fail
    refine (l12False_c u A n d cls B m q a _ (h.ext (by (repeat (first | with_reducible exact Ext.refl _ | with_reducible assumption | ((with_reducible refine Ext.setCell ?_ ?_ _); rotate_left; focus (first | omega | (simp <;> omega))) | with_reducible refine Ext.alloc ?_ _ | with_reducible refine Ext.drewN ?_ _ | with_reducible refine Ext.drew ?_ | with_reducible refine Ext.trans ?_ (by with_reducible assumption))))) (k.ext (by (repeat (first | with_reducible exact Ext.refl _ | with_reducible assumption | ((with_reducible refine Ext.setCell ?_ ?_ _); rotate_left; focus (first | omega | (simp <;> omega))) | with_reducible refine Ext.alloc ?_ _ | with_reducible refine Ext.drewN ?_ _ | with_reducible refine Ext.drew ?_ | with_reducible refine Ext.trans ?_ (by with_reducible assumption))))) HC.out).mono ?_
    rw [H2.out]
    rintro e w2 ⟨rfl, he2⟩
    have c0 := he2.cell c0
    have c1 := he2.cell c1
    have e2 : Ext w w2 := by (repeat (first | with_reducible exact Ext.refl _ | with_reducible assumption | ((with_reducible refine Ext.setCell ?_ ?_ _); rotate_left; focus (first | omega | (simp <;> omega))) | with_reducible refine Ext.alloc ?_ _ | with_reducible refine Ext.drewN ?_ _ | with_reducible refine Ext.drew ?_ | with_reducible refine Ext.trans ?_ (by with_reducible assumption)))
    clear he2 e1
    go_wp2_with fail
    have E2 := hide e2
    clear e2
    go_region_held3 (fun w' => w'.cell? ⟨w.heap.size, 0, none⟩ = some (.int .i64 u) ∧ w'.cell? ⟨w.heap.size, 1, none⟩ = some (.slice A n d)) (exact ⟨(show Ext w2 _ by (repeat (first | with_reducible exact Ext.refl _ | with_reducible assumption | ((with_reducible refine Ext.setCell ?_ ?_ _); rotate_left; focus (first | omega | (simp <;> omega))) | with_reducible refine Ext.alloc ?_ _ | with_reducible refine Ext.drewN ?_ _ | with_reducible refine Ext.drew ?_ | with_reducible refine Ext.trans ?_ (by with_reducible assumption)))).cell c0, (show Ext w2 _ by (repeat (first | with_reducible exact Ext.refl _ | with_reducible assumption | ((with_reducible refine Ext.setCell ?_ ?_ _); rotate_left; focus (first | omega | (simp <;> omega))) | with_reducible refine Ext.alloc ?_ _ | with_reducible refine Ext.drewN ?_ _ | with_reducible refine Ext.drew ?_ | with_reducible refine Ext.trans ?_ (by with_reducible assumption)))).cell c1⟩) (first | (go_at_call 55; refine (l12Play_c u A n d cls _ (h.ext (E2.out.trans (by (repeat (first | with_reducible exact Ext.refl _ | with_reducible assumption | ((with_reducible refine Ext.setCell ?_ ?_ _); rotate_left; focus (first | omega | (simp <;> omega))) | with_reducible refine Ext.alloc ?_ _ | with_reducible refine Ext.drewN ?_ _ | with_reducible refine Ext.drew ?_ | with_reducible refine Ext.trans ?_ (by with_reducible assumption)))))) (by omega) HC.out).mono ?_; rintro e w3 ⟨g1, g2, g3, rfl, hT, he3⟩) | (go_at_call 60; refine (l12Code_c B m q a _ (k.ext (E2.out.trans (by (repeat (first | with_reducible exact Ext.refl _ | with_reducible assumption | ((with_reducible refine Ext.setCell ?_ ?_ _); rotate_left; focus (first | omega | (simp <;> omega))) | with_reducible refine Ext.alloc ?_ _ | with_reducible refine Ext.drewN ?_ _ | with_reducible refine Ext.drew ?_ | with_reducible refine Ext.trans ?_ (by with_reducible assumption)))))) hm6 HC6.out).mono ?_; rw [HCD.out]; rintro e w4 ⟨rfl, he4⟩) | (go_at_call 75; refine (l12Prover_c u _ g1 g2 g3 cd (pow3 u) A n d (gAll u cls) _ (hT.ext (by (repeat (first | with_reducible exact Ext.refl _ | with_reducible assumption | ((with_reducible refine Ext.setCell ?_ ?_ _); rotate_left; focus (first | omega | (simp <;> omega))) | with_reducible refine Ext.alloc ?_ _ | with_reducible refine Ext.drewN ?_ _ | with_reducible refine Ext.drew ?_ | with_reducible refine Ext.trans ?_ (by with_reducible assumption))))) (by omega) rfl hcd).mono ?_; rintro e w5 ⟨rfl, he5⟩; have ew5 : Hid (Ext w w5) := hide (E2.out.trans (by (repeat (first | with_reducible exact Ext.refl _ | with_reducible assumption | ((with_reducible refine Ext.setCell ?_ ?_ _); rotate_left; focus (first | omega | (simp <;> omega))) | with_reducible refine Ext.alloc ?_ _ | with_reducible refine Ext.drewN ?_ _ | with_reducible refine Ext.drew ?_ | with_reducible refine Ext.trans ?_ (by with_reducible assumption)))))))
    all_goals
      go_wp2
      go_ret2; exact ⟨rfl, ew5.out⟩
  · simp only [Bool.not_true, Bool.and_false, Bool.false_eq_true, if_false]
    have H1 := hide h1
    have H2 := hide h2
    clear h1 h2 hc ht ha
    go_enter Try.func37, Try.ntmps37
    go_wp2_with fail
    refine (l12Asked_c _ _ _ _ cls _ _ _ a _ (h.ext (by (repeat (first | with_reducible exact Ext.refl _ | with_reducible assumption | ((with_reducible refine Ext.setCell ?_ ?_ _); rotate_left; focus (first | omega | (simp <;> omega))) | with_reducible refine Ext.alloc ?_ _ | with_reducible refine Ext.drewN ?_ _ | with_reducible refine Ext.drew ?_ | with_reducible refine Ext.trans ?_ (by with_reducible assumption))))) (k.ext (by (repeat (first | with_reducible exact Ext.refl _ | with_reducible assumption | ((with_reducible refine Ext.setCell ?_ ?_ _); rotate_left; focus (first | omega | (simp <;> omega))) | with_reducible refine Ext.alloc ?_ _ | with_reducible refine Ext.drewN ?_ _ | with_reducible refine Ext.drew ?_ | with_reducible refine Ext.trans ?_ (by with_reducible assumption)))))).mono ?_
    rw [H1.out]
    rintro e w1 ⟨rfl, he⟩
    have c0 := he.box 0 (.int .i64 u) rfl
    have c1 := he.box 1 (.slice A n d) rfl
    go_wp2_with fail
    refine (l12False_c u A n d cls B m q a _ (h.ext (by (repeat (first | with_reducible exact Ext.refl _ | with_reducible assumption | ((with_reducible refine Ext.setCell ?_ ?_ _); rotate_left; focus (first | omega | (simp <;> omega))) | with_reducible refine Ext.alloc ?_ _ | with_reducible refine Ext.drewN ?_ _ | with_reducible refine Ext.drew ?_ | with_reducible refine Ext.trans ?_ (by with_reducible assumption))))) (k.ext (by (repeat (first | with_reducible exact Ext.refl _ | with_reducible assumption | ((with_reducible refine Ext.setCell ?_ ?_ _); rotate_left; focus (first | omega | (simp <;> omega))) | with_reducible refine Ext.alloc ?_ _ | with_reducible refine Ext.drewN ?_ _ | with_reducible refine Ext.drew ?_ | with_reducible refine Ext.trans ?_ (by with_reducible assumption))))) HC.out).mono ?_
    rw [H2.out]
    rintro e w2 ⟨rfl, he2⟩
    go_wp2
    go_ret2; exact ⟨rfl, by (repeat (first | with_reducible exact Ext.refl _ | with_reducible assumption | ((with_reducible refine Ext.setCell ?_ ?_ _); rotate_left; focus (first | omega | (simp <;> omega))) | with_reducible refine Ext.alloc ?_ _ | with_reducible refine Ext.drewN ?_ _ | with_reducible refine Ext.drew ?_ | with_reducible refine Ext.trans ?_ (by with_reducible assumption)))⟩
set_option maxRecDepth 100000 in
set_option maxHeartbeats 1600000 in
theorem impl_ProverVariable_c (v : Int) (A : Option Addr) (n d : Nat) (cls : List (List Int)) (B : Option Addr) (m q : Nat) (a : List Int) (w : World) (h : Intss w A n cls) (k : Ints w B m a) :
    Calls Try.prog 38 #[.agg #[.int .i64 v, .slice A n d], .slice B m q] w fun e w' => e = .returned (.tuple #[.int .i64 (proverVar v cls a : Int), .bool (askedOpen v cls a)]) ∧ Ext w w' := by
  unfold proverVar askedOpen
  cases h1 : asked v cls a
  · simp only [Bool.false_and, Bool.false_eq_true, if_false]
    go_enter Try.func38, Try.ntmps38
    go_wp2_with fail
    refine (gameAt_no _ _ _ _ cls _ _ _ a _ (h.ext (by (repeat (first | with_reducible exact Ext.refl _ | with_reducible assumption | ((with_reducible refine Ext.setCell ?_ ?_ _); rotate_left; focus (first | omega | (simp <;> omega))) | with_reducible refine Ext.alloc ?_ _ | with_reducible refine Ext.drewN ?_ _ | with_reducible refine Ext.drew ?_ | with_reducible refine Ext.trans ?_ (by with_reducible assumption))))) (k.ext (by (repeat (first | with_reducible exact Ext.refl _ | with_reducible assumption | ((with_reducible refine Ext.setCell ?_ ?_ _); rotate_left; focus (first | omega | (simp <;> omega))) | with_reducible refine Ext.alloc ?_ _ | with_reducible refine Ext.drewN ?_ _ | with_reducible refine Ext.drew ?_ | with_reducible refine Ext.trans ?_ (by with_reducible assumption))))) h1).mono ?_
    rintro e w1 ⟨rfl, he⟩
    go_wp2
    go_ret2; exact ⟨rfl, by (repeat (first | with_reducible exact Ext.refl _ | with_reducible assumption | ((with_reducible refine Ext.setCell ?_ ?_ _); rotate_left; focus (first | omega | (simp <;> omega))) | with_reducible refine Ext.alloc ?_ _ | with_reducible refine Ext.drewN ?_ _ | with_reducible refine Ext.drew ?_ | with_reducible refine Ext.trans ?_ (by with_reducible assumption)))⟩
  obtain ⟨ht, ha⟩ := and2_true h1
  obtain ⟨hc, hv, _⟩ := takes_facts ht
  obtain ⟨u, rfl⟩ := int_nat hv.1
  rw [show ((u : Int)).toNat = u by omega]
  obtain ⟨hrt, hcd⟩ := asg_code ha
  have H1 := hide h1
  have HRT := hide hrt
  clear h1 hc ht ha hrt
  cases h2 : falseAny cls a
  all_goals
    simp only [Bool.not_false, Bool.and_true, if_true, Bool.not_true, Bool.and_false, Bool.false_eq_true, if_false]
    have H2 := hide h2
    clear h2
    obtain ⟨cd, hcd2⟩ : ∃ c, codeOf a = c := ⟨_, rfl⟩
    (try rw [hcd2])
    have HCD := hide hcd2
    rw [hcd2] at hcd
    clear hcd2
    go_enter Try.func38, Try.ntmps38
    go_wp2_with fail
    refine (gameAt_yes u A n d cls B m q a _ (h.ext (by (repeat (first | with_reducible exact Ext.refl _ | with_reducible assumption | ((with_reducible refine Ext.setCell ?_ ?_ _); rotate_left; focus (first | omega | (simp <;> omega))) | with_reducible refine Ext.alloc ?_ _ | with_reducible refine Ext.drewN ?_ _ | with_reducible refine Ext.drew ?_ | with_reducible refine Ext.trans ?_ (by with_reducible assumption))))) (k.ext (by (repeat (first | with_reducible exact Ext.refl _ | with_reducible assumption | ((with_reducible refine Ext.setCell ?_ ?_ _); rotate_left; focus (first | omega | (simp <;> omega))) | with_reducible refine Ext.alloc ?_ _ | with_reducible refine Ext.drewN ?_ _ | with_reducible refine Ext.drew ?_ | with_reducible refine Ext.trans ?_ (by with_reducible assumption))))) H1.out).mono ?_
    rw [HCD.out]
    rintro e w1 ⟨b, g0, g1, g2, g3, ov, rfl, hG, hov, he⟩
    have hf := hG.ov hcd
    rw [hov cd hcd, ← HCD.out, HRT.out, H2.out, HCD.out] at hf
    have hov := hide hov
    have e2 := hG.box.cell 2 (.slice (some ⟨g0, 0, none⟩) (pow3 u) (pow3 u)) rfl
    have e1 : Ext w w1 := by (repeat (first | with_reducible exact Ext.refl _ | with_reducible assumption | ((with_reducible refine Ext.setCell ?_ ?_ _); rotate_left; focus (first | omega | (simp <;> omega))) | with_reducible refine Ext.alloc ?_ _ | with_reducible refine Ext.drewN ?_ _ | with_reducible refine Ext.drew ?_ | with_reducible refine Ext.trans ?_ (by with_reducible assumption)))
    go_wp2_with fail
  · refine (proverVariable_c u _ b g0 g1 g2 g3 cd (pow3 u) A n d ov (gAll u cls) _ hG (by omega) rfl hcd).mono ?_
    rintro e w2 ⟨rfl, he2⟩
    go_wp2
    go_ret2; exact ⟨rfl, by (repeat (first | with_reducible exact Ext.refl _ | with_reducible assumption | ((with_reducible refine Ext.setCell ?_ ?_ _); rotate_left; focus (first | omega | (simp <;> omega))) | with_reducible refine Ext.alloc ?_ _ | with_reducible refine Ext.drewN ?_ _ | with_reducible refine Ext.drew ?_ | with_reducible refine Ext.trans ?_ (by with_reducible assumption)))⟩
  · go_ret2; exact ⟨rfl, e1⟩
end Go.Proofs.Ytmpfhibncnamnaa
