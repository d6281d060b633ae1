/-
  The Delayer's answer.
-/
import Derived.Test.YtmpfhibncnamnaaC51
namespace Go.Proofs.Ytmpfhibncnamnaa
set_option linter.unusedSimpArgs false
set_option linter.unusedVariables false
open Go.RowKit

def ansOf (no yes : Int) : Int := if gPts no yes = wrap64 (1 + min no yes) then 0 else if gPts no yes = no then -1 else 1
theorem ans_cases (no yes : Int) : (gPts no yes = wrap64 (1 + min no yes) ∧ ansOf no yes = 0 ∧ idxOf (· == gPts no yes) [wrap64 (1 + min no yes), no, yes] 0 = 0) ∨
    (gPts no yes ≠ wrap64 (1 + min no yes) ∧ gPts no yes = no ∧ ansOf no yes = -1 ∧ idxOf (· == gPts no yes) [wrap64 (1 + min no yes), no, yes] 0 = 1) ∨
    (gPts no yes ≠ wrap64 (1 + min no yes) ∧ gPts no yes ≠ no ∧ ansOf no yes = 1 ∧ idxOf (· == gPts no yes) [wrap64 (1 + min no yes), no, yes] 0 = 2) := by
  have hp : gPts no yes = wrap64 (1 + min no yes) ∨ gPts no yes = no ∨ gPts no yes = yes := by unfold gPts; omega
  unfold ansOf
  generalize gPts no yes = P at *
  generalize wrap64 (1 + min no yes) = Q at *
  by_cases h1 : P = Q
  · exact .inl ⟨h1, by rw [if_pos h1], by simp [idxOf, h1]⟩
  · by_cases h2 : P = no
    · refine .inr (.inl ⟨h1, h2, by rw [if_neg h1, if_pos h2], ?_⟩)
      simp [idxOf, h2, show ¬ Q = no by omega]
    · refine .inr (.inr ⟨h1, h2, by rw [if_neg h1, if_neg h2], ?_⟩)
      simp [idxOf, show ¬ Q = P by omega, show ¬ no = P by omega, show yes = P by omega]
def answerOf (T : Tab) (code v : Nat) : Int := ansOf (T.sc.getD (gNo code v) 0) (T.sc.getD (gYes code v) 0)

set_option maxRecDepth 100000 in
set_option maxHeartbeats 4000000 in
theorem l12Answer_c (L g1 g2 g3 code u N : Nat) (T : Tab) (w : World) (hT : TabAt w L g1 g2 g3 N T) (hu : u ≤ 5) (hN : gYes code (u + 1) < N) (hN6 : N ≤ 729) (hop : openAt code (u + 1) = true) :
    Calls Try.prog 80 #[.agg #[.slice (some ⟨g1, 0, none⟩) N N, .slice (some ⟨g2, 0, none⟩) N N, .slice (some ⟨g3, 0, none⟩) N N], .int .i64 code, .int .i64 ((u : Int) + 1)] w fun e w' =>
      e = .returned (.int .i64 (answerOf T code (u + 1))) ∧ Ext w w' := by
  have hp3 : pow3 u ≤ 729 := by have := pow3_mono (show u ≤ 6 by omega); have h6 : pow3 6 = 729 := rfl; omega
  have hge1 : gNo code (u + 1) = code + pow3 u := rfl
  have hge2 : gYes code (u + 1) = code + 2 * pow3 u := rfl
  have HA := hide (fun W => l12After_c code u W (by omega) hu)
  rw [hop] at HA
  unfold answerOf
  rw [hge1, hge2] at HA ⊢
  rw [hge2] at hN
  have hT2 := fun W (he : Ext w W) => hT.ext he
  have f5 := hT.sc (show code + pow3 u < N by omega)
  have f6 := hT.sc (show code + 2 * pow3 u < N by omega)
  clear hge1 hge2 hop hT2
  generalize T.sc.getD (code + pow3 u) 0 = s1 at *
  generalize T.sc.getD (code + 2 * pow3 u) 0 = s2 at *
  generalize pow3 u = p at *
  have HPt := hide (fun W => l12Points_c s1 s2 W)
  have hcs := ans_cases s1 s2
  generalize gPts s1 s2 = P1 at *
  have ha1 : (0 : Int) ≤ (code : Int) + p := by omega
  have ha2 : (code : Int) + p < N := by omega
  have ha3 : ((code : Int) + p).toNat = code + p := by omega
  have ha4 : (0 : Int) ≤ (code : Int) + 2 * p := by omega
  have ha5 : (code : Int) + 2 * p < N := by omega
  have ha6 : ((code : Int) + 2 * p).toNat = code + 2 * p := by omega
  rcases hcs with ⟨h1, h2, _⟩ | ⟨h1, h3, h2, _⟩ | ⟨h1, h3, h2, _⟩
  · rw [h2]
    have hb1 : (P1 == wrap64 (1 + min s1 s2)) = true := by simpa using h1
    clear h1 h2
    go_enter Try.func80, Try.ntmps80
    go_wp2_with fail
    refine (HA.out _).mono ?_
    rintro e w6 ⟨rfl, he6⟩
    (try rw [show ((code + p : Nat) : Int) = (code : Int) + p by omega])
    (try rw [show ((code + 2 * p : Nat) : Int) = (code : Int) + 2 * p by omega])
    have c0 := he6.box 0 (.slice (some ⟨g1, 0, none⟩) N N) rfl
    have f5 := he6.cell (((Ext.refl w).alloc _).cell f5)
    have f6 := he6.cell (((Ext.refl w).alloc _).cell f6)
    go_wp2_with fail
    go_quiet ((go_at_call 67; first | (refine quiet_left (HPt.out _)) | (refine quiet_left2 (HPt.out _))))
    go_wp2_with fail
    go_quiet ((go_at_call 108; first | (refine quiet_left (l1Least_c _ _ _)) | (refine quiet_left2 (l1Least_c _ _ _))))
    go_wp2
    go_ret; exact ⟨rfl, by (repeat (first | with_reducible exact Ext.refl _ | with_reducible assumption | ((with_reducible refine Ext.setCell ?_ ?_ _); rotate_left; focus (first | omega | (simp <;> omega))) | with_reducible refine Ext.alloc ?_ _ | with_reducible refine Ext.drewN ?_ _ | with_reducible refine Ext.drew ?_ | with_reducible refine Ext.trans ?_ (by with_reducible assumption)))⟩
  · rw [h2]
    have hb1 : (P1 == wrap64 (1 + min s1 s2)) = false := by simpa using h1
    have hb2 : (P1 == s1) = true := by simpa using h3
    clear h1 h2 h3
    go_enter Try.func80, Try.ntmps80
    go_wp2_with fail
    refine (HA.out _).mono ?_
    rintro e w6 ⟨rfl, he6⟩
    (try rw [show ((code + p : Nat) : Int) = (code : Int) + p by omega])
    (try rw [show ((code + 2 * p : Nat) : Int) = (code : Int) + 2 * p by omega])
    have c0 := he6.box 0 (.slice (some ⟨g1, 0, none⟩) N N) rfl
    have f5 := he6.cell (((Ext.refl w).alloc _).cell f5)
    have f6 := he6.cell (((Ext.refl w).alloc _).cell f6)
    go_wp2_with fail
    go_quiet ((go_at_call 67; first | (refine quiet_left (HPt.out _)) | (refine quiet_left2 (HPt.out _))))
    go_wp2_with fail
    go_quiet ((go_at_call 108; first | (refine quiet_left (l1Least_c _ _ _)) | (refine quiet_left2 (l1Least_c _ _ _))))
    go_wp2
    go_ret; exact ⟨rfl, by (repeat (first | with_reducible exact Ext.refl _ | with_reducible assumption | ((with_reducible refine Ext.setCell ?_ ?_ _); rotate_left; focus (first | omega | (simp <;> omega))) | with_reducible refine Ext.alloc ?_ _ | with_reducible refine Ext.drewN ?_ _ | with_reducible refine Ext.drew ?_ | with_reducible refine Ext.trans ?_ (by with_reducible assumption)))⟩
  · rw [h2]
    have hb1 : (P1 == wrap64 (1 + min s1 s2)) = false := by simpa using h1
    have hb2 : (P1 == s1) = false := by simpa using h3
    clear h1 h2 h3
    go_enter Try.func80, Try.ntmps80
    go_wp2_with fail
    refine (HA.out _).mono ?_
    rintro e w6 ⟨rfl, he6⟩
    (try rw [show ((code + p : Nat) : Int) = (code : Int) + p by omega])
    (try rw [show ((code + 2 * p : Nat) : Int) = (code : Int) + 2 * p by omega])
    have c0 := he6.box 0 (.slice (some ⟨g1, 0, none⟩) N N) rfl
    have f5 := he6.cell (((Ext.refl w).alloc _).cell f5)
    have f6 := he6.cell (((Ext.refl w).alloc _).cell f6)
    go_wp2_with fail
    go_quiet ((go_at_call 67; first | (refine quiet_left (HPt.out _)) | (refine quiet_left2 (HPt.out _))))
    go_wp2_with fail
    go_quiet ((go_at_call 108; first | (refine quiet_left (l1Least_c _ _ _)) | (refine quiet_left2 (l1Least_c _ _ _))))
    go_wp2
    go_ret; exact ⟨rfl, by (repeat (first | with_reducible exact Ext.refl _ | with_reducible assumption | ((with_reducible refine Ext.setCell ?_ ?_ _); rotate_left; focus (first | omega | (simp <;> omega))) | with_reducible refine Ext.alloc ?_ _ | with_reducible refine Ext.drewN ?_ _ | with_reducible refine Ext.drew ?_ | with_reducible refine Ext.trans ?_ (by with_reducible assumption)))⟩
theorem index3_0 (w : World) : (Instr.index 83 (.agg #[.int .i64 0, .int .i64 (-1), .int .i64 1]) (.int .i64 0)).run Try.prog w = .ok (.int .i64 0) w := by kernel_rfl
theorem index3_1 (w : World) : (Instr.index 83 (.agg #[.int .i64 0, .int .i64 (-1), .int .i64 1]) (.int .i64 1)).run Try.prog w = .ok (.int .i64 (-1)) w := by kernel_rfl
theorem index3_2 (w : World) : (Instr.index 83 (.agg #[.int .i64 0, .int .i64 (-1), .int .i64 1]) (.int .i64 2)).run Try.prog w = .ok (.int .i64 1) w := by kernel_rfl
theorem ints3 {w : World} {g : Nat} {t : TypeId} {a b c : Int} (h : BoxAt w g t #[.int .i64 a, .int .i64 b, .int .i64 c]) : Ints w (some ⟨g, 0, none⟩) 3 [a, b, c] :=
  ⟨rfl, by omega, fun _ => ⟨_, rfl, fun j u hu => by
    have := h.cell j u (by rw [List.getElem?_toArray]; exact hu)
    cases j
    · exact this
    · simpa [Addr.add] using this⟩⟩
set_option maxRecDepth 100000 in
set_option maxHeartbeats 4000000 in
theorem answer_c (b : Nat) (S : Option Addr) (N c : Nat) (sc : List Int) (code u : Nat) (w : World) (hS : Ints w S N sc) (hb : w.cell? ⟨b, 3, none⟩ = some (.slice S N c)) (hu : u ≤ 5) (hN : gYes code (u + 1) < N) (hN2 : N ≤ 729) :
    Calls Try.prog 83 #[.pointer (some ⟨b, 0, none⟩), .int .i64 code, .int .i64 ((u : Int) + 1)] w fun e w' =>
      e = .returned (.int .i64 (ansOf (sc.getD (gNo code (u + 1)) 0) (sc.getD (gYes code (u + 1)) 0))) ∧ Ext w w' := by
  have HPT := hide (points_c b S N c sc code u w hS hb hu hN hN2)
  generalize sc.getD (gNo code (u + 1)) 0 = s1 at *
  generalize sc.getD (gYes code (u + 1)) 0 = s2 at *
  have HB := hide (fun W => best_pts s1 s2 W)
  have hcs := ans_cases s1 s2
  generalize gPts s1 s2 = P1 at *
  generalize wrap64 (1 + min s1 s2) = Q1 at *
  clear hS hb hN
  rcases hcs with ⟨h1, h2, h4⟩ | ⟨h1, h3, h2, h4⟩ | ⟨h1, h3, h2, h4⟩
  all_goals
    rw [h2]
    have H4 := hide h4
    clear h1 h2 h4
    (try clear h3)
    go_enter Try.func83, Try.ntmps83
    go_wp2_with fail
    refine HPT.out.mono ?_
    rintro e w1 ⟨rfl, he1⟩
    go_wp2_with fail
    obtain ⟨W2, hW2⟩ : ∃ W, W = w1.alloc (.cells #[.int .i64 Q1, .int .i64 s1, .int .i64 s2] 83) := ⟨_, rfl⟩
    have hbx : BoxAt W2 w1.heap.size 83 #[.int .i64 Q1, .int .i64 s1, .int .i64 s2] := by rw [hW2]; exact BoxAt.made _ _ _
    have eW : Ext w W2 := by rw [hW2]; exact he1.alloc _
    (try rw [← hW2])
    clear hW2
    have hix0 := index3_0
    have hix1 := index3_1
    have hix2 := index3_2
    have k0 := hbx.cell 0 (.int .i64 Q1) rfl
    have k1 := hbx.cell 1 (.int .i64 s1) rfl
    have k2 := hbx.cell 2 (.int .i64 s2) rfl
    have HI := hide (ints3 hbx)
    go_region_held3 (fun w' => w'.cell? ⟨w1.heap.size, 0, none⟩ = some (.int .i64 Q1) ∧ w'.cell? ⟨w1.heap.size, 1, none⟩ = some (.int .i64 s1) ∧ w'.cell? ⟨w1.heap.size, 2, none⟩ = some (.int .i64 s2)) (exact ⟨(show Ext W2 _ by (repeat (first | with_reducible exact Ext.refl _ | with_reducible assumption | ((with_reducible refine Ext.setCell ?_ ?_ _); rotate_left; focus (first | omega | (simp <;> omega))) | with_reducible refine Ext.alloc ?_ _ | with_reducible refine Ext.drewN ?_ _ | with_reducible refine Ext.drew ?_ | with_reducible refine Ext.trans ?_ (by with_reducible assumption)))).cell k0, (show Ext W2 _ by (repeat (first | with_reducible exact Ext.refl _ | with_reducible assumption | ((with_reducible refine Ext.setCell ?_ ?_ _); rotate_left; focus (first | omega | (simp <;> omega))) | with_reducible refine Ext.alloc ?_ _ | with_reducible refine Ext.drewN ?_ _ | with_reducible refine Ext.drew ?_ | with_reducible refine Ext.trans ?_ (by with_reducible assumption)))).cell k1, (show Ext W2 _ by (repeat (first | with_reducible exact Ext.refl _ | with_reducible assumption | ((with_reducible refine Ext.setCell ?_ ?_ _); rotate_left; focus (first | omega | (simp <;> omega))) | with_reducible refine Ext.alloc ?_ _ | with_reducible refine Ext.drewN ?_ _ | with_reducible refine Ext.drew ?_ | with_reducible refine Ext.trans ?_ (by with_reducible assumption)))).cell k2⟩) (first | (go_at_call 71; refine (HB.out _).mono ?_; rintro e w5 ⟨rfl, he5⟩) | (go_at_call 117; refine (Index_int_c _ _ _ P1 [Q1, s1, s2] _ (HI.out.ext (by (repeat (first | with_reducible exact Ext.refl _ | with_reducible assumption | ((with_reducible refine Ext.setCell ?_ ?_ _); rotate_left; focus (first | omega | (simp <;> omega))) | with_reducible refine Ext.alloc ?_ _ | with_reducible refine Ext.drewN ?_ _ | with_reducible refine Ext.drew ?_ | with_reducible refine Ext.trans ?_ (by with_reducible assumption)))))).mono ?_; rw [H4.out]; rintro e w6 ⟨rfl, he6⟩))
    go_wp2
    go_ret; exact ⟨rfl, by (repeat (first | with_reducible exact Ext.refl _ | with_reducible assumption | ((with_reducible refine Ext.setCell ?_ ?_ _); rotate_left; focus (first | omega | (simp <;> omega))) | with_reducible refine Ext.alloc ?_ _ | with_reducible refine Ext.drewN ?_ _ | with_reducible refine Ext.drew ?_ | with_reducible refine Ext.trans ?_ (by with_reducible assumption)))⟩
end Go.Proofs.Ytmpfhibncnamnaa
