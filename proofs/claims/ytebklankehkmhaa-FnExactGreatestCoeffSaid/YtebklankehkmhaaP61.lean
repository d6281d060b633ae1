/-
  The program's planeDue, kinds 1; no condition.
-/
import Derived.Test.YtebklankehkmhaaP4
import Derived.Test.YtebklankehkmhaaC30
namespace Go.Proofs.Ytebklankehkmhaa
set_option linter.unusedSimpArgs false
set_option linter.unusedVariables false
open Go.RowKit
set_option maxRecDepth 100000 in
set_option maxHeartbeats 3200000 in
theorem planeDue_k1 (v : Nat) (C : Option Addr) (nc dc : Nat) (cls : List (List Int)) (A : Option Addr) (n c k : Nat) (ss : List Ps) (w : World) (h : Steps w A n ss) (hcl : Intss w C nc cls) (hk : k < n) (hn : n ≤ 400) (hgood : cnfOk v cls = true) {xs : List Int} {bd a b q : Int} (hx0 : ss[k]? = some (xs, bd, 1, a, b, q)) :
    Calls Try.prog 129 #[.agg #[.int .i64 v, .slice C nc dc], .slice A n c, .int .i64 k] w fun e w' => GivesP e w' (due v cls ss k 1 a b q) ∧ Ext w w' := by
  have hR := due_1 (v := v) (cls := cls) (ss := ss) (k := k) (a := a) (b := b) (q := q)
  obtain ⟨R, hRR⟩ : ∃ R, R = due v cls ss k 1 a b q := ⟨_, rfl⟩
  rw [← hRR] at hR ⊢
  have HR := hide hR
  clear hRR hR
  have HL := hide hcl.len
  obtain ⟨g, xs', m, B, e, bd', kd', a', b', q', rfl, hx, c0, hin0, c1, c2, c3, c4, c5⟩ := h.at_ hk
  have hh := hx0.symm.trans hx.out
  simp only [Option.some.injEq, Prod.mk.injEq] at hh
  obtain ⟨rfl, rfl, rfl, rfl, rfl, rfl⟩ := hh
  have HB := hide (fun W (i : Int) (E : Ext w W) => planeBefore_c v C nc dc (some ⟨g, 0, none⟩) n c k i ss W (h.ext E) (by omega) hn)
  clear hx hx0
  have hn60 : nc ≤ 60 := by have := (cnf_facts hgood).2.1; have := HL.out; omega
  have hw1 : IntKind.i64.wrap ((nc : Int) - 1) = (nc : Int) - 1 := IntWalk.i64_in _ (by omega)
  have HG := hide hgood
  clear hgood
  have d0 := ((((Ext.refl w).alloc (.cells #[.int .i64 v, .slice C nc dc] 41)).alloc (.cells #[.slice none 0 0, .int .i64 0] 26))).cell c0
  have d1 := ((((Ext.refl w).alloc (.cells #[.int .i64 v, .slice C nc dc] 41)).alloc (.cells #[.slice none 0 0, .int .i64 0] 26))).cell c1
  have d2 := ((((Ext.refl w).alloc (.cells #[.int .i64 v, .slice C nc dc] 41)).alloc (.cells #[.slice none 0 0, .int .i64 0] 26))).cell c2
  have d3 := ((((Ext.refl w).alloc (.cells #[.int .i64 v, .slice C nc dc] 41)).alloc (.cells #[.slice none 0 0, .int .i64 0] 26))).cell c3
  have d4 := ((((Ext.refl w).alloc (.cells #[.int .i64 v, .slice C nc dc] 41)).alloc (.cells #[.slice none 0 0, .int .i64 0] 26))).cell c4
  have d5 := ((((Ext.refl w).alloc (.cells #[.int .i64 v, .slice C nc dc] 41)).alloc (.cells #[.slice none 0 0, .int .i64 0] 26))).cell c5
  go_enter Try.func129, Try.ntmps129
  go_wp2_with fail
  refine (HB.out _ _ (by (repeat (first | with_reducible exact Ext.refl _ | with_reducible assumption | ((with_reducible refine Ext.setCell ?_ ?_ _); rotate_left; focus (first | omega | (simp <;> omega))) | with_reducible refine Ext.alloc ?_ _ | with_reducible refine Ext.drewN ?_ _ | with_reducible refine Ext.drew ?_ | with_reducible refine Ext.trans ?_ (by with_reducible assumption))))).mono ?_
  rintro e1 w1 ⟨⟨A1, m1, k1, b1, rfl, hp1⟩, he1⟩
  replace hp1 := hide hp1
  have z1 : w.heap.size + 2 < w1.heap.size := by have := he1.size; simp at this; omega
  have bc0 := he1.cell (p := ⟨w.heap.size, 0, none⟩) (u := .int .i64 v) (by first | simp [go_sem] | simp [go_sem, *]); have bf0 := he1.frozen (p := ⟨w.heap.size, 0, none⟩) (by first | omega | (simp <;> omega)) (by first | simp [go_sem] | simp [go_sem, *]); have bc1 := he1.cell (p := ⟨w.heap.size, 1, none⟩) (u := .slice C nc dc) (by first | simp [go_sem] | simp [go_sem, *]); have bf1 := he1.frozen (p := ⟨w.heap.size, 1, none⟩) (by first | omega | (simp <;> omega)) (by first | simp [go_sem] | simp [go_sem, *])
  have bc2 := he1.cell (p := ⟨w.heap.size + 1, 0, none⟩) (u := .slice none 0 0) (by first | simp [go_sem] | simp [go_sem, *]); have bf2 := he1.frozen (p := ⟨w.heap.size + 1, 0, none⟩) (by first | omega | (simp <;> omega)) (by first | simp [go_sem] | simp [go_sem, *]); have bc3 := he1.cell (p := ⟨w.heap.size + 1, 1, none⟩) (u := .int .i64 0) (by first | simp [go_sem] | simp [go_sem, *]); have bf3 := he1.frozen (p := ⟨w.heap.size + 1, 1, none⟩) (by first | omega | (simp <;> omega)) (by first | simp [go_sem] | simp [go_sem, *])
  have bc4 := he1.cell (p := ⟨w.heap.size + 2, 0, none⟩) (u := .slice B m e) (by first | simp [go_sem] | simp [go_sem, *]); have bf4 := he1.frozen (p := ⟨w.heap.size + 2, 0, none⟩) (by first | omega | (simp <;> omega)) (by first | simp [go_sem] | simp [go_sem, *]); have bc5 := he1.cell (p := ⟨w.heap.size + 2, 1, none⟩) (u := .int .i64 bd) (by first | simp [go_sem] | simp [go_sem, *]); have bf5 := he1.frozen (p := ⟨w.heap.size + 2, 1, none⟩) (by first | omega | (simp <;> omega)) (by first | simp [go_sem] | simp [go_sem, *]); have bc6 := he1.cell (p := ⟨w.heap.size + 2, 2, none⟩) (u := .int .i64 1) (by first | simp [go_sem] | simp [go_sem, *]); have bf6 := he1.frozen (p := ⟨w.heap.size + 2, 2, none⟩) (by first | omega | (simp <;> omega)) (by first | simp [go_sem] | simp [go_sem, *]); have bc7 := he1.cell (p := ⟨w.heap.size + 2, 3, none⟩) (u := .int .i64 a) (by first | simp [go_sem] | simp [go_sem, *]); have bf7 := he1.frozen (p := ⟨w.heap.size + 2, 3, none⟩) (by first | omega | (simp <;> omega)) (by first | simp [go_sem] | simp [go_sem, *]); have bc8 := he1.cell (p := ⟨w.heap.size + 2, 4, none⟩) (u := .int .i64 b) (by first | simp [go_sem] | simp [go_sem, *]); have bf8 := he1.frozen (p := ⟨w.heap.size + 2, 4, none⟩) (by first | omega | (simp <;> omega)) (by first | simp [go_sem] | simp [go_sem, *]); have bc9 := he1.cell (p := ⟨w.heap.size + 2, 5, none⟩) (u := .int .i64 q) (by first | simp [go_sem] | simp [go_sem, *]); have bf9 := he1.frozen (p := ⟨w.heap.size + 2, 5, none⟩) (by first | omega | (simp <;> omega)) (by first | simp [go_sem] | simp [go_sem, *])
  have f0 := ((Ext.refl w1).alloc (.cells #[.slice A1 m1 k1, .int .i64 b1] 26)).cell bc0
  have f1 := ((Ext.refl w1).alloc (.cells #[.slice A1 m1 k1, .int .i64 b1] 26)).cell bc1
  have f2 := ((Ext.refl w1).alloc (.cells #[.slice A1 m1 k1, .int .i64 b1] 26)).cell bc2
  have f3 := ((Ext.refl w1).alloc (.cells #[.slice A1 m1 k1, .int .i64 b1] 26)).cell bc3
  have f6 := ((Ext.refl w1).alloc (.cells #[.slice A1 m1 k1, .int .i64 b1] 26)).cell bc6
  have f7 := ((Ext.refl w1).alloc (.cells #[.slice A1 m1 k1, .int .i64 b1] 26)).cell bc7
  have f8 := ((Ext.refl w1).alloc (.cells #[.slice A1 m1 k1, .int .i64 b1] 26)).cell bc8
  have f9 := ((Ext.refl w1).alloc (.cells #[.slice A1 m1 k1, .int .i64 b1] 26)).cell bc9
  go_wp2_with fail
  refine (HB.out _ _ (by (repeat (first | with_reducible exact Ext.refl _ | with_reducible assumption | ((with_reducible refine Ext.setCell ?_ ?_ _); rotate_left; focus (first | omega | (simp <;> omega))) | with_reducible refine Ext.alloc ?_ _ | with_reducible refine Ext.drewN ?_ _ | with_reducible refine Ext.drew ?_ | with_reducible refine Ext.trans ?_ (by with_reducible assumption))))).mono ?_
  rintro e2 w2 ⟨⟨A2, m2, k2, b2, rfl, hp2⟩, he2⟩
  replace hp2 := hide hp2
  have z2 : w1.heap.size < w2.heap.size := by have := he2.size; simp at this; omega
  have g0 := ((Ext.refl w2).alloc (.cells #[.slice A2 m2 k2, .int .i64 b2] 26)).cell (he2.cell f0)
  have g1 := ((Ext.refl w2).alloc (.cells #[.slice A2 m2 k2, .int .i64 b2] 26)).cell (he2.cell f1)
  have g2 := ((Ext.refl w2).alloc (.cells #[.slice A2 m2 k2, .int .i64 b2] 26)).cell (he2.cell f2)
  have g3 := ((Ext.refl w2).alloc (.cells #[.slice A2 m2 k2, .int .i64 b2] 26)).cell (he2.cell f3)
  have g6 := ((Ext.refl w2).alloc (.cells #[.slice A2 m2 k2, .int .i64 b2] 26)).cell (he2.cell f6)
  have g7 := ((Ext.refl w2).alloc (.cells #[.slice A2 m2 k2, .int .i64 b2] 26)).cell (he2.cell f7)
  have g8 := ((Ext.refl w2).alloc (.cells #[.slice A2 m2 k2, .int .i64 b2] 26)).cell (he2.cell f8)
  have g9 := ((Ext.refl w2).alloc (.cells #[.slice A2 m2 k2, .int .i64 b2] 26)).cell (he2.cell f9)
  have hbx : BoxAt (w2.alloc (.cells #[.slice A2 m2 k2, .int .i64 b2] 26)) (w.heap.size + 1) 26 #[.slice none 0 0, .int .i64 0] := by
    have h0 := BoxAt.made (w.alloc (.cells #[.int .i64 v, .slice C nc dc] 41)) #[.slice none 0 0, .int .i64 0] 26
    rw [show (w.alloc (.cells #[.int .i64 v, .slice C nc dc] 41)).heap.size = w.heap.size + 1 by simp] at h0
    exact ((((h0.ext ((Ext.refl _).alloc _)).ext he1).ext ((Ext.refl w1).alloc _)).ext he2).ext ((Ext.refl w2).alloc _)
  have q2 := hbx.frozen 0
  have q3 := hbx.frozen 1
  have EE : Hid (Ext w (w2.alloc (.cells #[.slice A2 m2 k2, .int .i64 b2] 26))) := hide (by (repeat (first | with_reducible exact Ext.refl _ | with_reducible assumption | ((with_reducible refine Ext.setCell ?_ ?_ _); rotate_left; focus (first | omega | (simp <;> omega))) | with_reducible refine Ext.alloc ?_ _ | with_reducible refine Ext.drewN ?_ _ | with_reducible refine Ext.drew ?_ | with_reducible refine Ext.trans ?_ (by with_reducible assumption))))
  cases hwi : within a 0 ((nc : Int) - 1)
  · have hR0 : R = none := by rw [HR.out]; simp [axOk, ← HL.out, hwi]
    subst hR0; clear HR
    have HW := hide (fun W => within_c a 0 ((nc : Int) - 1) W)
    rw [hwi] at HW
    clear hwi
    go_wp2_with (first | (go_at_call 73; (with_reducible refine (HW.out _).mono ?_); rintro e3 w3 ⟨rfl, rfl⟩))
    refine (?main1 : ∀ WW : World, BoxAt WW (w.heap.size + 1) 26 #[.slice none 0 0, .int .i64 0] → Ext w WW → bodyPost _ _ _ _ _ WW) _ ?_ ?_
    case main1 =>
      intro WW hbw hew
      have r0 := hbw.cell 0 (.slice none 0 0) rfl
      have r1 := hbw.cell 1 (.int .i64 0) rfl
      refine bodyPost_ret (v := .tuple #[.agg #[.slice none 0 0, .int .i64 0], .bool false]) (by simp only [results, Try.results129]; simp [go_sem, r0, r1]) rfl ⟨by exact ⟨_, _, _, _, rfl, fun p hp => by cases hp⟩, hew⟩
    · exact (hbx.set 0 _).set 1 _
    · exact (EE.out.setCell (p := ⟨w.heap.size + 1, 0, none⟩) (by simp) _).setCell (p := ⟨w.heap.size + 1, 1, none⟩) (by simp) _
  · by_cases hb : b = 0
    · by_cases hq : q = 0
      · subst hb; subst hq
        obtain ⟨ha0, ha1⟩ := within_true hwi
        obtain ⟨j, rfl⟩ := int_nat ha0
        have hjn : j < nc := by omega
        obtain ⟨ad, cl, X, y, z, rfl, hxc, hcx0, hin⟩ := hcl.at_ hjn
        have hcx := EE.out.cell hcx0
        have hR1 : R = some (litCells v cl, litBound cl) := by rw [HR.out, if_pos (by simp [axOk, ← HL.out, hwi]), Int.toNat_natCast, getD_of hxc]
        subst hR1; clear HR
        have HW := hide (fun W => within_c (j : Int) 0 ((nc : Int) - 1) W)
        rw [hwi] at HW
        clear hwi
        obtain ⟨hv12, hlit, hlen⟩ := clause_facts ((cnf_facts HG.out).2.2 cl (List.mem_of_getElem? hxc.out))
        have HP := hide (fun W (E : Ext (w2.alloc (.cells #[.slice A2 m2 k2, .int .i64 b2] 26)) W) => planeOf_c v X y z cl W (hin.ext (EE.out.trans E)) (by omega) (by have := hin.len; omega) hlit)
        clear hlit hxc
        have eD := (Ext.refl (w2.alloc (.cells #[.slice A2 m2 k2, .int .i64 b2] 26))).drew
        have hbD := hbx.ext eD
        have eeD := EE.out.trans eD
        have u0 := eD.cell g0
        have u1 := eD.cell g1
        have u2 := eD.cell g7
        have u3 := eD.cell hcx
        go_wp2_with (first | (go_at_call 73; (with_reducible refine (HW.out _).mono ?_); rintro e3 w3 ⟨rfl, rfl⟩))
        go_region_held3 (fun w' => w'.cell? ⟨w.heap.size, 0, none⟩ = some (.int .i64 v) ∧ w'.cell? ⟨w.heap.size, 1, none⟩ = some (.slice (some ad) nc dc) ∧ w'.cell? ⟨w.heap.size + 1 + 1, 3, none⟩ = some (.int .i64 j) ∧ w'.cell? (ad.add j) = some (.slice X y z)) (refine ⟨?_, ?_, ?_, ?_⟩ <;> first | (simp [go_sem, *]; done) | exact ((ew.setCell (p := ⟨w.heap.size + 1, 0, none⟩) (by simp) _).setCell (p := ⟨w.heap.size + 1, 1, none⟩) (by simp) _).cell hcx0) (first | (go_at_call 162; (with_reducible refine (HP.out _ eD).mono ?_); rintro e4 w4 ⟨A3, c3, rfl, ho, he4⟩; have ew := eeD.trans he4; have hq := hbD.ext he4; have q0 := hq.cell 0 (.slice none 0 0) rfl; have q1 := hq.cell 1 (.int .i64 0) rfl; have q2 := hq.frozen 0; have q3 := hq.frozen 1; have hql := hq.lt; have z0 := he4.cell u0; have z1 := he4.cell u1; have z2 := he4.cell u2; have z3 := he4.cell u3))
        go_wp2_with fail
        refine (?main2 : ∀ WW : World, BoxAt WW (w.heap.size + 1) 26 #[.slice A3 v c3, .int .i64 (litBound cl)] → Ext w WW → Ints WW A3 v (litCells v cl) → bodyPost _ _ _ _ _ WW) _ ?_ ?_ ?_
        case main2 =>
          intro WW hbw hew hin
          have r0 := hbw.cell 0 (.slice A3 v c3) rfl
          have r1 := hbw.cell 1 (.int .i64 (litBound cl)) rfl
          refine bodyPost_ret (v := .tuple #[.agg #[.slice A3 v c3, .int .i64 (litBound cl)], .bool true]) (by simp only [results, Try.results129]; simp [go_sem, r0, r1]) rfl ⟨by exact ⟨_, _, _, _, rfl, fun p hp => by injection hp with hp; subst hp; exact ⟨hin, rfl⟩⟩, hew⟩
        · exact (hq.set 0 _).set 1 _
        · exact (ew.setCell (p := ⟨w.heap.size + 1, 0, none⟩) (by simp) _).setCell (p := ⟨w.heap.size + 1, 1, none⟩) (by simp) _
        · exact ((ho.setLow (p := ⟨w.heap.size + 1, 0, none⟩) (by simp; omega) _).setLow (p := ⟨w.heap.size + 1, 1, none⟩) (by simp; omega) _).ints (by omega)
      · have hR0 : R = none := by rw [HR.out]; simp [axOk, hq]
        subst hR0; clear HR; subst hb
        have HW := hide (fun W => within_c a 0 ((nc : Int) - 1) W)
        rw [hwi] at HW
        clear hwi
        go_wp2_with (first | (go_at_call 73; (with_reducible refine (HW.out _).mono ?_); rintro e3 w3 ⟨rfl, rfl⟩))
        refine (?main3 : ∀ WW : World, BoxAt WW (w.heap.size + 1) 26 #[.slice none 0 0, .int .i64 0] → Ext w WW → bodyPost _ _ _ _ _ WW) _ ?_ ?_
        case main3 =>
          intro WW hbw hew
          have r0 := hbw.cell 0 (.slice none 0 0) rfl
          have r1 := hbw.cell 1 (.int .i64 0) rfl
          refine bodyPost_ret (v := .tuple #[.agg #[.slice none 0 0, .int .i64 0], .bool false]) (by simp only [results, Try.results129]; simp [go_sem, r0, r1]) rfl ⟨by exact ⟨_, _, _, _, rfl, fun p hp => by cases hp⟩, hew⟩
        · exact (hbx.set 0 _).set 1 _
        · exact (EE.out.setCell (p := ⟨w.heap.size + 1, 0, none⟩) (by simp) _).setCell (p := ⟨w.heap.size + 1, 1, none⟩) (by simp) _
    · have hR0 : R = none := by rw [HR.out]; simp [axOk, hb]
      subst hR0; clear HR
      have HW := hide (fun W => within_c a 0 ((nc : Int) - 1) W)
      rw [hwi] at HW
      clear hwi
      go_wp2_with (first | (go_at_call 73; (with_reducible refine (HW.out _).mono ?_); rintro e3 w3 ⟨rfl, rfl⟩))
      refine (?main4 : ∀ WW : World, BoxAt WW (w.heap.size + 1) 26 #[.slice none 0 0, .int .i64 0] → Ext w WW → bodyPost _ _ _ _ _ WW) _ ?_ ?_
      case main4 =>
        intro WW hbw hew
        have r0 := hbw.cell 0 (.slice none 0 0) rfl
        have r1 := hbw.cell 1 (.int .i64 0) rfl
        refine bodyPost_ret (v := .tuple #[.agg #[.slice none 0 0, .int .i64 0], .bool false]) (by simp only [results, Try.results129]; simp [go_sem, r0, r1]) rfl ⟨by exact ⟨_, _, _, _, rfl, fun p hp => by cases hp⟩, hew⟩
      · exact (hbx.set 0 _).set 1 _
      · exact (EE.out.setCell (p := ⟨w.heap.size + 1, 0, none⟩) (by simp) _).setCell (p := ⟨w.heap.size + 1, 1, none⟩) (by simp) _
end Go.Proofs.Ytebklankehkmhaa
