/-
  PlayGame.
-/
import Derived.Test.YtmpfhibncnamnaaG4
import Derived.Test.YtmpfhibncnamnaaC57
namespace Go.Proofs.Ytmpfhibncnamnaa
set_option linter.unusedSimpArgs false
set_option linter.unusedVariables false
open Go.RowKit

theorem plGo_len (n : Nat) (cls : List (List Int)) (T : Tab) : ∀ f code, (plGo n cls T f code).1.length % 3 = 0 := by
  intro f
  induction f with
  | zero => intro code; rfl
  | succ f ih =>
    intro code
    rw [plGo]
    split
    · rfl
    · have := ih (plNext T code (proverOf n T code)); simp only [List.length_cons]; omega
set_option maxRecDepth 100000 in
set_option maxHeartbeats 4000000 in
theorem spec_PlayGame_o (v : Int) (A : Option Addr) (n d : Nat) (cls : List (List Int)) (w : World) (h : Intss w A n cls) :
    Calls Try.prog 43 #[.agg #[.int .i64 v, .slice A n d]] w fun e w' =>
      ∃ A' n' c', e = .returned (.tuple #[.slice A' n' c', .int .i64 (plAll v cls).2, .bool (takes v cls)]) ∧ ObT w' w.heap.size w'.heap.size A' n' c' (plAll v cls).1 ∧ Ext w w' := by
  unfold plAll
  cases h1 : takes v cls
  · simp only [Bool.false_eq_true, if_false]
    go_enter Try.func43, Try.ntmps43
    go_wp2_with fail
    refine (l12Takes_c _ _ _ _ cls _ (h.ext (by (repeat (first | with_reducible exact Ext.refl _ | with_reducible assumption | ((with_reducible refine Ext.setCell ?_ ?_ _); rotate_left; focus (first | omega | (simp <;> omega))) | with_reducible refine Ext.alloc ?_ _ | with_reducible refine Ext.drewN ?_ _ | with_reducible refine Ext.drew ?_ | with_reducible refine Ext.trans ?_ (by with_reducible assumption)))))).mono ?_
    rw [h1]
    rintro e w1 ⟨rfl, he⟩
    have hO : Own w1 w.heap.size 83 3 (some ⟨w.heap.size + 1, 0, none⟩) 0 0 (([] : List Int).map (Value.int .i64)) := by
      refine Own.ext ?_ he
      exact Own.lower (base := w.heap.size) (by simpa using Own.lit (w := w.alloc (.cells #[.int .i64 v, .slice A n d] 28)) (base := w.heap.size) (e := 83) (size := 3) [] 0 (by simp) (by simp [maxLen]) rfl) (Nat.le_refl _)
    go_wp2
    go_ret3
    exact ⟨_, _, _, rfl, ⟨hO, fun k hk => (hO.lt k hk).2, by omega⟩, by (repeat (first | with_reducible exact Ext.refl _ | with_reducible assumption | ((with_reducible refine Ext.setCell ?_ ?_ _); rotate_left; focus (first | omega | (simp <;> omega))) | with_reducible refine Ext.alloc ?_ _ | with_reducible refine Ext.drewN ?_ _ | with_reducible refine Ext.drew ?_ | with_reducible refine Ext.trans ?_ (by with_reducible assumption)))⟩
  obtain ⟨hc, hv, _⟩ := takes_facts h1
  have HC := hide (fun c hcc => (cnf_lits hc c hcc).2)
  obtain ⟨u, rfl⟩ := int_nat hv.1
  rw [show ((u : Int)).toNat = u by omega]
  have hu : u ≤ 6 := by omega
  simp only [if_true]
  have H1 := hide h1
  clear h1 hc
  obtain ⟨N, hN⟩ : ∃ N, N = pow3 u := ⟨_, rfl⟩
  have hN6 : N ≤ 729 := by rw [hN]; have := pow3_mono hu; have h6 : pow3 6 = 729 := rfl; omega
  have hN0 : 0 < N := by rw [hN]; exact pow3_pos _
  rw [← hN]
  have hPl := fun W (hI : Intss W A n cls) => l12Play_c u A n d cls W hI hu HC.out
  rw [← hN] at hPl
  have HPl := hide hPl
  have HN := hide hN
  clear hN hPl
  obtain ⟨M, hM⟩ : ∃ M, plGo u cls (gAll u cls) N 0 = M := ⟨_, rfl⟩
  rw [hM]
  have HM := hide hM
  clear hM
  go_enter Try.func43, Try.ntmps43
  go_wp2_with fail
  refine (l12Takes_c _ _ _ _ cls _ (h.ext (by (repeat (first | with_reducible exact Ext.refl _ | with_reducible assumption | ((with_reducible refine Ext.setCell ?_ ?_ _); rotate_left; focus (first | omega | (simp <;> omega))) | with_reducible refine Ext.alloc ?_ _ | with_reducible refine Ext.drewN ?_ _ | with_reducible refine Ext.drew ?_ | with_reducible refine Ext.trans ?_ (by with_reducible assumption)))))).mono ?_
  rw [H1.out]
  rintro e w1 ⟨rfl, he⟩
  have c0 := he.cell (p := ⟨w.heap.size, 0, none⟩) (u := .int .i64 u) (by simp [go_sem])
  have c1 := he.cell (p := ⟨w.heap.size, 1, none⟩) (u := .slice A n d) (by simp [go_sem])
  have hO : Own w1 w.heap.size 83 3 (some ⟨w.heap.size + 1, 0, none⟩) 0 0 (([] : List Int).map (Value.int .i64)) := by
    refine Own.ext ?_ he
    exact Own.lower (base := w.heap.size) (by simpa using Own.lit (w := w.alloc (.cells #[.int .i64 u, .slice A n d] 28)) (base := w.heap.size) (e := 83) (size := 3) [] 0 (by simp) (by simp [maxLen]) rfl) (Nat.le_refl _)
  have hB : BoxAt w1 w.heap.size 28 #[.int .i64 u, .slice A n d] := ((BoxAt.made w _ _).alloc_old).ext he
  have e1 : Ext w w1 := by (repeat (first | with_reducible exact Ext.refl _ | with_reducible assumption | ((with_reducible refine Ext.setCell ?_ ?_ _); rotate_left; focus (first | omega | (simp <;> omega))) | with_reducible refine Ext.alloc ?_ _ | with_reducible refine Ext.drewN ?_ _ | with_reducible refine Ext.drew ?_ | with_reducible refine Ext.trans ?_ (by with_reducible assumption)))
  clear he
  go_wp2_with fail
  refine (HPl.out _ (h.ext (by (repeat (first | with_reducible exact Ext.refl _ | with_reducible assumption | ((with_reducible refine Ext.setCell ?_ ?_ _); rotate_left; focus (first | omega | (simp <;> omega))) | with_reducible refine Ext.alloc ?_ _ | with_reducible refine Ext.drewN ?_ _ | with_reducible refine Ext.drew ?_ | with_reducible refine Ext.trans ?_ (by with_reducible assumption)))))).mono ?_
  rintro e w3 ⟨g1, g2, g3, rfl, hT, he3⟩
  have hB3 := hB.ext he3
  have hO3 := hO.ext he3
  have e3 : Ext w w3 := e1.trans he3
  clear hB hO he3 e1
  go_wp2_with fail
  obtain ⟨W2, hW2⟩ : ∃ W, W = w3.alloc (.cells #[.slice (some ⟨g1, 0, none⟩) N N, .slice (some ⟨g2, 0, none⟩) N N, .slice (some ⟨g3, 0, none⟩) N N] 62) := ⟨_, rfl⟩
  have eW : Ext w3 W2 := by rw [hW2]; exact (Ext.refl _).alloc _
  have hG : BoxAt W2 w3.heap.size 62 #[.slice (some ⟨g1, 0, none⟩) N N, .slice (some ⟨g2, 0, none⟩) N N, .slice (some ⟨g3, 0, none⟩) N N] := by rw [hW2]; exact BoxAt.made _ _ _
  have hB4 := hB3.ext eW
  have hO4 := hO3.ext eW
  have hT4 := hT.ext eW
  have e4 := e3.trans eW
  rw [← hW2]
  clear hW2 hB3 hO3 hT e3 eW c0 c1
  refine wp_loopF 73 _ rfl rfl [1, 7, 71, 72] rfl (fun fr wr => Ext w wr ∧ BoxAt wr w.heap.size 28 #[.int .i64 u, .slice A n d] ∧ BoxAt wr w3.heap.size 62 #[.slice (some ⟨g1, 0, none⟩) N N, .slice (some ⟨g2, 0, none⟩) N N, .slice (some ⟨g3, 0, none⟩) N N] ∧ TabAt wr w1.heap.size g1 g2 g3 N (gAll u cls) ∧ ∃ (X : Option Addr) (y z : Nat) (ys : List Int) (pts : Int) (code f : Nat), (fr 5) = .slice X y z ∧ Own wr w.heap.size 83 3 X y z (ys.map (Value.int .i64)) ∧ (fr 6) = .int .i64 pts ∧ (fr 8) = .int .i64 code ∧ code < N ∧ y ≤ code ∧ (0 ≤ pts ∧ pts ≤ y) ∧ N ≤ code + f ∧ Hid ((ys ++ (plGo u cls (gAll u cls) f code).1, pts + (plGo u cls (gAll u cls) f code).2) = M)) (fun fr wr => N - (intOf (fr 8)).toNat) ?_ ?_
  · (exact ⟨e4, hB4, hG, hT4, _, 0, 0, [], 0, 0, N, rfl, hO4, rfl, rfl, hN0, by omega, by omega, by omega, by simpa using HM⟩)
  intro ks fr wr hkept hrel; (try dsimp only at hrel)
  change Code.wp _ _ _ ⟨#[fr 0, ks 1, fr 2, fr 3, fr 4, fr 5, fr 6, ks 7, fr 8, fr 9, fr 10, fr 11, fr 12, fr 13, fr 14, fr 15, fr 16, fr 17, fr 18, fr 19, fr 20, fr 21, fr 22, fr 23, fr 24, fr 25, fr 26, fr 27, fr 28, fr 29, fr 30, fr 31, fr 32, fr 33, fr 34, fr 35, fr 36, fr 37, fr 38, fr 39, fr 40, fr 41, fr 42, fr 43, fr 44, fr 45, fr 46, fr 47, fr 48, fr 49, fr 50, fr 51, fr 52, fr 53, fr 54, fr 55, fr 56, fr 57, fr 58, fr 59, fr 60, fr 61, fr 62, fr 63, fr 64, fr 65, fr 66, fr 67, fr 68, fr 69, fr 70, ks 71, ks 72], []⟩ wr
  simp only [KeptV, List.getD_cons_zero, List.getD_cons_succ] at hkept; obtain ⟨hk1, hk7, hk71, hk72, -⟩ := hkept
  generalize ks 1 = k1 at hk1 ⊢; subst hk1
  generalize ks 7 = k7 at hk7 ⊢; subst hk7
  generalize ks 71 = k71 at hk71 ⊢; subst hk71
  generalize ks 72 = k72 at hk72 ⊢; subst hk72
  generalize fr 5 = s5 at hrel ⊢
  generalize fr 6 = s6 at hrel ⊢
  generalize fr 8 = s8 at hrel ⊢
  clear hB4 hG hT4 hO4 e4
  obtain ⟨he, hB, hG, hT, X, y, z, ys, pts, code, f, hs1, ho, hs2, hs3, hcN, hyc, hpts, hf, hMM⟩ := hrel
  subst hs1; subst hs2; subst hs3
  have c0 := hB.cell 0 (.int .i64 u) rfl
  have c1 := hB.cell 1 (.slice A n d) rfl
  have hed := (Ext.refl wr).drew
  have hsz := he.size
  obtain ⟨fa, hfa⟩ : ∃ fa, falseAny cls (codeLits u 1 code) = fa := ⟨_, rfl⟩
  have HF := hide hfa
  cases fa
  rotate_left
  · have hend := plGo_over (n := u) (f := f) (T := gAll u cls) hfa
    have hM2 : Hid ((ys, pts) = M) := hide (by rw [← hMM.out, hend]; simp)
    clear hfa hend
    go_wp2_with fail
    go_region_held3 (fun w' => w'.cell? ⟨w.heap.size, 0, none⟩ = some (.int .i64 u) ∧ w'.cell? ⟨w.heap.size, 1, none⟩ = some (.slice A n d)) (simp [go_sem, *]) (first | (go_at_call 65; refine (l12Of_c u code _ hu (by omega)).mono ?_; rintro e w4 ⟨X1, y1, z1', rfl, ho1, hy1, he4⟩; have ew4 : Ext wr w4 := (by (repeat (first | with_reducible exact Ext.refl _ | with_reducible assumption | ((with_reducible refine Ext.setCell ?_ ?_ _); rotate_left; focus (first | omega | (simp <;> omega))) | with_reducible refine Ext.alloc ?_ _ | with_reducible refine Ext.drewN ?_ _ | with_reducible refine Ext.drew ?_ | with_reducible refine Ext.trans ?_ (by with_reducible assumption)))); have j0 := ew4.cell c0; have j1 := ew4.cell c1) | (go_at_call 64; refine (l12False_c u A n d cls X1 y1 z1' (codeLits u 1 code) _ (h.ext (by (repeat (first | with_reducible exact Ext.refl _ | with_reducible assumption | ((with_reducible refine Ext.setCell ?_ ?_ _); rotate_left; focus (first | omega | (simp <;> omega))) | with_reducible refine Ext.alloc ?_ _ | with_reducible refine Ext.drewN ?_ _ | with_reducible refine Ext.drew ?_ | with_reducible refine Ext.trans ?_ (by with_reducible assumption))))) ((ho1.ints (by omega)).ext (by (repeat (first | with_reducible exact Ext.refl _ | with_reducible assumption | ((with_reducible refine Ext.setCell ?_ ?_ _); rotate_left; focus (first | omega | (simp <;> omega))) | with_reducible refine Ext.alloc ?_ _ | with_reducible refine Ext.drewN ?_ _ | with_reducible refine Ext.drew ?_ | with_reducible refine Ext.trans ?_ (by with_reducible assumption))))) HC.out).mono ?_; rw [HF.out]; rintro e w5 ⟨rfl, he5⟩; have ew5 : Ext wr w5 := (by (repeat (first | with_reducible exact Ext.refl _ | with_reducible assumption | ((with_reducible refine Ext.setCell ?_ ?_ _); rotate_left; focus (first | omega | (simp <;> omega))) | with_reducible refine Ext.alloc ?_ _ | with_reducible refine Ext.drewN ?_ _ | with_reducible refine Ext.drew ?_ | with_reducible refine Ext.trans ?_ (by with_reducible assumption)))); have j0 := ew5.cell c0; have j1 := ew5.cell c1))
    have hO5 := hide (ho.ext ew5)
    have hE5 := hide (he.trans ew5)
    go_wp2
    go_ret3
    have hMe := hM2.out
    subst hMe
    exact ⟨_, _, _, rfl, ⟨hO5.out, fun k hk => (hO5.out.lt k hk).2, by omega⟩, hE5.out⟩
  · go_wp2_with fail
    go_region_held3 (fun w' => w'.cell? ⟨w.heap.size, 0, none⟩ = some (.int .i64 u) ∧ w'.cell? ⟨w.heap.size, 1, none⟩ = some (.slice A n d)) (simp [go_sem, *]) (first | (go_at_call 65; refine (l12Of_c u code _ hu (by omega)).mono ?_; rintro e w4 ⟨X1, y1, z1', rfl, ho1, hy1, he4⟩; have ew4 : Ext wr w4 := (by (repeat (first | with_reducible exact Ext.refl _ | with_reducible assumption | ((with_reducible refine Ext.setCell ?_ ?_ _); rotate_left; focus (first | omega | (simp <;> omega))) | with_reducible refine Ext.alloc ?_ _ | with_reducible refine Ext.drewN ?_ _ | with_reducible refine Ext.drew ?_ | with_reducible refine Ext.trans ?_ (by with_reducible assumption)))); have j0 := ew4.cell c0; have j1 := ew4.cell c1) | (go_at_call 64; refine (l12False_c u A n d cls X1 y1 z1' (codeLits u 1 code) _ (h.ext (by (repeat (first | with_reducible exact Ext.refl _ | with_reducible assumption | ((with_reducible refine Ext.setCell ?_ ?_ _); rotate_left; focus (first | omega | (simp <;> omega))) | with_reducible refine Ext.alloc ?_ _ | with_reducible refine Ext.drewN ?_ _ | with_reducible refine Ext.drew ?_ | with_reducible refine Ext.trans ?_ (by with_reducible assumption))))) ((ho1.ints (by omega)).ext (by (repeat (first | with_reducible exact Ext.refl _ | with_reducible assumption | ((with_reducible refine Ext.setCell ?_ ?_ _); rotate_left; focus (first | omega | (simp <;> omega))) | with_reducible refine Ext.alloc ?_ _ | with_reducible refine Ext.drewN ?_ _ | with_reducible refine Ext.drew ?_ | with_reducible refine Ext.trans ?_ (by with_reducible assumption))))) HC.out).mono ?_; rw [HF.out]; rintro e w5 ⟨rfl, he5⟩; have ew5 : Ext wr w5 := (by (repeat (first | with_reducible exact Ext.refl _ | with_reducible assumption | ((with_reducible refine Ext.setCell ?_ ?_ _); rotate_left; focus (first | omega | (simp <;> omega))) | with_reducible refine Ext.alloc ?_ _ | with_reducible refine Ext.drewN ?_ _ | with_reducible refine Ext.drew ?_ | with_reducible refine Ext.trans ?_ (by with_reducible assumption)))); have j0 := ew5.cell c0; have j1 := ew5.cell c1))
    obtain ⟨t, ht⟩ : ∃ t, proverOf u (gAll u cls) code = t + 1 ∧ t < u ∧ openAt code (t + 1) = true := by
      have hm := prover_open H1.out (by rw [← HN.out]; exact hcN) hfa
      have hmo := List.mem_filter.1 hm
      have hmr := mem_varsTo hmo.1
      exact ⟨proverOf u (gAll u cls) code - 1, by omega, by omega, by rw [show proverOf u (gAll u cls) code - 1 + 1 = proverOf u (gAll u cls) code by omega]; exact hmo.2⟩
    obtain ⟨hpv, htu, hop⟩ := ht
    obtain ⟨f', rfl⟩ : ∃ f', f = f' + 1 := ⟨f - 1, by omega⟩
    have hstep := plGo_step (n := u) (f := f') (T := gAll u cls) hfa
    rw [hpv] at hstep
    have hgrow := plNext_grows (T := gAll u cls) (n := u) (by rw [← HN.out]; exact hcN) (v := t + 1) ⟨by omega, by omega⟩ hop
    have hcodes := open_codes (n := u) (by rw [← HN.out]; exact hcN) (v := t + 1) ⟨by omega, by omega⟩ hop
    rw [← HN.out] at hgrow hcodes
    have HPr := fun W (hW : TabAt W w1.heap.size g1 g2 g3 N (gAll u cls)) => l12Prover_c u w1.heap.size g1 g2 g3 code N A n d (gAll u cls) W hW hu HN.out hcN
    rw [hpv] at HPr
    have HPr := hide HPr
    have HA := fun W => l12After_c code t W (by omega) (by omega)
    rw [hop] at HA
    have HA := hide HA
    have HAn := hide (fun W (hW : TabAt W w1.heap.size g1 g2 g3 N (gAll u cls)) => l12Answer_c w1.heap.size g1 g2 g3 code t N (gAll u cls) W hW (by omega) hcodes.2.2 hN6 hop)
    have hge1 : gNo code (t + 1) = code + pow3 t := rfl
    have hge2 : gYes code (t + 1) = code + 2 * pow3 t := rfl
    have hp3 : pow3 t ≤ 729 := by have := pow3_mono (show t ≤ 6 by omega); have h6 : pow3 6 = 729 := rfl; omega
    rw [hge1, hge2] at HA hcodes
    have hT5 := hide (hT.ext ew5)
    have hB5 := hide (hB.ext ew5)
    have hG5 := hide (hG.ext ew5)
    have hO5 := hide (ho.ext ew5)
    have hE5 := hide (he.trans ew5)
    have HOP := hide hop
    clear hfa hpv hop
    have d0 := hB5.out.cell 0 (.int .i64 u) rfl
    have d1 := hB5.out.cell 1 (.slice A n d) rfl
    have k0 := hG5.out.cell 0 (.slice (some ⟨g1, 0, none⟩) N N) rfl
    have k1 := hG5.out.cell 1 (.slice (some ⟨g2, 0, none⟩) N N) rfl
    have k2 := hG5.out.cell 2 (.slice (some ⟨g3, 0, none⟩) N N) rfl
    clear hT hB hG ho he c0 c1
    go_wp2_with fail
    refine (HPr.out _ hT5.out).mono ?_
    rintro e w6 ⟨rfl, he6⟩
    have hcast : (((t + 1 : Nat) : Int)) = (t : Int) + 1 := by omega
    rw [hcast]
    have d0 := he6.cell d0; have d1 := he6.cell d1; have k0 := he6.cell k0; have k1 := he6.cell k1; have k2 := he6.cell k2
    go_wp2_with fail
    refine (HA.out _).mono ?_
    rintro e w7 ⟨rfl, he7⟩
    have d0 := he7.cell d0; have d1 := he7.cell d1; have k0 := he7.cell k0; have k1 := he7.cell k1; have k2 := he7.cell k2
    go_wp2_with fail
    refine (HAn.out _ ((hT5.out.ext he6).ext he7)).mono ?_
    rintro e w8 ⟨rfl, he8⟩
    have e58 : Ext w5 w8 := (he6.trans he7).trans he8
    clear he6 he7 he8 d0 d1 k0 k1 k2
    have hT8 := hide (hT5.out.ext e58)
    have hB8 := hide (hB5.out.ext e58)
    have hG8 := hide (hG5.out.ext e58)
    have hO8 := hO5.out.ext e58
    have hE8 := hide (hE5.out.trans e58)
    have hsz8 := hE8.out.size
    have k0 := hG8.out.cell 0 (.slice (some ⟨g1, 0, none⟩) N N) rfl
    have q1 := hT8.out.sc (show code + pow3 t < N by omega)
    have q2 := hT8.out.sc (show code + 2 * pow3 t < N by omega)
    have hval : plVal (gAll u cls) code (t + 1) = if answerOf (gAll u cls) code (t + 1) = 0 then (if (gAll u cls).sc.getD (code + 2 * pow3 t) 0 < (gAll u cls).sc.getD (code + pow3 t) 0 then 1 else -1) else answerOf (gAll u cls) code (t + 1) := rfl
    have har : answerOf (gAll u cls) code (t + 1) = 0 ∨ answerOf (gAll u cls) code (t + 1) = -1 ∨ answerOf (gAll u cls) code (t + 1) = 1 := ans_range _ _
    have hnx : plNext (gAll u cls) code (t + 1) = if 0 < plVal (gAll u cls) code (t + 1) then code + 2 * pow3 t else code + pow3 t := rfl
    generalize (gAll u cls).sc.getD (code + pow3 t) 0 = s1 at *
    generalize (gAll u cls).sc.getD (code + 2 * pow3 t) 0 = s2 at *
    generalize plVal (gAll u cls) code (t + 1) = va at *
    generalize answerOf (gAll u cls) code (t + 1) = an at *
    generalize plNext (gAll u cls) code (t + 1) = nx at *
    generalize pow3 t = p at *
    clear e58 hge1 hge2 hT5 hB5 hG5 hO5 hE5
    have ha1 : (0 : Int) ≤ (code : Int) + p := by omega
    have ha2 : (code : Int) + p < N := by omega
    have ha3 : ((code : Int) + p).toNat = code + p := by omega
    have ha4 : (0 : Int) ≤ (code : Int) + 2 * p := by omega
    have ha5 : (code : Int) + 2 * p < N := by omega
    have ha6 : ((code : Int) + 2 * p).toNat = code + 2 * p := by omega
    (try rw [show ((code + p : Nat) : Int) = (code : Int) + p by omega])
    (try rw [show ((code + 2 * p : Nat) : Int) = (code : Int) + 2 * p by omega])
    rcases har with han | han | han
    · subst han
      by_cases hss : s2 < s1
      · have hva : va = 1 := by rw [hval]; simp [hss]
        subst hva
        have hnx2 : nx = code + 2 * p := by rw [hnx]; simp
        subst hnx2
        clear hval hnx
        have hsd : decide (s2 < s1) = true := by simpa using hss
        have hM2 : Hid ((ys ++ [((t : Int) + 1), 0, 1] ++ (plGo u cls (gAll u cls) f' (code + 2 * p)).1, (pts + 1) + (plGo u cls (gAll u cls) f' (code + 2 * p)).2) = M) := hide (by rw [← hMM.out, hstep]; simp [Int.add_assoc])
        clear hstep hMM
        have hO9 := hO8.ext ((Ext.refl w8).drew)
        have hB9 := hide (hB8.out.ext ((Ext.refl w8).drew))
        have hG9 := hide (hG8.out.ext ((Ext.refl w8).drew))
        have hT9 := hide (hT8.out.ext ((Ext.refl w8).drew))
        have hE9 := hide (hE8.out.drew)
        have hsz9 : w.heap.size ≤ w8.drew.heap.size := hsz8
        clear hO8 hB8 hG8 hT8 hE8
        go_wp2_with fail
        go_region
        go_wp2_with (at_builtin; refine wpList_app rfl _ _ _ _ rfl Try.underlying46 _ 3 24 info_int3 rfl (by decide) rfl hO9 1 [.int .i64 ((t : Int) + 1), .int .i64 (0), .int .i64 (1)] (by first | rfl | simp [go_sem]) rfl ?_ ?_ ?_ ?_ ?_; (intro u hu; simp at hu; first | (subst hu; rfl) | (rcases hu with rfl | rfl <;> rfl) | (rcases hu with rfl | rfl | rfl <;> rfl)); omega; omega; omega; intro A' c' w' ho' hg' hb')
        have hx1 := hide (hB9.out.grown hO9 (by decide) hg')
        have hx2 := hide (hG9.out.grown hO9 (by decide) hg')
        have hx3 := hide (show TabAt w' w1.heap.size g1 g2 g3 N (gAll u cls) from ⟨hT9.out.o1.grown hO9 (by decide) hg', hT9.out.o2.grown hO9 (by decide) hg', hT9.out.o3.grown hO9 (by decide) hg', hT9.out.full, hT9.out.ne, hT9.out.lo⟩)
        have hx4 := hide (hE9.out.own hO9 hg')
        exact ⟨⟨(by (repeat (first | exact trivial | refine ⟨rfl, ?_⟩))), hx4.out, hx1.out, hx2.out, hx3.out, _, _, _, ys ++ [((t : Int) + 1), 0, 1], pts + 1, code + 2 * p, f', rfl, by simpa using ho', by first | rfl | (simp; done) | go_num, by first | rfl | (simp; done) | go_num, by omega, by omega, by omega, by omega, hM2⟩, (by simp [intOf] <;> omega)⟩
      · have hva : va = -1 := by rw [hval]; simp [hss]
        subst hva
        have hnx2 : nx = code + p := by rw [hnx]; simp
        subst hnx2
        clear hval hnx
        have hsd : decide (s2 < s1) = false := by simpa using hss
        have hM2 : Hid ((ys ++ [((t : Int) + 1), 0, -1] ++ (plGo u cls (gAll u cls) f' (code + p)).1, (pts + 1) + (plGo u cls (gAll u cls) f' (code + p)).2) = M) := hide (by rw [← hMM.out, hstep]; simp [Int.add_assoc])
        clear hstep hMM
        have hO9 := hO8.ext ((Ext.refl w8).drew)
        have hB9 := hide (hB8.out.ext ((Ext.refl w8).drew))
        have hG9 := hide (hG8.out.ext ((Ext.refl w8).drew))
        have hT9 := hide (hT8.out.ext ((Ext.refl w8).drew))
        have hE9 := hide (hE8.out.drew)
        have hsz9 : w.heap.size ≤ w8.drew.heap.size := hsz8
        clear hO8 hB8 hG8 hT8 hE8
        go_wp2_with fail
        go_region
        go_wp2_with (at_builtin; refine wpList_app rfl _ _ _ _ rfl Try.underlying46 _ 3 24 info_int3 rfl (by decide) rfl hO9 1 [.int .i64 ((t : Int) + 1), .int .i64 (0), .int .i64 (-1)] (by first | rfl | simp [go_sem]) rfl ?_ ?_ ?_ ?_ ?_; (intro u hu; simp at hu; first | (subst hu; rfl) | (rcases hu with rfl | rfl <;> rfl) | (rcases hu with rfl | rfl | rfl <;> rfl)); omega; omega; omega; intro A' c' w' ho' hg' hb')
        have hx1 := hide (hB9.out.grown hO9 (by decide) hg')
        have hx2 := hide (hG9.out.grown hO9 (by decide) hg')
        have hx3 := hide (show TabAt w' w1.heap.size g1 g2 g3 N (gAll u cls) from ⟨hT9.out.o1.grown hO9 (by decide) hg', hT9.out.o2.grown hO9 (by decide) hg', hT9.out.o3.grown hO9 (by decide) hg', hT9.out.full, hT9.out.ne, hT9.out.lo⟩)
        have hx4 := hide (hE9.out.own hO9 hg')
        exact ⟨⟨(by (repeat (first | exact trivial | refine ⟨rfl, ?_⟩))), hx4.out, hx1.out, hx2.out, hx3.out, _, _, _, ys ++ [((t : Int) + 1), 0, -1], pts + 1, code + p, f', rfl, by simpa using ho', by first | rfl | (simp; done) | go_num, by first | rfl | (simp; done) | go_num, by omega, by omega, by omega, by omega, hM2⟩, (by simp [intOf] <;> omega)⟩
    · subst han
      have hva : va = -1 := by rw [hval]; simp
      subst hva
      have hnx2 : nx = code + p := by rw [hnx]; simp
      subst hnx2
      clear hval hnx
      have hM2 : Hid ((ys ++ [((t : Int) + 1), -1, -1] ++ (plGo u cls (gAll u cls) f' (code + p)).1, (pts + 0) + (plGo u cls (gAll u cls) f' (code + p)).2) = M) := hide (by rw [← hMM.out, hstep]; simp [Int.add_assoc])
      clear hstep hMM
      have hO9 := hO8
      have hB9 := hB8
      have hG9 := hG8
      have hT9 := hT8
      have hE9 := hE8
      go_wp2_with (at_builtin; refine wpList_app rfl _ _ _ _ rfl Try.underlying46 _ 3 24 info_int3 rfl (by decide) rfl hO9 1 [.int .i64 ((t : Int) + 1), .int .i64 (-1), .int .i64 (-1)] (by first | rfl | simp [go_sem]) rfl ?_ ?_ ?_ ?_ ?_; (intro u hu; simp at hu; first | (subst hu; rfl) | (rcases hu with rfl | rfl <;> rfl) | (rcases hu with rfl | rfl | rfl <;> rfl)); omega; omega; omega; intro A' c' w' ho' hg' hb')
      have hx1 := hide (hB9.out.grown hO9 (by decide) hg')
      have hx2 := hide (hG9.out.grown hO9 (by decide) hg')
      have hx3 := hide (show TabAt w' w1.heap.size g1 g2 g3 N (gAll u cls) from ⟨hT9.out.o1.grown hO9 (by decide) hg', hT9.out.o2.grown hO9 (by decide) hg', hT9.out.o3.grown hO9 (by decide) hg', hT9.out.full, hT9.out.ne, hT9.out.lo⟩)
      have hx4 := hide (hE9.out.own hO9 hg')
      exact ⟨⟨(by (repeat (first | exact trivial | refine ⟨rfl, ?_⟩))), hx4.out, hx1.out, hx2.out, hx3.out, _, _, _, ys ++ [((t : Int) + 1), -1, -1], pts + 0, code + p, f', rfl, by simpa using ho', by first | rfl | (simp; done) | go_num, by first | rfl | (simp; done) | go_num, by omega, by omega, by omega, by omega, hM2⟩, (by simp [intOf] <;> omega)⟩
    · subst han
      have hva : va = 1 := by rw [hval]; simp
      subst hva
      have hnx2 : nx = code + 2 * p := by rw [hnx]; simp
      subst hnx2
      clear hval hnx
      have hM2 : Hid ((ys ++ [((t : Int) + 1), 1, 1] ++ (plGo u cls (gAll u cls) f' (code + 2 * p)).1, (pts + 0) + (plGo u cls (gAll u cls) f' (code + 2 * p)).2) = M) := hide (by rw [← hMM.out, hstep]; simp [Int.add_assoc])
      clear hstep hMM
      have hO9 := hO8
      have hB9 := hB8
      have hG9 := hG8
      have hT9 := hT8
      have hE9 := hE8
      go_wp2_with (at_builtin; refine wpList_app rfl _ _ _ _ rfl Try.underlying46 _ 3 24 info_int3 rfl (by decide) rfl hO9 1 [.int .i64 ((t : Int) + 1), .int .i64 (1), .int .i64 (1)] (by first | rfl | simp [go_sem]) rfl ?_ ?_ ?_ ?_ ?_; (intro u hu; simp at hu; first | (subst hu; rfl) | (rcases hu with rfl | rfl <;> rfl) | (rcases hu with rfl | rfl | rfl <;> rfl)); omega; omega; omega; intro A' c' w' ho' hg' hb')
      have hx1 := hide (hB9.out.grown hO9 (by decide) hg')
      have hx2 := hide (hG9.out.grown hO9 (by decide) hg')
      have hx3 := hide (show TabAt w' w1.heap.size g1 g2 g3 N (gAll u cls) from ⟨hT9.out.o1.grown hO9 (by decide) hg', hT9.out.o2.grown hO9 (by decide) hg', hT9.out.o3.grown hO9 (by decide) hg', hT9.out.full, hT9.out.ne, hT9.out.lo⟩)
      have hx4 := hide (hE9.out.own hO9 hg')
      exact ⟨⟨(by (repeat (first | exact trivial | refine ⟨rfl, ?_⟩))), hx4.out, hx1.out, hx2.out, hx3.out, _, _, _, ys ++ [((t : Int) + 1), 1, 1], pts + 0, code + 2 * p, f', rfl, by simpa using ho', by first | rfl | (simp; done) | go_num, by first | rfl | (simp; done) | go_num, by omega, by omega, by omega, by omega, hM2⟩, (by simp [intOf] <;> omega)⟩
set_option maxRecDepth 100000 in
set_option maxHeartbeats 4000000 in
theorem impl_PlayGame_o (v : Int) (A : Option Addr) (n d : Nat) (cls : List (List Int)) (w : World) (h : Intss w A n cls) :
    Calls Try.prog 44 #[.agg #[.int .i64 v, .slice A n d]] w fun e w' =>
      ∃ A' n' c', e = .returned (.tuple #[.slice A' n' c', .int .i64 (plAll v cls).2, .bool (takes v cls)]) ∧ ObT w' w.heap.size w'.heap.size A' n' c' (plAll v cls).1 ∧ Ext w w' := by
  unfold plAll
  cases h1 : takes v cls
  · simp only [Bool.false_eq_true, if_false]
    go_enter Try.func44, Try.ntmps44
    go_wp2_with fail
    refine (newGame_no _ _ _ _ cls _ (h.ext (by (repeat (first | with_reducible exact Ext.refl _ | with_reducible assumption | ((with_reducible refine Ext.setCell ?_ ?_ _); rotate_left; focus (first | omega | (simp <;> omega))) | with_reducible refine Ext.alloc ?_ _ | with_reducible refine Ext.drewN ?_ _ | with_reducible refine Ext.drew ?_ | with_reducible refine Ext.trans ?_ (by with_reducible assumption))))) h1).mono ?_
    rintro e w1 ⟨rfl, he⟩
    go_wp2
    go_ret3
    exact ⟨_, _, _, rfl, ⟨Own.nil _ _ _ _, by simp [Value.ownBlock], by omega⟩, by (repeat (first | with_reducible exact Ext.refl _ | with_reducible assumption | ((with_reducible refine Ext.setCell ?_ ?_ _); rotate_left; focus (first | omega | (simp <;> omega))) | with_reducible refine Ext.alloc ?_ _ | with_reducible refine Ext.drewN ?_ _ | with_reducible refine Ext.drew ?_ | with_reducible refine Ext.trans ?_ (by with_reducible assumption)))⟩
  obtain ⟨hc, hv, _⟩ := takes_facts h1
  obtain ⟨u, rfl⟩ := int_nat hv.1
  rw [show ((u : Int)).toNat = u by omega]
  have hu : u ≤ 6 := by omega
  simp only [if_true]
  have H1 := hide h1
  clear h1 hc
  obtain ⟨N, hN⟩ : ∃ N, N = pow3 u := ⟨_, rfl⟩
  have hN6 : N ≤ 729 := by rw [hN]; have := pow3_mono hu; have h6 : pow3 6 = 729 := rfl; omega
  have hN0 : 0 < N := by rw [hN]; exact pow3_pos _
  rw [← hN]
  have hNG := fun W (hI : Intss W A n cls) => newGame_yes u A n d cls W hI H1.out
  rw [← hN] at hNG
  have HNG := hide hNG
  have HN := hide hN
  clear hN hNG
  obtain ⟨M, hM⟩ : ∃ M, plGo u cls (gAll u cls) N 0 = M := ⟨_, rfl⟩
  rw [hM]
  have HM := hide hM
  clear hM
  go_enter Try.func44, Try.ntmps44
  go_wp2_with fail
  refine (HNG.out _ (h.ext (by (repeat (first | with_reducible exact Ext.refl _ | with_reducible assumption | ((with_reducible refine Ext.setCell ?_ ?_ _); rotate_left; focus (first | omega | (simp <;> omega))) | with_reducible refine Ext.alloc ?_ _ | with_reducible refine Ext.drewN ?_ _ | with_reducible refine Ext.drew ?_ | with_reducible refine Ext.trans ?_ (by with_reducible assumption)))))).mono ?_
  rintro e w3 ⟨b, g0, g1, g2, g3, ov, rfl, hG, hov, he⟩
  have hov := hide hov
  have e3 : Ext w w3 := by (repeat (first | with_reducible exact Ext.refl _ | with_reducible assumption | ((with_reducible refine Ext.setCell ?_ ?_ _); rotate_left; focus (first | omega | (simp <;> omega))) | with_reducible refine Ext.alloc ?_ _ | with_reducible refine Ext.drewN ?_ _ | with_reducible refine Ext.drew ?_ | with_reducible refine Ext.trans ?_ (by with_reducible assumption)))
  clear he
  go_wp2_with fail
  refine wp_loopF 68 _ rfl rfl [5, 66, 67] rfl (fun fr wr => Ext w wr ∧ GameAt wr (w.heap.size + 1) b g0 g1 g2 g3 u A n d N ov (gAll u cls) ∧ ∃ (X : Option Addr) (y z : Nat) (ys : List Int) (pts : Int) (code f : Nat), (fr 7) = .slice X y z ∧ Own wr w.heap.size 83 3 X y z (ys.map (Value.int .i64)) ∧ (fr 8) = .int .i64 pts ∧ (fr 9) = .int .i64 code ∧ code < N ∧ y ≤ code ∧ (0 ≤ pts ∧ pts ≤ y) ∧ N ≤ code + f ∧ Hid ((ys ++ (plGo u cls (gAll u cls) f code).1, pts + (plGo u cls (gAll u cls) f code).2) = M)) (fun fr wr => N - (intOf (fr 9)).toNat) ?_ ?_
  · (exact ⟨e3, by simpa using hG, _, 0, 0, [], 0, 0, N, rfl, Own.nil _ _ _ _, rfl, rfl, hN0, by omega, by omega, by omega, by simpa using HM⟩)
  intro ks fr wr hkept hrel; (try dsimp only at hrel)
  change Code.wp _ _ _ ⟨#[fr 0, fr 1, fr 2, fr 3, fr 4, ks 5, fr 6, fr 7, fr 8, fr 9, fr 10, fr 11, fr 12, fr 13, fr 14, fr 15, fr 16, fr 17, fr 18, fr 19, fr 20, fr 21, fr 22, fr 23, fr 24, fr 25, fr 26, fr 27, fr 28, fr 29, fr 30, fr 31, fr 32, fr 33, fr 34, fr 35, fr 36, fr 37, fr 38, fr 39, fr 40, fr 41, fr 42, fr 43, fr 44, fr 45, fr 46, fr 47, fr 48, fr 49, fr 50, fr 51, fr 52, fr 53, fr 54, fr 55, fr 56, fr 57, fr 58, fr 59, fr 60, fr 61, fr 62, fr 63, fr 64, fr 65, ks 66, ks 67], []⟩ wr
  simp only [KeptV, List.getD_cons_zero, List.getD_cons_succ] at hkept; obtain ⟨hk5, hk66, hk67, -⟩ := hkept
  generalize ks 5 = k5 at hk5 ⊢; subst hk5
  generalize ks 66 = k66 at hk66 ⊢; subst hk66
  generalize ks 67 = k67 at hk67 ⊢; subst hk67
  generalize fr 7 = s7 at hrel ⊢
  generalize fr 8 = s8 at hrel ⊢
  generalize fr 9 = s9 at hrel ⊢
  clear hG e3
  obtain ⟨he, hG, X, y, z, ys, pts, code, f, hs1, ho, hs2, hs3, hcN, hyc, hpts, hf, hMM⟩ := hrel
  subst hs1; subst hs2; subst hs3
  have hfo := hG.ov hcN
  rw [hov.out code hcN] at hfo
  have e2 := hG.box.cell 2 (.slice (some ⟨g0, 0, none⟩) N N) rfl
  obtain ⟨fa, hfa⟩ : ∃ fa, falseAny cls (codeLits u 1 code) = fa := ⟨_, rfl⟩
  rw [hfa] at hfo
  cases fa
  rotate_left
  · have hend := plGo_over (n := u) (f := f) (T := gAll u cls) hfa
    have hM2 : Hid ((ys, pts) = M) := hide (by rw [← hMM.out, hend]; simp)
    clear hfa hend
    have hO5 := hide ho
    have hE5 := hide he
    clear ho he
    go_wp2
    go_ret3
    have hMe := hM2.out
    subst hMe
    exact ⟨_, _, _, rfl, ⟨hO5.out, fun k hk => (hO5.out.lt k hk).2, by omega⟩, hE5.out⟩
  · obtain ⟨t, ht⟩ : ∃ t, proverOf u (gAll u cls) code = t + 1 ∧ t < u ∧ openAt code (t + 1) = true := by
      have hm := prover_open H1.out (by rw [← HN.out]; exact hcN) hfa
      have hmo := List.mem_filter.1 hm
      have hmr := mem_varsTo hmo.1
      exact ⟨proverOf u (gAll u cls) code - 1, by omega, by omega, by rw [show proverOf u (gAll u cls) code - 1 + 1 = proverOf u (gAll u cls) code by omega]; exact hmo.2⟩
    obtain ⟨hpv, htu, hop⟩ := ht
    obtain ⟨f', rfl⟩ : ∃ f', f = f' + 1 := ⟨f - 1, by omega⟩
    have hstep := plGo_step (n := u) (f := f') (T := gAll u cls) hfa
    rw [hpv] at hstep
    have hcodes := open_codes (n := u) (by rw [← HN.out]; exact hcN) (v := t + 1) ⟨by omega, by omega⟩ hop
    rw [← HN.out] at hcodes
    have HPr := fun W (hW : GameAt W (w.heap.size + 1) b g0 g1 g2 g3 u A n d N ov (gAll u cls)) => proverVariable_c u (w.heap.size + 1) b g0 g1 g2 g3 code N A n d ov (gAll u cls) W hW hu HN.out hcN
    rw [hpv] at HPr
    have HPr := hide HPr
    have HAn := hide (fun W (hW : GameAt W (w.heap.size + 1) b g0 g1 g2 g3 u A n d N ov (gAll u cls)) => answer_c b _ N N (gAll u cls).sc code t W (hW.tab.o1.ints hW.tab.full.sc (by omega)) (hW.box.cell 3 _ rfl) (by omega) hcodes.2.2 hN6)
    have HPts := hide (fun W (hW : GameAt W (w.heap.size + 1) b g0 g1 g2 g3 u A n d N ov (gAll u cls)) => points_c b _ N N (gAll u cls).sc code t W (hW.tab.o1.ints hW.tab.full.sc (by omega)) (hW.box.cell 3 _ rfl) (by omega) hcodes.2.2 hN6)
    have HP3 := hide (fun W => power3_c t W (by omega))
    have hge1 : gNo code (t + 1) = code + pow3 t := rfl
    have hge2 : gYes code (t + 1) = code + 2 * pow3 t := rfl
    have hp3 : pow3 t ≤ 729 := by have := pow3_mono (show t ≤ 6 by omega); have h6 : pow3 6 = 729 := rfl; omega
    rw [hge1, hge2] at hcodes HAn HPts
    have hanD : answerOf (gAll u cls) code (t + 1) = ansOf ((gAll u cls).sc.getD (code + pow3 t) 0) ((gAll u cls).sc.getD (code + 2 * pow3 t) 0) := rfl
    rw [← hanD] at HAn
    have hG5 := hide hG
    have hO5 := hide ho
    have hE5 := hide he
    have hz := he.size
    clear hfa hpv hop hG ho he
    go_wp2_with fail
    refine (HPr.out _ hG5.out).mono ?_
    rintro e w6 ⟨rfl, he6⟩
    have hcast : (((t + 1 : Nat) : Int)) = (t : Int) + 1 := by omega
    rw [hcast]
    go_wp2_with fail
    refine (HAn.out _ (hG5.out.ext he6)).mono ?_
    rintro e w8 ⟨rfl, he8⟩
    have e58 : Ext wr w8 := he6.trans he8
    clear he6 he8 e2 hfo
    have hG8 := hide (hG5.out.ext e58)
    have hO8 := hO5.out.ext e58
    have hE8 := hide (hE5.out.trans e58)
    have hsz8 := hE8.out.size
    have hval : plVal (gAll u cls) code (t + 1) = if answerOf (gAll u cls) code (t + 1) = 0 then (if (gAll u cls).sc.getD (code + 2 * pow3 t) 0 < (gAll u cls).sc.getD (code + pow3 t) 0 then 1 else -1) else answerOf (gAll u cls) code (t + 1) := rfl
    have har : answerOf (gAll u cls) code (t + 1) = 0 ∨ answerOf (gAll u cls) code (t + 1) = -1 ∨ answerOf (gAll u cls) code (t + 1) = 1 := ans_range _ _
    have hnx : plNext (gAll u cls) code (t + 1) = if 0 < plVal (gAll u cls) code (t + 1) then code + 2 * pow3 t else code + pow3 t := rfl
    clear hanD HAn
    generalize (gAll u cls).sc.getD (code + pow3 t) 0 = s1 at *
    generalize (gAll u cls).sc.getD (code + 2 * pow3 t) 0 = s2 at *
    generalize plVal (gAll u cls) code (t + 1) = va at *
    generalize answerOf (gAll u cls) code (t + 1) = an at *
    generalize plNext (gAll u cls) code (t + 1) = nx at *
    have hp0 := pow3_pos t
    generalize pow3 t = p at *
    clear e58 hge1 hge2 hG5 hO5 hE5
    rcases har with han | han | han
    · subst han
      by_cases hss : s2 < s1
      · have hva : va = 1 := by rw [hval]; simp [hss]
        subst hva
        have hnx2 : nx = code + 2 * p := by rw [hnx]; simp
        subst hnx2
        clear hval hnx
        have hsd : decide (s2 < s1) = true := by simpa using hss
        have hM2 : Hid ((ys ++ [((t : Int) + 1), 0, 1] ++ (plGo u cls (gAll u cls) f' (code + 2 * p)).1, (pts + 1) + (plGo u cls (gAll u cls) f' (code + 2 * p)).2) = M) := hide (by rw [← hMM.out, hstep]; simp [Int.add_assoc])
        clear hstep hMM
        go_wp2_with fail
        refine (HPts.out _ hG8.out).mono ?_
        rintro e w9 ⟨rfl, he9⟩
        have hO9 := hO8.ext ((he9.trans ((Ext.refl w9).alloc (.cells #[.int .i64 (wrap64 (1 + min s1 s2)), .int .i64 s1, .int .i64 s2] 83))))
        have hG9 := hide (hG8.out.ext ((he9.trans ((Ext.refl w9).alloc (.cells #[.int .i64 (wrap64 (1 + min s1 s2)), .int .i64 s1, .int .i64 s2] 83)))))
        have hE9 := hide (hE8.out.trans ((he9.trans ((Ext.refl w9).alloc (.cells #[.int .i64 (wrap64 (1 + min s1 s2)), .int .i64 s1, .int .i64 s2] 83)))))
        have hsz9 := hE9.out.size
        clear hO8 hG8 hE8
        go_wp2_with (first | (at_builtin; refine wpList_app rfl _ _ _ _ rfl Try.underlying46 _ 3 24 info_int3 rfl (by decide) rfl hO9 1 [.int .i64 ((t : Int) + 1), .int .i64 (0), .int .i64 (1)] (by first | rfl | simp [go_sem]) rfl ?_ ?_ ?_ ?_ ?_; (intro u hu; simp at hu; first | (subst hu; rfl) | (rcases hu with rfl | rfl <;> rfl) | (rcases hu with rfl | rfl | rfl <;> rfl)); omega; omega; omega; intro A' c' w' ho' hg' hb') | (go_at_call 85; refine (HP3.out _).mono ?_; rintro e w10 ⟨rfl, rfl⟩))
        have hx1 := hide (show GameAt w' (w.heap.size + 1) b g0 g1 g2 g3 u A n d N ov (gAll u cls) from ⟨hG9.out.box.grown hO9 (by decide) hg', hG9.out.over.grown hO9 (by decide) hg', ⟨hG9.out.tab.o1.grown hO9 (by decide) hg', hG9.out.tab.o2.grown hO9 (by decide) hg', hG9.out.tab.o3.grown hO9 (by decide) hg', hG9.out.tab.full, hG9.out.tab.ne, hG9.out.tab.lo⟩, hG9.out.len, hG9.out.ne, hG9.out.lo⟩)
        have hx4 := hide (hE9.out.own hO9 hg')
        exact ⟨⟨(by (repeat (first | exact trivial | refine ⟨rfl, ?_⟩))), hx4.out, hx1.out, _, _, _, ys ++ [((t : Int) + 1), 0, 1], pts + 1, code + 2 * p, f', rfl, by simpa using ho', by first | rfl | (simp; done) | go_num, by first | rfl | (simp; done) | go_num, by omega, by omega, by omega, by omega, hM2⟩, (by simp [intOf] <;> omega)⟩
      · have hva : va = -1 := by rw [hval]; simp [hss]
        subst hva
        have hnx2 : nx = code + p := by rw [hnx]; simp
        subst hnx2
        clear hval hnx
        have hsd : decide (s2 < s1) = false := by simpa using hss
        have hM2 : Hid ((ys ++ [((t : Int) + 1), 0, -1] ++ (plGo u cls (gAll u cls) f' (code + p)).1, (pts + 1) + (plGo u cls (gAll u cls) f' (code + p)).2) = M) := hide (by rw [← hMM.out, hstep]; simp [Int.add_assoc])
        clear hstep hMM
        go_wp2_with fail
        refine (HPts.out _ hG8.out).mono ?_
        rintro e w9 ⟨rfl, he9⟩
        have hO9 := hO8.ext ((he9.trans ((Ext.refl w9).alloc (.cells #[.int .i64 (wrap64 (1 + min s1 s2)), .int .i64 s1, .int .i64 s2] 83))))
        have hG9 := hide (hG8.out.ext ((he9.trans ((Ext.refl w9).alloc (.cells #[.int .i64 (wrap64 (1 + min s1 s2)), .int .i64 s1, .int .i64 s2] 83)))))
        have hE9 := hide (hE8.out.trans ((he9.trans ((Ext.refl w9).alloc (.cells #[.int .i64 (wrap64 (1 + min s1 s2)), .int .i64 s1, .int .i64 s2] 83)))))
        have hsz9 := hE9.out.size
        clear hO8 hG8 hE8
        go_wp2_with (first | (at_builtin; refine wpList_app rfl _ _ _ _ rfl Try.underlying46 _ 3 24 info_int3 rfl (by decide) rfl hO9 1 [.int .i64 ((t : Int) + 1), .int .i64 (0), .int .i64 (-1)] (by first | rfl | simp [go_sem]) rfl ?_ ?_ ?_ ?_ ?_; (intro u hu; simp at hu; first | (subst hu; rfl) | (rcases hu with rfl | rfl <;> rfl) | (rcases hu with rfl | rfl | rfl <;> rfl)); omega; omega; omega; intro A' c' w' ho' hg' hb') | (go_at_call 85; refine (HP3.out _).mono ?_; rintro e w10 ⟨rfl, rfl⟩))
        have hx1 := hide (show GameAt w' (w.heap.size + 1) b g0 g1 g2 g3 u A n d N ov (gAll u cls) from ⟨hG9.out.box.grown hO9 (by decide) hg', hG9.out.over.grown hO9 (by decide) hg', ⟨hG9.out.tab.o1.grown hO9 (by decide) hg', hG9.out.tab.o2.grown hO9 (by decide) hg', hG9.out.tab.o3.grown hO9 (by decide) hg', hG9.out.tab.full, hG9.out.tab.ne, hG9.out.tab.lo⟩, hG9.out.len, hG9.out.ne, hG9.out.lo⟩)
        have hx4 := hide (hE9.out.own hO9 hg')
        exact ⟨⟨(by (repeat (first | exact trivial | refine ⟨rfl, ?_⟩))), hx4.out, hx1.out, _, _, _, ys ++ [((t : Int) + 1), 0, -1], pts + 1, code + p, f', rfl, by simpa using ho', by first | rfl | (simp; done) | go_num, by first | rfl | (simp; done) | go_num, by omega, by omega, by omega, by omega, hM2⟩, (by simp [intOf] <;> omega)⟩
    · subst han
      have hva : va = -1 := by rw [hval]; simp
      subst hva
      have hnx2 : nx = code + p := by rw [hnx]; simp
      subst hnx2
      clear hval hnx
      have hM2 : Hid ((ys ++ [((t : Int) + 1), -1, -1] ++ (plGo u cls (gAll u cls) f' (code + p)).1, (pts + 0) + (plGo u cls (gAll u cls) f' (code + p)).2) = M) := hide (by rw [← hMM.out, hstep]; simp [Int.add_assoc])
      clear hstep hMM
      have hO9 := hO8
      have hG9 := hG8
      have hE9 := hE8
      go_wp2_with (first | (at_builtin; refine wpList_app rfl _ _ _ _ rfl Try.underlying46 _ 3 24 info_int3 rfl (by decide) rfl hO9 1 [.int .i64 ((t : Int) + 1), .int .i64 (-1), .int .i64 (-1)] (by first | rfl | simp [go_sem]) rfl ?_ ?_ ?_ ?_ ?_; (intro u hu; simp at hu; first | (subst hu; rfl) | (rcases hu with rfl | rfl <;> rfl) | (rcases hu with rfl | rfl | rfl <;> rfl)); omega; omega; omega; intro A' c' w' ho' hg' hb') | (go_at_call 85; refine (HP3.out _).mono ?_; rintro e w10 ⟨rfl, rfl⟩))
      have hx1 := hide (show GameAt w' (w.heap.size + 1) b g0 g1 g2 g3 u A n d N ov (gAll u cls) from ⟨hG9.out.box.grown hO9 (by decide) hg', hG9.out.over.grown hO9 (by decide) hg', ⟨hG9.out.tab.o1.grown hO9 (by decide) hg', hG9.out.tab.o2.grown hO9 (by decide) hg', hG9.out.tab.o3.grown hO9 (by decide) hg', hG9.out.tab.full, hG9.out.tab.ne, hG9.out.tab.lo⟩, hG9.out.len, hG9.out.ne, hG9.out.lo⟩)
      have hx4 := hide (hE9.out.own hO9 hg')
      exact ⟨⟨(by (repeat (first | exact trivial | refine ⟨rfl, ?_⟩))), hx4.out, hx1.out, _, _, _, ys ++ [((t : Int) + 1), -1, -1], pts + 0, code + p, f', rfl, by simpa using ho', by first | rfl | (simp; done) | go_num, by first | rfl | (simp; done) | go_num, by omega, by omega, by omega, by omega, hM2⟩, (by simp [intOf] <;> omega)⟩
    · subst han
      have hva : va = 1 := by rw [hval]; simp
      subst hva
      have hnx2 : nx = code + 2 * p := by rw [hnx]; simp
      subst hnx2
      clear hval hnx
      have hM2 : Hid ((ys ++ [((t : Int) + 1), 1, 1] ++ (plGo u cls (gAll u cls) f' (code + 2 * p)).1, (pts + 0) + (plGo u cls (gAll u cls) f' (code + 2 * p)).2) = M) := hide (by rw [← hMM.out, hstep]; simp [Int.add_assoc])
      clear hstep hMM
      have hO9 := hO8
      have hG9 := hG8
      have hE9 := hE8
      go_wp2_with (first | (at_builtin; refine wpList_app rfl _ _ _ _ rfl Try.underlying46 _ 3 24 info_int3 rfl (by decide) rfl hO9 1 [.int .i64 ((t : Int) + 1), .int .i64 (1), .int .i64 (1)] (by first | rfl | simp [go_sem]) rfl ?_ ?_ ?_ ?_ ?_; (intro u hu; simp at hu; first | (subst hu; rfl) | (rcases hu with rfl | rfl <;> rfl) | (rcases hu with rfl | rfl | rfl <;> rfl)); omega; omega; omega; intro A' c' w' ho' hg' hb') | (go_at_call 85; refine (HP3.out _).mono ?_; rintro e w10 ⟨rfl, rfl⟩))
      have hx1 := hide (show GameAt w' (w.heap.size + 1) b g0 g1 g2 g3 u A n d N ov (gAll u cls) from ⟨hG9.out.box.grown hO9 (by decide) hg', hG9.out.over.grown hO9 (by decide) hg', ⟨hG9.out.tab.o1.grown hO9 (by decide) hg', hG9.out.tab.o2.grown hO9 (by decide) hg', hG9.out.tab.o3.grown hO9 (by decide) hg', hG9.out.tab.full, hG9.out.tab.ne, hG9.out.tab.lo⟩, hG9.out.len, hG9.out.ne, hG9.out.lo⟩)
      have hx4 := hide (hE9.out.own hO9 hg')
      exact ⟨⟨(by (repeat (first | exact trivial | refine ⟨rfl, ?_⟩))), hx4.out, hx1.out, _, _, _, ys ++ [((t : Int) + 1), 1, 1], pts + 0, code + 2 * p, f', rfl, by simpa using ho', by first | rfl | (simp; done) | go_num, by first | rfl | (simp; done) | go_num, by omega, by omega, by omega, by omega, hM2⟩, (by simp [intOf] <;> omega)⟩
end Go.Proofs.Ytmpfhibncnamnaa
