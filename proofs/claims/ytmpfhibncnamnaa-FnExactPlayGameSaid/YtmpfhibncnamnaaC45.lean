/-
  l12Play: the reference's tables of a game.
-/
import Derived.Test.YtmpfhibncnamnaaC44
namespace Go.Proofs.Ytmpfhibncnamnaa
set_option linter.unusedSimpArgs false
set_option linter.unusedVariables false
open Go.RowKit

theorem BoxAt.set3 {w : World} {b : Nat} {t : TypeId} {z0 z1 z2 x y z : Value} (h : BoxAt w b t #[z0, z1, z2]) : BoxAt (((w.setCell ⟨b, 0, none⟩ x).setCell ⟨b, 1, none⟩ y).setCell ⟨b, 2, none⟩ z) b t #[x, y, z] := ((h.set 0 x).set 1 y).set 2 z
theorem BoxAt.other {w : World} {b g : Nat} {t : TypeId} {cs : Array Value} {j : Nat} {x : Value} (hne : g ≠ b) (h : BoxAt w g t cs) : BoxAt (w.setCell ⟨b, j, none⟩ x) g t cs := h.setOther hne _
structure SpecAt (w : World) (L b g1 g2 g3 N : Nat) (T : Tab) : Prop where
  box : BoxAt w b 62 #[.slice (some ⟨g1, 0, none⟩) N N, .slice (some ⟨g2, 0, none⟩) N N, .slice (some ⟨g3, 0, none⟩) N N]
  tab : TabAt w L g1 g2 g3 N T
  ne : b ≠ g1 ∧ b ≠ g2 ∧ b ≠ g3
  lo : L ≤ b
theorem SpecAt.ext {w w' : World} {L b g1 g2 g3 N : Nat} {T : Tab} (h : SpecAt w L b g1 g2 g3 N T) (he : Ext w w') : SpecAt w' L b g1 g2 g3 N T := ⟨h.box.ext he, h.tab.ext he, h.ne, h.lo⟩
theorem SpecAt.setSc {w : World} {L b g1 g2 g3 N k : Nat} {T : Tab} {x y z : Int} (h : SpecAt w L b g1 g2 g3 N (T.put k (x, y, z))) (u : Int) : SpecAt (w.setCell ⟨g1, k, none⟩ (.int .i64 u)) L b g1 g2 g3 N (T.put k (u, y, z)) :=
  ⟨h.box.setOther (by have := h.ne; simp; omega) _, h.tab.setSc u, h.ne, h.lo⟩
theorem SpecAt.setSz {w : World} {L b g1 g2 g3 N k : Nat} {T : Tab} {x y z : Int} (h : SpecAt w L b g1 g2 g3 N (T.put k (x, y, z))) (u : Int) : SpecAt (w.setCell ⟨g2, k, none⟩ (.int .i64 u)) L b g1 g2 g3 N (T.put k (x, u, z)) :=
  ⟨h.box.setOther (by have := h.ne; simp; omega) _, h.tab.setSz u, h.ne, h.lo⟩
theorem SpecAt.setHt {w : World} {L b g1 g2 g3 N k : Nat} {T : Tab} {x y z : Int} (h : SpecAt w L b g1 g2 g3 N (T.put k (x, y, z))) (u : Int) : SpecAt (w.setCell ⟨g3, k, none⟩ (.int .i64 u)) L b g1 g2 g3 N (T.put k (x, y, u)) :=
  ⟨h.box.setOther (by have := h.ne; simp; omega) _, h.tab.setHt u, h.ne, h.lo⟩

set_option maxRecDepth 100000 in
set_option maxHeartbeats 4000000 in
theorem l12Play_c (n : Nat) (A : Option Addr) (m d : Nat) (cls : List (List Int)) (w : World) (h : Intss w A m cls) (hn : n ≤ 6) (hcl : ∀ c ∈ cls, ∀ x ∈ c, -12 ≤ x ∧ x ≤ 12 ∧ x ≠ 0) :
    Calls Try.prog 55 #[.agg #[.int .i64 n, .slice A m d]] w fun e w' => ∃ g1 g2 g3, e = .returned (.agg #[.slice (some ⟨g1, 0, none⟩) (pow3 n) (pow3 n), .slice (some ⟨g2, 0, none⟩) (pow3 n) (pow3 n), .slice (some ⟨g3, 0, none⟩) (pow3 n) (pow3 n)]) ∧
      TabAt w' w.heap.size g1 g2 g3 (pow3 n) (gAll n cls) ∧ Ext w w' := by
  have HCL := hide hcl
  clear hcl
  obtain ⟨N, hN⟩ : ∃ N : Nat, N = pow3 n := ⟨_, rfl⟩
  rw [← hN]
  have hN6 : N ≤ 729 := by have := pow3_mono hn; have h6 : pow3 6 = 729 := rfl; omega
  have hN0 : 0 < N := by rw [hN]; exact pow3_pos _
  have HP := hide (fun W => l12Pow_c n W (by omega))
  rw [← hN] at HP
  have HN := hide hN
  clear hN
  have hmk := fun W => make_eq (P := Try.prog) 32 3 Try.underlying32 _ 8 info_int rfl N (by omega) (by omega) W
  have hm1 : ((List.replicate N (0 : Int)).map (Value.int .i64)).toArray = madeCells #[.int .i64 0] N := by apply Array.toList_inj.1; rw [toList_madeCells_one]; simp
  have HM1 := hide hm1
  clear hm1
  obtain ⟨W1, hW1⟩ : ∃ W, W = w.alloc (.cells #[.int .i64 n, .slice A m d] 28) := ⟨_, rfl⟩
  have hs1 : W1.heap.size = w.heap.size + 1 := by rw [hW1]; simp
  have e1 : Ext w W1 := by rw [hW1]; exact (Ext.refl w).alloc _
  have b0 : W1.cell? ⟨w.heap.size, 0, none⟩ = some (.int .i64 n) := by rw [hW1]; exact (BoxAt.made w _ _).cell 0 _ rfl
  have b1 : W1.cell? ⟨w.heap.size, 1, none⟩ = some (.slice A m d) := by rw [hW1]; exact (BoxAt.made w _ _).cell 1 _ rfl
  have HW := hide hW1
  go_enter Try.func55, Try.ntmps55
  go_wp2_with fail
  rw [← hW1]
  clear hW1
  refine (HP.out _).mono ?_
  rintro e w3 ⟨rfl, rfl⟩
  go_wp2_with fail
  go_cut [4, 18, 20, 22] (fun sA sB sC sD wx => ∃ b g1 g2 g3, sA = .pointer (some ⟨b, 0, none⟩) ∧ sB = .slice (some ⟨g1, 0, none⟩) N N ∧ sC = .slice (some ⟨g2, 0, none⟩) N N ∧ sD = .slice (some ⟨g3, 0, none⟩) N N ∧
    SpecAt wx (w.heap.size + 2) b g1 g2 g3 N ⟨List.replicate N 0, List.replicate N 0, List.replicate N 0⟩ ∧ BoxAt wx (w.heap.size + 1) 62 #[.slice none 0 0, .slice none 0 0, .slice none 0 0] ∧ Ext W1 wx)
  case first =>
    go_region_held3 (fun w' => True) (trivial) (fail)
    all_goals
      go_wp2_with fail
      go_meet
      refine ⟨_, _, _, _, rfl, rfl, rfl, rfl, ⟨?_, ⟨?_, ?_, ?_, ⟨by simp, by simp, by simp⟩, by omega, by omega⟩, by omega, by omega⟩, ?_, by (repeat (first | with_reducible exact Ext.refl _ | with_reducible assumption | ((with_reducible refine Ext.setCell ?_ ?_ _); rotate_left; focus (first | omega | (simp <;> omega))) | with_reducible refine Ext.alloc ?_ _ | with_reducible refine Ext.drewN ?_ _ | with_reducible refine Ext.drew ?_ | with_reducible refine Ext.trans ?_ (by with_reducible assumption)))⟩
      · repeat (first | (with_reducible refine BoxAt.made_at ?_; (first | rfl | (simp [hs1]; done) | (simp [hs1] <;> omega))) | with_reducible refine BoxAt.drew_old ?_ | with_reducible refine BoxAt.alloc_old ?_)
      · simp only []; rw [HM1.out]; repeat (first | (with_reducible refine BoxAt.made_at ?_; (first | rfl | (simp [hs1]; done) | (simp [hs1] <;> omega))) | with_reducible refine BoxAt.drew_old ?_ | with_reducible refine BoxAt.alloc_old ?_)
      · simp only []; rw [HM1.out]; repeat (first | (with_reducible refine BoxAt.made_at ?_; (first | rfl | (simp [hs1]; done) | (simp [hs1] <;> omega))) | with_reducible refine BoxAt.drew_old ?_ | with_reducible refine BoxAt.alloc_old ?_)
      · simp only []; rw [HM1.out]; repeat (first | (with_reducible refine BoxAt.made_at ?_; (first | rfl | (simp [hs1]; done) | (simp [hs1] <;> omega))) | with_reducible refine BoxAt.drew_old ?_ | with_reducible refine BoxAt.alloc_old ?_)
      · repeat (first | (with_reducible refine BoxAt.made_at ?_; (first | rfl | (simp [hs1]; done) | (simp [hs1] <;> omega))) | with_reducible refine BoxAt.drew_old ?_ | with_reducible refine BoxAt.alloc_old ?_)
  case rest =>
  obtain ⟨b, g1, g2, g3, hsA, hsB, hsC, hsD, hG, hB2, hE⟩ := hcut
  subst hsA; subst hsB; subst hsC; subst hsD
  obtain ⟨w3, rfl⟩ : ∃ x, x = wc := ⟨_, rfl⟩
  clear hmk HM1 HP
  go_wp2_with fail
  refine wp_loopF 135 _ rfl rfl [1, 2, 4, 134] rfl (fun fr wr => Ext W1 wr ∧ BoxAt wr (w.heap.size + 1) 62 #[.slice none 0 0, .slice none 0 0, .slice none 0 0] ∧ ∃ k : Nat, k ≤ N ∧ (fr 5) = .int .i64 (((N - k : Nat) : Int) - 1) ∧ SpecAt wr (w.heap.size + 2) b g1 g2 g3 N (gTab n cls k)) (fun fr wr => (intOf (fr 5) + 1).toNat) ?_ ?_
  · (refine ⟨hE, hB2, 0, by omega, by go_num, ?_⟩; (simpa [gTab, HN.out] using hG))
  intro ks fr wr hkept hrel; (try dsimp only at hrel)
  change Code.wp _ _ _ ⟨#[fr 0, ks 1, ks 2, fr 3, ks 4, fr 5, fr 6, fr 7, fr 8, fr 9, fr 10, fr 11, fr 12, fr 13, fr 14, fr 15, fr 16, fr 17, fr 18, fr 19, fr 20, fr 21, fr 22, fr 23, fr 24, fr 25, fr 26, fr 27, fr 28, fr 29, fr 30, fr 31, fr 32, fr 33, fr 34, fr 35, fr 36, fr 37, fr 38, fr 39, fr 40, fr 41, fr 42, fr 43, fr 44, fr 45, fr 46, fr 47, fr 48, fr 49, fr 50, fr 51, fr 52, fr 53, fr 54, fr 55, fr 56, fr 57, fr 58, fr 59, fr 60, fr 61, fr 62, fr 63, fr 64, fr 65, fr 66, fr 67, fr 68, fr 69, fr 70, fr 71, fr 72, fr 73, fr 74, fr 75, fr 76, fr 77, fr 78, fr 79, fr 80, fr 81, fr 82, fr 83, fr 84, fr 85, fr 86, fr 87, fr 88, fr 89, fr 90, fr 91, fr 92, fr 93, fr 94, fr 95, fr 96, fr 97, fr 98, fr 99, fr 100, fr 101, fr 102, fr 103, fr 104, fr 105, fr 106, fr 107, fr 108, fr 109, fr 110, fr 111, fr 112, fr 113, fr 114, fr 115, fr 116, fr 117, fr 118, fr 119, fr 120, fr 121, fr 122, fr 123, fr 124, fr 125, fr 126, fr 127, fr 128, fr 129, fr 130, fr 131, fr 132, fr 133, ks 134], []⟩ wr
  simp only [KeptV, List.getD_cons_zero, List.getD_cons_succ] at hkept; obtain ⟨hk1, hk2, hk4, hk134, -⟩ := hkept
  generalize ks 1 = k1 at hk1 ⊢; subst hk1
  generalize ks 2 = k2 at hk2 ⊢; subst hk2
  generalize ks 4 = k4 at hk4 ⊢; subst hk4
  generalize ks 134 = k134 at hk134 ⊢; subst hk134
  generalize fr 5 = s5 at hrel ⊢
  clear hE hG hB2
  obtain ⟨hE, hB2, k, hk, hs1', hG⟩ := hrel
  subst hs1'
  have c0 := hE.cell b0
  have c1 := hE.cell b1
  have hne := hG.ne
  have hne2 := hG.tab.ne
  have hlo := hG.lo
  have hlo2 := hG.tab.lo
  by_cases hlt : k < N
  · obtain ⟨c, hc⟩ : ∃ c, N - k = c + 1 := ⟨N - k - 1, by omega⟩
    rw [hc]
    have hcv : (((c + 1 : Nat) : Int) - 1) = (c : Int) := by omega
    rw [hcv]
    have hck : pow3 n - 1 - k = c := by rw [← HN.out]; omega
    have hT := gTab_low n cls k c (by rw [← HN.out]; omega)
    have hTself := Tab.put_self hT
    have hgt : gTab n cls (k + 1) = (gTab n cls k).put c (gRow n cls (gTab n cls k) c) := by rw [gTab, hck]
    have HGT := hide hgt
    have HC1 := hide hc
    have hcN : c < N := by omega
    clear hck hc hcv hT hgt
    generalize gTab n cls k = T at *
    have hed := (Ext.refl wr).drew
    have hnk : Hid (N - (k + 1) = c) := hide (by have := HC1.out; omega)
    cases hfa : falseAny cls (codeLits n 1 c)
    · have hrow : gRow n cls T c = (gSt T c (opens n c)).2 := by simp [gRow, hfa]
      rw [hrow] at HGT
      have HF := hide hfa
      clear hfa hrow
      rw [← hTself] at hG
      clear hTself
      go_wp2_with fail
      go_region_held3 (fun w' => w'.cell? ⟨w.heap.size, 0, none⟩ = some (.int .i64 n) ∧ w'.cell? ⟨w.heap.size, 1, none⟩ = some (.slice A m d)) (simp [go_sem, *]) (first | (go_at_call 65; refine (l12Of_c n c _ hn (by omega)).mono ?_; rintro e w4 ⟨X1, y1, z1', rfl, ho1, hy1, he4⟩; have ew4 : Ext wr w4 := (by (repeat (first | with_reducible exact Ext.refl _ | with_reducible assumption | ((with_reducible refine Ext.setCell ?_ ?_ _); rotate_left; focus (first | omega | (simp <;> omega))) | with_reducible refine Ext.alloc ?_ _ | with_reducible refine Ext.drewN ?_ _ | with_reducible refine Ext.drew ?_ | with_reducible refine Ext.trans ?_ (by with_reducible assumption)))); have j0 := ew4.cell c0; have j1 := ew4.cell c1) | (go_at_call 64; refine (l12False_c n A m d cls X1 y1 z1' (codeLits n 1 c) _ (h.ext (by (repeat (first | with_reducible exact Ext.refl _ | with_reducible assumption | ((with_reducible refine Ext.setCell ?_ ?_ _); rotate_left; focus (first | omega | (simp <;> omega))) | with_reducible refine Ext.alloc ?_ _ | with_reducible refine Ext.drewN ?_ _ | with_reducible refine Ext.drew ?_ | with_reducible refine Ext.trans ?_ (by with_reducible assumption))))) ((ho1.ints (by omega)).ext (by (repeat (first | with_reducible exact Ext.refl _ | with_reducible assumption | ((with_reducible refine Ext.setCell ?_ ?_ _); rotate_left; focus (first | omega | (simp <;> omega))) | with_reducible refine Ext.alloc ?_ _ | with_reducible refine Ext.drewN ?_ _ | with_reducible refine Ext.drew ?_ | with_reducible refine Ext.trans ?_ (by with_reducible assumption))))) HCL.out).mono ?_; rw [HF.out]; rintro e w5 ⟨rfl, he5⟩; have ew5 : Ext wr w5 := (by (repeat (first | with_reducible exact Ext.refl _ | with_reducible assumption | ((with_reducible refine Ext.setCell ?_ ?_ _); rotate_left; focus (first | omega | (simp <;> omega))) | with_reducible refine Ext.alloc ?_ _ | with_reducible refine Ext.drewN ?_ _ | with_reducible refine Ext.drew ?_ | with_reducible refine Ext.trans ?_ (by with_reducible assumption)))); have j0 := ew5.cell c0; have j1 := ew5.cell c1))
      go_wp2_with fail
      obtain ⟨W2, hW2⟩ : ∃ W, W = w5 := ⟨_, rfl⟩
      have hG2 := hG.ext ew5
      have hE2 := hE.trans ew5
      have hB3 := hB2.ext ew5
      clear hG hE hB2
      refine wp_loopF 135 _ rfl rfl [1, 2, 4, 5, 26, 27, 28, 29, 30, 31, 32, 33, 34, 35, 36, 37, 38, 39, 134] rfl (fun fr wr => Ext W1 wr ∧ BoxAt wr (w.heap.size + 1) 62 #[.slice none 0 0, .slice none 0 0, .slice none 0 0] ∧ ∃ j : Nat, j ≤ n ∧ (fr 7) = .int .i64 ((j + 1 : Nat) : Int) ∧ ∃ fb x1 x2 x3, (fr 6) = .bool fb ∧ SpecAt wr (w.heap.size + 2) b g1 g2 g3 N (T.put c (x1, x2, x3)) ∧ Hid ((fb, (x1, x2, x3)) = gSt T c (opens j c))) (fun fr wr => n + 1 - (intOf (fr 7)).toNat) ?_ ?_
      · (exact ⟨hE2, hB3, 0, by omega, by go_num, true, 0, 0, 0, rfl, hG2, rfl⟩)
      intro ks fr wr hkept hrel; (try dsimp only at hrel)
      change Code.wp _ _ _ ⟨#[fr 0, ks 1, ks 2, fr 3, ks 4, ks 5, fr 6, fr 7, fr 8, fr 9, fr 10, fr 11, fr 12, fr 13, fr 14, fr 15, fr 16, fr 17, fr 18, fr 19, fr 20, fr 21, fr 22, fr 23, fr 24, fr 25, ks 26, ks 27, ks 28, ks 29, ks 30, ks 31, ks 32, ks 33, ks 34, ks 35, ks 36, ks 37, ks 38, ks 39, fr 40, fr 41, fr 42, fr 43, fr 44, fr 45, fr 46, fr 47, fr 48, fr 49, fr 50, fr 51, fr 52, fr 53, fr 54, fr 55, fr 56, fr 57, fr 58, fr 59, fr 60, fr 61, fr 62, fr 63, fr 64, fr 65, fr 66, fr 67, fr 68, fr 69, fr 70, fr 71, fr 72, fr 73, fr 74, fr 75, fr 76, fr 77, fr 78, fr 79, fr 80, fr 81, fr 82, fr 83, fr 84, fr 85, fr 86, fr 87, fr 88, fr 89, fr 90, fr 91, fr 92, fr 93, fr 94, fr 95, fr 96, fr 97, fr 98, fr 99, fr 100, fr 101, fr 102, fr 103, fr 104, fr 105, fr 106, fr 107, fr 108, fr 109, fr 110, fr 111, fr 112, fr 113, fr 114, fr 115, fr 116, fr 117, fr 118, fr 119, fr 120, fr 121, fr 122, fr 123, fr 124, fr 125, fr 126, fr 127, fr 128, fr 129, fr 130, fr 131, fr 132, fr 133, ks 134], []⟩ wr
      simp only [KeptV, List.getD_cons_zero, List.getD_cons_succ] at hkept; obtain ⟨hk1, hk2, hk4, hk5, hk26, hk27, hk28, hk29, hk30, hk31, hk32, hk33, hk34, hk35, hk36, hk37, hk38, hk39, hk134, -⟩ := hkept
      generalize ks 1 = k1 at hk1 ⊢; subst hk1
      generalize ks 2 = k2 at hk2 ⊢; subst hk2
      generalize ks 4 = k4 at hk4 ⊢; subst hk4
      generalize ks 5 = k5 at hk5 ⊢; subst hk5
      generalize ks 26 = k26 at hk26 ⊢; subst hk26
      generalize ks 27 = k27 at hk27 ⊢; subst hk27
      generalize ks 28 = k28 at hk28 ⊢; subst hk28
      generalize ks 29 = k29 at hk29 ⊢; subst hk29
      generalize ks 30 = k30 at hk30 ⊢; subst hk30
      generalize ks 31 = k31 at hk31 ⊢; subst hk31
      generalize ks 32 = k32 at hk32 ⊢; subst hk32
      generalize ks 33 = k33 at hk33 ⊢; subst hk33
      generalize ks 34 = k34 at hk34 ⊢; subst hk34
      generalize ks 35 = k35 at hk35 ⊢; subst hk35
      generalize ks 36 = k36 at hk36 ⊢; subst hk36
      generalize ks 37 = k37 at hk37 ⊢; subst hk37
      generalize ks 38 = k38 at hk38 ⊢; subst hk38
      generalize ks 39 = k39 at hk39 ⊢; subst hk39
      generalize ks 134 = k134 at hk134 ⊢; subst hk134
      generalize fr 6 = s6 at hrel ⊢
      generalize fr 7 = s7 at hrel ⊢
      clear hE2 hG2 hB3
      obtain ⟨hE, hB2, j, hj, hs2, fb, x1, x2, x3, hs3, hG, hst⟩ := hrel
      subst hs2; subst hs3
      have d0 := hE.cell b0
      by_cases hlt2 : j < n
      · have hop : openAt c (j + 1) = true ∨ openAt c (j + 1) = false := by cases openAt c (j + 1) <;> simp
        have HA := hide (fun W => l12After_c c j W (by omega) (by omega))
        rcases hop with hop | hop
        · have hcodes := open_codes (n := n) (by rw [← HN.out]; exact hcN) (v := j + 1) ⟨by omega, by omega⟩ hop
          rw [← HN.out] at hcodes
          have hstep : gSt T c (opens (j + 1) c) = (false, gLess fb (gOne T c (j + 1)) (x1, x2, x3)) := by rw [opens_succ_yes hop, gSt_snoc, ← hst.out]
          rw [hop] at HA
          clear hop
          have hp3 : pow3 j ≤ 729 := by have := pow3_mono (show j ≤ 6 by omega); have h6 : pow3 6 = 729 := rfl; omega
          have hp0 := pow3_pos j
          have hge1 : gNo c (j + 1) = c + pow3 j := rfl
          have hge2 : gYes c (j + 1) = c + 2 * pow3 j := rfl
          rw [hge1, hge2] at HA hcodes
          have hno : c + pow3 j < N := by omega
          have hyes : c + 2 * pow3 j < N := by omega
          have hcn : c ≠ c + pow3 j := by omega
          have hcy : c ≠ c + 2 * pow3 j := by omega
          have f1 := hG.tab.sz hno
          have f2 := hG.tab.sz hyes
          have f3 := hG.tab.ht hno
          have f4 := hG.tab.ht hyes
          have f5 := hG.tab.sc hno
          have f6 := hG.tab.sc hyes
          rw [put_no_sz hcn] at f1
          rw [put_no_sz hcy] at f2
          rw [put_no_ht hcn] at f3
          rw [put_no_ht hcy] at f4
          rw [put_no_sc hcn] at f5
          rw [put_no_sc hcy] at f6
          have q1 := hG.tab.sc hcN
          have q2 := hG.tab.sz hcN
          have q3 := hG.tab.ht hcN
          rw [put_at_sc hG.tab.full hcN] at q1
          rw [put_at_sz hG.tab.full hcN] at q2
          rw [put_at_ht hG.tab.full hcN] at q3
          unfold gOne at hstep
          rw [hge1, hge2] at hstep
          clear hge1 hge2 hcodes
          generalize T.sc.getD (c + pow3 j) 0 = s1 at *
          generalize T.sc.getD (c + 2 * pow3 j) 0 = s2 at *
          generalize T.sz.getD (c + pow3 j) 0 = s3 at *
          generalize T.sz.getD (c + 2 * pow3 j) 0 = s4 at *
          generalize T.ht.getD (c + pow3 j) 0 = s5 at *
          generalize T.ht.getD (c + 2 * pow3 j) 0 = s6 at *
          generalize pow3 j = p at *
          have HPt := hide (fun W => l12Points_c s1 s2 W)
          generalize hP : gPts s1 s2 = P1 at *
          clear hP
          have e0 := hG.box.cell 0 (.slice (some ⟨g1, 0, none⟩) N N) rfl
          have e1' := hG.box.cell 1 (.slice (some ⟨g2, 0, none⟩) N N) rfl
          have e2 := hG.box.cell 2 (.slice (some ⟨g3, 0, none⟩) N N) rfl
          have z1 := hG.tab.o1.frozen c
          have z2 := hG.tab.o2.frozen c
          have z3 := hG.tab.o3.frozen c
          have hl1 := hG.tab.o1.lt
          have hl2 := hG.tab.o2.lt
          have hl3 := hG.tab.o3.lt
          have ha1 : (0 : Int) ≤ (c : Int) + p := by omega
          have ha2 : (c : Int) + p < N := by omega
          have ha3 : ((c : Int) + p).toNat = c + p := by omega
          have ha4 : (0 : Int) ≤ (c : Int) + 2 * p := by omega
          have ha5 : (c : Int) + 2 * p < N := by omega
          have ha6 : ((c : Int) + 2 * p).toNat = c + 2 * p := by omega
          go_wp2_with fail
          refine (HA.out _).mono ?_
          rintro e w6 ⟨rfl, he6⟩
          (try rw [show ((c + p : Nat) : Int) = (c : Int) + p by omega])
          (try rw [show ((c + 2 * p : Nat) : Int) = (c : Int) + 2 * p by omega])
          have f1 := he6.cell f1; have f2 := he6.cell f2; have f3 := he6.cell f3; have f4 := he6.cell f4; have f5 := he6.cell f5; have f6 := he6.cell f6
          have e0 := he6.cell e0; have e1' := he6.cell e1'; have e2 := he6.cell e2
          have q1 := he6.cell q1; have q2 := he6.cell q2; have q3 := he6.cell q3
          have z1 := he6.frozen hl1 z1; have z2 := he6.frozen hl2 z2; have z3 := he6.frozen hl3 z3
          have hG6 := hG.ext he6
          have hE6 := hE.trans he6
          have hB6 := hB2.ext he6
          clear hG hE hB2 he6 HA
          have hl1 := hG6.tab.o1.lt
          have hl2 := hG6.tab.o2.lt
          have hl3 := hG6.tab.o3.lt
          go_wp2_with fail
          go_cut [11, 12, 13] (fun sA sB sC wx => sA = .int .i64 P1 ∧ sB = .int .i64 (wrap64 (s3 + s4)) ∧ sC = .int .i64 (wrap64 (1 + max s5 s6)) ∧ Ext w6 wx)
          case first =>
            go_quiet (first | (go_at_call 67; first | (refine quiet_left (HPt.out _)) | (refine quiet_left2 (HPt.out _))) | (go_at_call 100; first | (refine quiet_left (l1Most_c _ _ _)) | (refine quiet_left2 (l1Most_c _ _ _))))
            all_goals
              go_wp2_with fail
              go_meet
              exact ⟨rfl, (by first | rfl | simp [IntWalk.i64_left]), (by first | rfl | simp [IntWalk.i64_left]), by (repeat (first | with_reducible exact Ext.refl _ | with_reducible assumption | ((with_reducible refine Ext.setCell ?_ ?_ _); rotate_left; focus (first | omega | (simp <;> omega))) | with_reducible refine Ext.alloc ?_ _ | with_reducible refine Ext.drewN ?_ _ | with_reducible refine Ext.drew ?_ | with_reducible refine Ext.trans ?_ (by with_reducible assumption)))⟩
          case rest =>
          obtain ⟨hsA, hsB, hsC, h5⟩ := hcut
          subst hsA; subst hsB; subst hsC
          obtain ⟨w7, rfl⟩ : ∃ x, x = wc := ⟨_, rfl⟩
          have e0 := h5.cell e0; have e1' := h5.cell e1'; have e2 := h5.cell e2; have r1 := h5.cell q1; have r2 := h5.cell q2; have r3 := h5.cell q3; have y1 := h5.frozen hl1 z1; have y2 := h5.frozen hl2 z2; have y3 := h5.frozen hl3 z3
          generalize hS2 : wrap64 (s3 + s4) = P2 at *
          generalize hS3 : wrap64 (1 + max s5 s6) = P3 at *
          clear hS2 hS3
          have hGn := hG6.ext h5
          have hen := hE6.trans h5
          have hbn := hB6.ext h5
          clear hG6 hE6 hB6 q1 q2 q3 z1 z2 z3 f1 f2 f3 f4 f5 f6
          cases fb
          · skip
            by_cases hc1 : P1 < x1
            · skip
              by_cases hc2 : P2 < x2
              · skip
                by_cases hc3 : P3 < x3
                · skip
                  have hnew : Hid ((false, (P1, P2, P3)) = gSt T c (opens (j + 1) c)) := hide (by rw [hstep]; simp [gLess, hc1, hc2, hc3])
                  clear hstep
                  have hen' := hide hen
                  have hbn' := hide hbn
                  have hGn' := hide hGn
                  clear hen hbn hGn
                  go_wp2
                  have hen := hen'.out
                  have hbn := hbn'.out
                  have hGn := hGn'.out
                  have hGn := hGn.setSc P1
                  have hen := Ext.setCell hen (p := ⟨g1, c, none⟩) (by simp only []; omega) (.int .i64 P1)
                  have hbn := hbn.setOther (p := ⟨g1, c, none⟩) (by simp only []; omega) (.int .i64 P1)
                  have hGn := hGn.setSz P2
                  have hen := Ext.setCell hen (p := ⟨g2, c, none⟩) (by simp only []; omega) (.int .i64 P2)
                  have hbn := hbn.setOther (p := ⟨g2, c, none⟩) (by simp only []; omega) (.int .i64 P2)
                  have hGn := hGn.setHt P3
                  have hen := Ext.setCell hen (p := ⟨g3, c, none⟩) (by simp only []; omega) (.int .i64 P3)
                  have hbn := hbn.setOther (p := ⟨g3, c, none⟩) (by simp only []; omega) (.int .i64 P3)
                  first
                    | exact ⟨⟨(by (repeat (first | exact trivial | refine ⟨rfl, ?_⟩))), hen, hbn, j + 1, by omega, by go_num, false, _, _, _, rfl, hGn, hnew⟩, (by simp [intOf] <;> omega)⟩
                    | exact ⟨⟨(by (repeat (first | exact trivial | refine ⟨rfl, ?_⟩))), hen, hbn, j + 1, by omega, by go_num, _, _, _, hGn, hnew⟩, (by simp [intOf] <;> omega)⟩
                · skip
                  have hnew : Hid ((false, (P1, P2, x3)) = gSt T c (opens (j + 1) c)) := hide (by rw [hstep]; simp [gLess, hc1, hc2, hc3])
                  clear hstep
                  have hen' := hide hen
                  have hbn' := hide hbn
                  have hGn' := hide hGn
                  clear hen hbn hGn
                  go_wp2
                  have hen := hen'.out
                  have hbn := hbn'.out
                  have hGn := hGn'.out
                  have hGn := hGn.setSc P1
                  have hen := Ext.setCell hen (p := ⟨g1, c, none⟩) (by simp only []; omega) (.int .i64 P1)
                  have hbn := hbn.setOther (p := ⟨g1, c, none⟩) (by simp only []; omega) (.int .i64 P1)
                  have hGn := hGn.setSz P2
                  have hen := Ext.setCell hen (p := ⟨g2, c, none⟩) (by simp only []; omega) (.int .i64 P2)
                  have hbn := hbn.setOther (p := ⟨g2, c, none⟩) (by simp only []; omega) (.int .i64 P2)
                  first
                    | exact ⟨⟨(by (repeat (first | exact trivial | refine ⟨rfl, ?_⟩))), hen, hbn, j + 1, by omega, by go_num, false, _, _, _, rfl, hGn, hnew⟩, (by simp [intOf] <;> omega)⟩
                    | exact ⟨⟨(by (repeat (first | exact trivial | refine ⟨rfl, ?_⟩))), hen, hbn, j + 1, by omega, by go_num, _, _, _, hGn, hnew⟩, (by simp [intOf] <;> omega)⟩
              · skip
                by_cases hc3 : P3 < x3
                · skip
                  have hnew : Hid ((false, (P1, x2, P3)) = gSt T c (opens (j + 1) c)) := hide (by rw [hstep]; simp [gLess, hc1, hc2, hc3])
                  clear hstep
                  have hen' := hide hen
                  have hbn' := hide hbn
                  have hGn' := hide hGn
                  clear hen hbn hGn
                  go_wp2
                  have hen := hen'.out
                  have hbn := hbn'.out
                  have hGn := hGn'.out
                  have hGn := hGn.setSc P1
                  have hen := Ext.setCell hen (p := ⟨g1, c, none⟩) (by simp only []; omega) (.int .i64 P1)
                  have hbn := hbn.setOther (p := ⟨g1, c, none⟩) (by simp only []; omega) (.int .i64 P1)
                  have hGn := hGn.setHt P3
                  have hen := Ext.setCell hen (p := ⟨g3, c, none⟩) (by simp only []; omega) (.int .i64 P3)
                  have hbn := hbn.setOther (p := ⟨g3, c, none⟩) (by simp only []; omega) (.int .i64 P3)
                  first
                    | exact ⟨⟨(by (repeat (first | exact trivial | refine ⟨rfl, ?_⟩))), hen, hbn, j + 1, by omega, by go_num, false, _, _, _, rfl, hGn, hnew⟩, (by simp [intOf] <;> omega)⟩
                    | exact ⟨⟨(by (repeat (first | exact trivial | refine ⟨rfl, ?_⟩))), hen, hbn, j + 1, by omega, by go_num, _, _, _, hGn, hnew⟩, (by simp [intOf] <;> omega)⟩
                · skip
                  have hnew : Hid ((false, (P1, x2, x3)) = gSt T c (opens (j + 1) c)) := hide (by rw [hstep]; simp [gLess, hc1, hc2, hc3])
                  clear hstep
                  have hen' := hide hen
                  have hbn' := hide hbn
                  have hGn' := hide hGn
                  clear hen hbn hGn
                  go_wp2
                  have hen := hen'.out
                  have hbn := hbn'.out
                  have hGn := hGn'.out
                  have hGn := hGn.setSc P1
                  have hen := Ext.setCell hen (p := ⟨g1, c, none⟩) (by simp only []; omega) (.int .i64 P1)
                  have hbn := hbn.setOther (p := ⟨g1, c, none⟩) (by simp only []; omega) (.int .i64 P1)
                  first
                    | exact ⟨⟨(by (repeat (first | exact trivial | refine ⟨rfl, ?_⟩))), hen, hbn, j + 1, by omega, by go_num, false, _, _, _, rfl, hGn, hnew⟩, (by simp [intOf] <;> omega)⟩
                    | exact ⟨⟨(by (repeat (first | exact trivial | refine ⟨rfl, ?_⟩))), hen, hbn, j + 1, by omega, by go_num, _, _, _, hGn, hnew⟩, (by simp [intOf] <;> omega)⟩
            · skip
              by_cases hc2 : P2 < x2
              · skip
                by_cases hc3 : P3 < x3
                · skip
                  have hnew : Hid ((false, (x1, P2, P3)) = gSt T c (opens (j + 1) c)) := hide (by rw [hstep]; simp [gLess, hc1, hc2, hc3])
                  clear hstep
                  have hen' := hide hen
                  have hbn' := hide hbn
                  have hGn' := hide hGn
                  clear hen hbn hGn
                  go_wp2
                  have hen := hen'.out
                  have hbn := hbn'.out
                  have hGn := hGn'.out
                  have hGn := hGn.setSz P2
                  have hen := Ext.setCell hen (p := ⟨g2, c, none⟩) (by simp only []; omega) (.int .i64 P2)
                  have hbn := hbn.setOther (p := ⟨g2, c, none⟩) (by simp only []; omega) (.int .i64 P2)
                  have hGn := hGn.setHt P3
                  have hen := Ext.setCell hen (p := ⟨g3, c, none⟩) (by simp only []; omega) (.int .i64 P3)
                  have hbn := hbn.setOther (p := ⟨g3, c, none⟩) (by simp only []; omega) (.int .i64 P3)
                  first
                    | exact ⟨⟨(by (repeat (first | exact trivial | refine ⟨rfl, ?_⟩))), hen, hbn, j + 1, by omega, by go_num, false, _, _, _, rfl, hGn, hnew⟩, (by simp [intOf] <;> omega)⟩
                    | exact ⟨⟨(by (repeat (first | exact trivial | refine ⟨rfl, ?_⟩))), hen, hbn, j + 1, by omega, by go_num, _, _, _, hGn, hnew⟩, (by simp [intOf] <;> omega)⟩
                · skip
                  have hnew : Hid ((false, (x1, P2, x3)) = gSt T c (opens (j + 1) c)) := hide (by rw [hstep]; simp [gLess, hc1, hc2, hc3])
                  clear hstep
                  have hen' := hide hen
                  have hbn' := hide hbn
                  have hGn' := hide hGn
                  clear hen hbn hGn
                  go_wp2
                  have hen := hen'.out
                  have hbn := hbn'.out
                  have hGn := hGn'.out
                  have hGn := hGn.setSz P2
                  have hen := Ext.setCell hen (p := ⟨g2, c, none⟩) (by simp only []; omega) (.int .i64 P2)
                  have hbn := hbn.setOther (p := ⟨g2, c, none⟩) (by simp only []; omega) (.int .i64 P2)
                  first
                    | exact ⟨⟨(by (repeat (first | exact trivial | refine ⟨rfl, ?_⟩))), hen, hbn, j + 1, by omega, by go_num, false, _, _, _, rfl, hGn, hnew⟩, (by simp [intOf] <;> omega)⟩
                    | exact ⟨⟨(by (repeat (first | exact trivial | refine ⟨rfl, ?_⟩))), hen, hbn, j + 1, by omega, by go_num, _, _, _, hGn, hnew⟩, (by simp [intOf] <;> omega)⟩
              · skip
                by_cases hc3 : P3 < x3
                · skip
                  have hnew : Hid ((false, (x1, x2, P3)) = gSt T c (opens (j + 1) c)) := hide (by rw [hstep]; simp [gLess, hc1, hc2, hc3])
                  clear hstep
                  have hen' := hide hen
                  have hbn' := hide hbn
                  have hGn' := hide hGn
                  clear hen hbn hGn
                  go_wp2
                  have hen := hen'.out
                  have hbn := hbn'.out
                  have hGn := hGn'.out
                  have hGn := hGn.setHt P3
                  have hen := Ext.setCell hen (p := ⟨g3, c, none⟩) (by simp only []; omega) (.int .i64 P3)
                  have hbn := hbn.setOther (p := ⟨g3, c, none⟩) (by simp only []; omega) (.int .i64 P3)
                  first
                    | exact ⟨⟨(by (repeat (first | exact trivial | refine ⟨rfl, ?_⟩))), hen, hbn, j + 1, by omega, by go_num, false, _, _, _, rfl, hGn, hnew⟩, (by simp [intOf] <;> omega)⟩
                    | exact ⟨⟨(by (repeat (first | exact trivial | refine ⟨rfl, ?_⟩))), hen, hbn, j + 1, by omega, by go_num, _, _, _, hGn, hnew⟩, (by simp [intOf] <;> omega)⟩
                · skip
                  have hnew : Hid ((false, (x1, x2, x3)) = gSt T c (opens (j + 1) c)) := hide (by rw [hstep]; simp [gLess, hc1, hc2, hc3])
                  clear hstep
                  have hen' := hide hen
                  have hbn' := hide hbn
                  have hGn' := hide hGn
                  clear hen hbn hGn
                  go_wp2
                  have hen := hen'.out
                  have hbn := hbn'.out
                  have hGn := hGn'.out
                  first
                    | exact ⟨⟨(by (repeat (first | exact trivial | refine ⟨rfl, ?_⟩))), hen, hbn, j + 1, by omega, by go_num, false, _, _, _, rfl, hGn, hnew⟩, (by simp [intOf] <;> omega)⟩
                    | exact ⟨⟨(by (repeat (first | exact trivial | refine ⟨rfl, ?_⟩))), hen, hbn, j + 1, by omega, by go_num, _, _, _, hGn, hnew⟩, (by simp [intOf] <;> omega)⟩
          · skip
            have hnew : Hid ((false, (P1, P2, P3)) = gSt T c (opens (j + 1) c)) := hide (by rw [hstep]; simp [gLess])
            clear hstep
            have hen' := hide hen
            have hbn' := hide hbn
            have hGn' := hide hGn
            clear hen hbn hGn
            go_wp2
            have hen := hen'.out
            have hbn := hbn'.out
            have hGn := hGn'.out
            have hGn := hGn.setSc P1
            have hen := Ext.setCell hen (p := ⟨g1, c, none⟩) (by simp only []; omega) (.int .i64 P1)
            have hbn := hbn.setOther (p := ⟨g1, c, none⟩) (by simp only []; omega) (.int .i64 P1)
            have hGn := hGn.setSz P2
            have hen := Ext.setCell hen (p := ⟨g2, c, none⟩) (by simp only []; omega) (.int .i64 P2)
            have hbn := hbn.setOther (p := ⟨g2, c, none⟩) (by simp only []; omega) (.int .i64 P2)
            have hGn := hGn.setHt P3
            have hen := Ext.setCell hen (p := ⟨g3, c, none⟩) (by simp only []; omega) (.int .i64 P3)
            have hbn := hbn.setOther (p := ⟨g3, c, none⟩) (by simp only []; omega) (.int .i64 P3)
            first
              | exact ⟨⟨(by (repeat (first | exact trivial | refine ⟨rfl, ?_⟩))), hen, hbn, j + 1, by omega, by go_num, false, _, _, _, rfl, hGn, hnew⟩, (by simp [intOf] <;> omega)⟩
              | exact ⟨⟨(by (repeat (first | exact trivial | refine ⟨rfl, ?_⟩))), hen, hbn, j + 1, by omega, by go_num, _, _, _, hGn, hnew⟩, (by simp [intOf] <;> omega)⟩
        · have hstep : gSt T c (opens (j + 1) c) = gSt T c (opens j c) := by rw [opens_succ_no hop]
          have hst2 : Hid ((fb, (x1, x2, x3)) = gSt T c (opens (j + 1) c)) := hide (by rw [hstep]; exact hst.out)
          rw [hop] at HA
          clear hop hstep
          go_wp2_with fail
          refine (HA.out _).mono ?_
          rintro e w6 ⟨rfl, he6⟩
          have hG6 := hG.ext he6
          have hE6 := hE.trans he6
          have hB6 := hB2.ext he6
          go_wp2
          exact ⟨⟨(by (repeat (first | exact trivial | refine ⟨rfl, ?_⟩))), hE6, hB6, j + 1, by omega, by go_num, fb, x1, x2, x3, rfl, hG6, hst2⟩, (by simp [intOf] <;> omega)⟩
      · obtain rfl : j = n := by omega
        have hfin : Hid ((x1, x2, x3) = (gSt T c (opens j c)).2) := hide (by rw [← hst.out])
        rw [← hfin.out] at HGT
        have hnk' := hnk
        go_wp2
        exact ⟨⟨(by (repeat (first | exact trivial | refine ⟨rfl, ?_⟩))), hE, hB2, k + 1, by omega, by rw [hnk'.out] <;> go_num, by rw [HGT.out]; exact hG⟩, (by simp [intOf] <;> omega)⟩
    · have hrow : gRow n cls T c = (0, 1, 0) := by simp [gRow, hfa]
      rw [hrow] at HGT
      have HF := hide hfa
      clear hfa hrow
      rw [← hTself] at hG
      clear hTself
      have e1' := hG.box.cell 1 (.slice (some ⟨g2, 0, none⟩) N N) rfl
      have z2 := hG.tab.o2.frozen c
      have q2 := hG.tab.sz hcN
      have hl2 := hG.tab.o2.lt
      go_wp2_with fail
      go_region_held3 (fun w' => w'.cell? ⟨w.heap.size, 0, none⟩ = some (.int .i64 n) ∧ w'.cell? ⟨w.heap.size, 1, none⟩ = some (.slice A m d)) (simp [go_sem, *]) (first | (go_at_call 65; refine (l12Of_c n c _ hn (by omega)).mono ?_; rintro e w4 ⟨X1, y1, z1', rfl, ho1, hy1, he4⟩; have ew4 : Ext wr w4 := (by (repeat (first | with_reducible exact Ext.refl _ | with_reducible assumption | ((with_reducible refine Ext.setCell ?_ ?_ _); rotate_left; focus (first | omega | (simp <;> omega))) | with_reducible refine Ext.alloc ?_ _ | with_reducible refine Ext.drewN ?_ _ | with_reducible refine Ext.drew ?_ | with_reducible refine Ext.trans ?_ (by with_reducible assumption)))); have j0 := ew4.cell c0; have j1 := ew4.cell c1) | (go_at_call 64; refine (l12False_c n A m d cls X1 y1 z1' (codeLits n 1 c) _ (h.ext (by (repeat (first | with_reducible exact Ext.refl _ | with_reducible assumption | ((with_reducible refine Ext.setCell ?_ ?_ _); rotate_left; focus (first | omega | (simp <;> omega))) | with_reducible refine Ext.alloc ?_ _ | with_reducible refine Ext.drewN ?_ _ | with_reducible refine Ext.drew ?_ | with_reducible refine Ext.trans ?_ (by with_reducible assumption))))) ((ho1.ints (by omega)).ext (by (repeat (first | with_reducible exact Ext.refl _ | with_reducible assumption | ((with_reducible refine Ext.setCell ?_ ?_ _); rotate_left; focus (first | omega | (simp <;> omega))) | with_reducible refine Ext.alloc ?_ _ | with_reducible refine Ext.drewN ?_ _ | with_reducible refine Ext.drew ?_ | with_reducible refine Ext.trans ?_ (by with_reducible assumption))))) HCL.out).mono ?_; rw [HF.out]; rintro e w5 ⟨rfl, he5⟩; have ew5 : Ext wr w5 := (by (repeat (first | with_reducible exact Ext.refl _ | with_reducible assumption | ((with_reducible refine Ext.setCell ?_ ?_ _); rotate_left; focus (first | omega | (simp <;> omega))) | with_reducible refine Ext.alloc ?_ _ | with_reducible refine Ext.drewN ?_ _ | with_reducible refine Ext.drew ?_ | with_reducible refine Ext.trans ?_ (by with_reducible assumption)))); have j0 := ew5.cell c0; have j1 := ew5.cell c1))
      have e1' := ew5.cell e1'
      have q2 := ew5.cell q2
      have z2 := ew5.frozen hl2 z2
      have hGn := (hG.ext ew5).setSz 1
      have hen := Ext.setCell (hE.trans ew5) (p := ⟨g2, c, none⟩) (by simp only []; omega) (.int .i64 1)
      have hbn := (hB2.ext ew5).setOther (p := ⟨g2, c, none⟩) (by simp only []; omega) (.int .i64 1)
      go_wp2
      exact ⟨⟨(by (repeat (first | exact trivial | refine ⟨rfl, ?_⟩))), hen, hbn, k + 1, by omega, by rw [hnk.out] <;> go_num, by rw [HGT.out]; exact hGn⟩, (by simp [intOf] <;> omega)⟩
  · obtain rfl : k = N := by omega
    have hfin : gTab n cls k = gAll n cls := by rw [gAll, ← HN.out]
    rw [hfin] at hG
    have hz : ((k - k : Nat) : Int) - 1 = -1 := by omega
    rw [hz]
    clear hz hfin
    have e0 := hG.box.cell 0 (.slice (some ⟨g1, 0, none⟩) k k) rfl
    have e1' := hG.box.cell 1 (.slice (some ⟨g2, 0, none⟩) k k) rfl
    have e2 := hG.box.cell 2 (.slice (some ⟨g3, 0, none⟩) k k) rfl
    have r0 := hB2.cell 0 (.slice none 0 0) rfl
    have r1 := hB2.cell 1 (.slice none 0 0) rfl
    have r2 := hB2.cell 2 (.slice none 0 0) rfl
    have y0 := hB2.frozen 0
    have y1 := hB2.frozen 1
    have y2 := hB2.frozen 2
    have hbl := hB2.lt
    go_wp2
    refine bodyPost_ret (v := .agg #[.slice (some ⟨g1, 0, none⟩) k k, .slice (some ⟨g2, 0, none⟩) k k, .slice (some ⟨g3, 0, none⟩) k k]) (by simp only [results, Try.results55]; simp [go_sem, hbl, r0, r1, r2]) rfl ⟨g1, g2, g3, rfl, ?_, ?_⟩
    · have ht := ((hG.tab.setOther (p := ⟨w.heap.size + 1, 0, none⟩) (.slice (some ⟨g1, 0, none⟩) k k) (by simp only []; omega) (by simp only []; omega) (by simp only []; omega)).setOther (p := ⟨w.heap.size + 1, 1, none⟩) (.slice (some ⟨g2, 0, none⟩) k k) (by simp only []; omega) (by simp only []; omega) (by simp only []; omega)).setOther (p := ⟨w.heap.size + 1, 2, none⟩) (.slice (some ⟨g3, 0, none⟩) k k) (by simp only []; omega) (by simp only []; omega) (by simp only []; omega)
      exact ⟨ht.o1, ht.o2, ht.o3, ht.full, ht.ne, by omega⟩
    · exact Ext.setCell (Ext.setCell (Ext.setCell (e1.trans hE) (by simp) _) (by simp) _) (by simp) _
end Go.Proofs.Ytmpfhibncnamnaa
