/-
  The program's ShrinkingRounds; no condition.
-/
import Derived.Test.YtaigjmbhgpcalaaF32

namespace Go.Proofs.Ytaigjmbhgpcalaa
set_option linter.unusedSimpArgs false
set_option linter.unusedVariables false
open Go.RowKit
def lenOf : Value → Nat
  | .slice _ q _ => q
  | _ => 0
theorem cnR_le (R : Nat → Nat) (c q : Nat) : cnR R c q ≤ c := by
  have := List.length_filter_le (fun x => R x == q + 1) (List.range c)
  unfold cnR; simpa using this
theorem srR_len (v W : Int) (cls : List (List Int)) : (srR v W cls).length ≤ 729 := by
  unfold srR
  split
  · rename_i hn
    obtain ⟨u, rfl, hu⟩ := nar_nat hn
    rw [cntL_len]
    have h1 := stop_le (stop_spec (keepB (u : Int).toNat W) (allG (u : Int).toNat cls W))
    have h2 := allG_len (v := (u : Int).toNat) (by omega) cls W
    omega
  · simp
theorem ObI.sr {w : World} {lo : Nat} {A : Option Addr} {n c : Nat} {v W : Int} {cls : List (List Int)} (h : Own w lo 3 1 A n c ((srR v W cls).map (Value.int .i64))) : ObI 3 w lo w.heap.size A n c (srR v W cls) :=
  ObI.of h (by have h1 := h.len; have h2 := srR_len v W cls; rw [List.length_map] at h1; omega)
theorem spec_ShrinkingRounds_oI (v W : Int) (C : Option Addr) (nc dc : Nat) (cls : List (List Int)) (w : World) (h : Intss w C nc cls) :
    Calls Try.prog 19 #[.agg #[.int .i64 v, .slice C nc dc], .int .i64 W] w fun e w' =>
      ∃ A' n' c', e = .returned (.tuple #[.slice A' n' c', .bool (narOk v cls W)]) ∧ ObI 3 w' w.heap.size w'.heap.size A' n' c' (srR v W cls) ∧ Ext w w' := by
  refine (spec_ShrinkingRounds_o v W C nc dc cls w h).mono ?_
  rintro e w' ⟨A, n, c, he, ho, hE⟩
  exact ⟨A, n, c, he, ObI.sr ho, hE⟩
set_option maxRecDepth 100000 in
set_option maxHeartbeats 6400000 in
theorem impl_ShrinkingRounds_o (v W : Int) (C : Option Addr) (nc dc : Nat) (cls : List (List Int)) (w : World) (h : Intss w C nc cls) :
    Calls Try.prog 20 #[.agg #[.int .i64 v, .slice C nc dc], .int .i64 W] w fun e w' =>
      ∃ A' n' c', e = .returned (.tuple #[.slice A' n' c', .bool (narOk v cls W)]) ∧ Own w' w.heap.size 3 1 A' n' c' ((srR v W cls).map (Value.int .i64)) ∧ Ext w w' := by
  have HN := hide (fun Wd (E : Ext w Wd) => narrowOk_c v W C nc dc cls Wd (h.ext E))
  have E0 : Hid (Ext w (w.alloc (.cells #[.int .i64 v, .slice C nc dc] 28))) := hide ((Ext.refl w).alloc _)
  unfold srR
  cases hn : narOk v cls W
  · rw [hn] at HN; clear hn
    simp only [Bool.false_eq_true, if_false]
    go_enter Try.func20, Try.ntmps20
    go_wp2_with fail
    refine (HN.out _ E0.out).mono ?_
    rintro e1 w1 ⟨rfl, he1⟩
    have ew1 := hide (E0.out.trans he1)
    clear he1
    go_wp2_with fail
    go_ret2
    exact ⟨_, _, _, rfl, Own.nil _ _ _ _, ew1.out⟩
  · rw [hn] at HN
    obtain ⟨u, rfl, hu⟩ := nar_nat hn
    obtain ⟨-, -, hWb, hc⟩ := nar_facts hn
    have HSh := hide (fun Wd (E : Ext w Wd) => shrink_c u W C nc dc cls Wd (h.ext E) hc hWb hu)
    have hst := stop_spec (keepB u W) (allG u cls W)
    have HO := hide (outR_cnt (v := u) (K := keepB u W) (fun b hb => (allG_ok (cls := cls) (W := W) hu b hb).1) (allG_nodup u cls W) hst.2)
    have hNle := stop_le hst
    have hLl := allG_len hu cls W
    obtain ⟨R, hR⟩ : ∃ R, R = rc (keepB u W) (allG u cls W) (stopN (keepB u W) (allG u cls W)) := ⟨_, rfl⟩
    have HRle : Hid (∀ c, R c ≤ 729) := hide (fun c => by
      rw [hR]
      rcases code_cases (allG u cls W) c with ⟨a, ha, rfl⟩ | h2
      · rw [rc_code _ _ (fun b hb => (allG_ok (cls := cls) (W := W) hu b hb).1) _ ha]
        have := rd_le (keepB u W) (allG u cls W) (stopN (keepB u W) (allG u cls W)) a
        omega
      · rw [rc_none _ _ _ h2]; omega)
    rw [← hR] at HO HSh
    simp only [if_true, Int.toNat_natCast]
    rw [← HO.out]
    obtain ⟨P, hP⟩ : ∃ P, P = pow3 u := ⟨_, rfl⟩
    rw [← hP] at HSh ⊢
    have hPle : P ≤ 729 := by have := pow3_mono hu; have h6 : pow3 6 = 729 := rfl; omega
    clear hn hc hst hR hP hNle hLl HO
    go_enter Try.func20, Try.ntmps20
    go_wp2_with fail
    refine (HN.out _ E0.out).mono ?_
    rintro e1 w1 ⟨rfl, he1⟩
    have ew1 := hide (E0.out.trans he1)
    have bc0 := he1.cell (p := ⟨w.heap.size, 0, none⟩) (u := .int .i64 u) (by first | simp [go_sem] | simp [go_sem, *]); have bf0 := he1.frozen (p := ⟨w.heap.size, 0, none⟩) (by first | omega | (simp <;> omega)) (by first | simp [go_sem] | simp [go_sem, *]); have bc1 := he1.cell (p := ⟨w.heap.size, 1, none⟩) (u := .slice C nc dc) (by first | simp [go_sem] | simp [go_sem, *]); have bf1 := he1.frozen (p := ⟨w.heap.size, 1, none⟩) (by first | omega | (simp <;> omega)) (by first | simp [go_sem] | simp [go_sem, *])
    clear he1
    go_wp2_with fail
    refine (HSh.out _ ew1.out).mono ?_
    rintro e w4 ⟨bx, gR, A, n, c, gI, rfl, hbx, hrr, he4⟩
    have ew4 := hide (ew1.out.trans he4)
    have b5 := hbx.cell 5 (.slice (some ⟨gR, 0, none⟩) P P) rfl
    have HRR := hide hrr
    have es4 := ew4.out.size
    clear hbx hrr he4
    go_wp2_with fail
    refine wp_loopF 42 _ rfl rfl [18, 19, 41] rfl (fun fr wr => Ext w4 wr ∧ ∃ (j m d : Nat) (A2 : Option Addr), j ≤ P ∧ m ≤ 729 ∧ (fr 20) = .int .i64 j ∧ (fr 6) = .slice A2 m d ∧ Hid (m = mxR R j) ∧ Hid (Own wr w4.heap.size 3 1 A2 m d ((padR R j m).map (Value.int .i64)))) (fun fr wr => P - (intOf (fr 20)).toNat) ?_ ?_
    · (exact ⟨Ext.refl _, 0, 0, 0, _, by omega, by omega, rfl, rfl, hide rfl, hide (Own.nil _ _ _ _)⟩)
    intro ks fr wr hkept hrel; (try dsimp only at hrel)
    change Code.wp _ _ _ ⟨#[fr 0, fr 1, fr 2, fr 3, fr 4, fr 5, fr 6, fr 7, fr 8, fr 9, fr 10, fr 11, fr 12, fr 13, fr 14, fr 15, fr 16, fr 17, ks 18, ks 19, fr 20, fr 21, fr 22, fr 23, fr 24, fr 25, fr 26, fr 27, fr 28, fr 29, fr 30, fr 31, fr 32, fr 33, fr 34, fr 35, fr 36, fr 37, fr 38, fr 39, fr 40, ks 41], []⟩ wr
    simp only [KeptV, List.getD_cons_zero, List.getD_cons_succ] at hkept; obtain ⟨hk18, hk19, hk41, -⟩ := hkept
    generalize ks 18 = k18 at hk18 ⊢; subst hk18
    generalize ks 19 = k19 at hk19 ⊢; subst hk19
    generalize ks 41 = k41 at hk41 ⊢; subst hk41
    generalize fr 6 = s6 at hrel ⊢
    generalize fr 20 = s20 at hrel ⊢
    obtain ⟨he, j, m, d, A2, hj, hm9, hs1, hs2, hmx, hO⟩ := hrel
    subst hs1
    subst hs2
    have HE := hide he
    by_cases hlt : j < P
    · have g0 := he.cell (HRR.out.cell (rounds_get (f := fun c => (R c : Int)) hlt))
      have hRj := HRle.out j
      obtain ⟨t, ht⟩ : ∃ t, t = R j := ⟨_, rfl⟩
      rw [← ht] at g0 hRj
      have HT := hide ht
      clear ht he
      go_wp2_with fail
      refine wp_loopF 42 _ rfl rfl [8, 18, 19, 20, 21, 22, 23, 31, 32, 33, 34, 35, 36, 37, 38, 39, 40, 41] rfl (fun fr wr => Ext w4 wr ∧ ∃ (m2 d2 : Nat) (A3 : Option Addr), m ≤ m2 ∧ m2 ≤ max m t ∧ (fr 6) = .slice A3 m2 d2 ∧ Hid (Own wr w4.heap.size 3 1 A3 m2 d2 ((padR R j m2).map (Value.int .i64)))) (fun fr wr => t - lenOf (fr 6)) ?_ ?_
      · (exact ⟨HE.out, m, d, _, by omega, by omega, rfl, hO⟩)
      intro ks fr wr hkept hrel; (try dsimp only at hrel)
      change Code.wp _ _ _ ⟨#[fr 0, fr 1, fr 2, fr 3, fr 4, fr 5, fr 6, fr 7, ks 8, fr 9, fr 10, fr 11, fr 12, fr 13, fr 14, fr 15, fr 16, fr 17, ks 18, ks 19, ks 20, ks 21, ks 22, ks 23, fr 24, fr 25, fr 26, fr 27, fr 28, fr 29, fr 30, ks 31, ks 32, ks 33, ks 34, ks 35, ks 36, ks 37, ks 38, ks 39, ks 40, ks 41], []⟩ wr
      simp only [KeptV, List.getD_cons_zero, List.getD_cons_succ] at hkept; obtain ⟨hk8, hk18, hk19, hk20, hk21, hk22, hk23, hk31, hk32, hk33, hk34, hk35, hk36, hk37, hk38, hk39, hk40, hk41, -⟩ := hkept
      generalize ks 8 = k8 at hk8 ⊢; subst hk8
      generalize ks 18 = k18 at hk18 ⊢; subst hk18
      generalize ks 19 = k19 at hk19 ⊢; subst hk19
      generalize ks 20 = k20 at hk20 ⊢; subst hk20
      generalize ks 21 = k21 at hk21 ⊢; subst hk21
      generalize ks 22 = k22 at hk22 ⊢; subst hk22
      generalize ks 23 = k23 at hk23 ⊢; subst hk23
      generalize ks 31 = k31 at hk31 ⊢; subst hk31
      generalize ks 32 = k32 at hk32 ⊢; subst hk32
      generalize ks 33 = k33 at hk33 ⊢; subst hk33
      generalize ks 34 = k34 at hk34 ⊢; subst hk34
      generalize ks 35 = k35 at hk35 ⊢; subst hk35
      generalize ks 36 = k36 at hk36 ⊢; subst hk36
      generalize ks 37 = k37 at hk37 ⊢; subst hk37
      generalize ks 38 = k38 at hk38 ⊢; subst hk38
      generalize ks 39 = k39 at hk39 ⊢; subst hk39
      generalize ks 40 = k40 at hk40 ⊢; subst hk40
      generalize ks 41 = k41 at hk41 ⊢; subst hk41
      generalize fr 6 = s6 at hrel ⊢
      obtain ⟨he2, m2, d2, A3, hmm, hm2, hs2, hO2⟩ := hrel
      subst hs2
      have hmx2 : mxR R j ≤ m2 := by have := hmx.out; omega
      have HMX := hide hmx2
      have HE2 := hide he2
      by_cases hlt2 : m2 < t
      · have ho := hO2.out
        have hsz := he2.size
        clear hmx2 hO he2
        go_wp2_with (at_builtin; refine wpList_app rfl _ _ _ _ rfl Try.underlying35 _ 1 8 info_int rfl (by decide) rfl ho 1 [.int .i64 0] (by first | rfl | simp [go_sem]) rfl ?_ ?_ ?_ ?_ ?_; (intro u hu; simp at hu; first | (subst hu; rfl) | (rcases hu with rfl | rfl <;> rfl) | (rcases hu with rfl | rfl | rfl <;> rfl) | (rcases hu with rfl | rfl | rfl | rfl <;> rfl) | (rcases hu with rfl | rfl | rfl | rfl | rfl <;> rfl) | (rcases hu with rfl | rfl | rfl | rfl | rfl | rfl <;> rfl)); omega; omega; (first | omega | (simp; omega)); intro A' c' w' ho' hg' hb')
        have hE3 := hide (HE2.out.trans_own (Nat.le_refl _) ho hg')
        have HO3 : Hid (Own w' w4.heap.size 3 1 A' (m2 + 1) c' ((padR R j (m2 + 1)).map (Value.int .i64))) := hide (by rw [padR_succ HMX.out, List.map_append]; exact ho')
        clear ho ho' hg' hb'
        exact ⟨⟨(by (repeat (first | exact trivial | refine ⟨rfl, ?_⟩))), hE3.out, m2 + 1, c', A', by omega, by omega, rfl, HO3⟩, (show t - (m2 + 1) < t - m2 from by omega)⟩
      · have hmn : Hid (m2 = mxR R (j + 1)) := hide (by have h1 := hmx.out; have h2 := HT.out; simp only [mxR]; omega)
        cases t with
        | zero =>
          have HO3 : Hid (Own wr w4.heap.size 3 1 A3 m2 d2 ((padR R (j + 1) m2).map (Value.int .i64))) := hide (by rw [padR_none HT.out.symm]; exact hO2.out)
          clear hmx2 hO he2 hO2
          go_wp2_with fail
          exact ⟨⟨(by (repeat (first | exact trivial | refine ⟨rfl, ?_⟩))), HE2.out, j + 1, m2, d2, A3, by omega, by omega, by go_num, rfl, hmn, HO3⟩, (by simp [intOf] <;> omega)⟩
        | succ q =>
          have hqm : q < m2 := by omega
          obtain ⟨g3, rfl, -, -⟩ := hO2.out.form (by omega)
          have hlen := hO2.out.len
          have g5 := hO2.out.cell (get_map_int (padR_get R j hqm))
          have g6 := hO2.out.frozen q
          have hcn := cnR_le R j q
          have HPa := hide (padR_at (R := R) HT.out.symm hqm)
          obtain ⟨cn, hcne⟩ : ∃ cn, cn = cnR R j q := ⟨_, rfl⟩
          rw [← hcne] at g5 hcn HPa
          have hwr : IntKind.i64.wrap (((q + 1 : Nat) : Int) - 1) = (q : Int) := by rw [show (((q + 1 : Nat) : Int) - 1) = (q : Int) by omega]; exact IntWalk.i64_in _ (by omega)
          have hwr2 : IntKind.i64.wrap ((q : Int) + 1 - 1) = (q : Int) := by rw [show ((q : Int) + 1 - 1) = (q : Int) by omega]; exact IntWalk.i64_in _ (by omega)
          have HO3 : Hid (Own (wr.setCell ⟨g3, q, none⟩ (.int .i64 ((cn : Int) + 1))) w4.heap.size 3 1 (some ⟨g3, 0, none⟩) m2 d2 ((padR R (j + 1) m2).map (Value.int .i64))) := hide (by
            rw [HPa.out, ← set_map_int]; exact hO2.out.store q _)
          have hE3 : Hid (Ext w4 (wr.setCell ⟨g3, q, none⟩ (.int .i64 ((cn : Int) + 1)))) := hide (HE2.out.setCell (p := ⟨g3, q, none⟩) (by have := (hO2.out.lt g3 rfl).1; simp; omega) _)
          clear hmx2 hO he2 hO2 hcne hlen
          go_wp2_with fail
          exact ⟨⟨(by (repeat (first | exact trivial | refine ⟨rfl, ?_⟩))), hE3.out, j + 1, m2, d2, _, by omega, by omega, by go_num, rfl, hmn, HO3⟩, (by simp [intOf] <;> omega)⟩
    · obtain rfl : j = P := by omega
      have HO2 : Hid (Own wr w.heap.size 3 1 A2 m d ((outR R j).map (Value.int .i64))) := hide (by
        have h5 := hO.out.lower (base' := w.heap.size) es4
        rw [hmx.out, padR_out] at h5; rw [hmx.out]; exact h5)
      clear hO hmx he
      go_wp2_with fail
      go_ret2
      exact ⟨_, _, _, rfl, HO2.out, ew4.out.trans HE.out⟩
theorem impl_ShrinkingRounds_oI (v W : Int) (C : Option Addr) (nc dc : Nat) (cls : List (List Int)) (w : World) (h : Intss w C nc cls) :
    Calls Try.prog 20 #[.agg #[.int .i64 v, .slice C nc dc], .int .i64 W] w fun e w' =>
      ∃ A' n' c', e = .returned (.tuple #[.slice A' n' c', .bool (narOk v cls W)]) ∧ ObI 3 w' w.heap.size w'.heap.size A' n' c' (srR v W cls) ∧ Ext w w' := by
  refine (impl_ShrinkingRounds_o v W C nc dc cls w h).mono ?_
  rintro e w' ⟨A, n, c, he, ho, hE⟩
  exact ⟨A, n, c, he, ObI.sr ho, hE⟩
end Go.Proofs.Ytaigjmbhgpcalaa
