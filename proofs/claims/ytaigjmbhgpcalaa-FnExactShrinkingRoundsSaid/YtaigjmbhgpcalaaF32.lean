/-
  The program's RoundTaken and ShrinkingRounds; no condition.
-/
import Derived.Test.YtaigjmbhgpcalaaF30
import Derived.Test.YtaigjmbhgpcalaaF31

namespace Go.Proofs.Ytaigjmbhgpcalaa
set_option linter.unusedSimpArgs false
set_option linter.unusedVariables false
open Go.RowKit
theorem rounds_get {P : Nat} {f : Nat → Int} {c : Nat} (h : c < P) : (((List.range P).map f).map (Value.int .i64))[c]? = some (.int .i64 (f c)) := by
  rw [List.getElem?_map, List.getElem?_map, List.getElem?_range h]; rfl
theorem stop_le {K : List (List Int) → List Int → Bool} {L : List (List Int)} {r : Nat} (h : IsStop K L r) : r ≤ L.length := by have := left_sum K L r h.2; omega
theorem least_of {p : Nat → Prop} (n : Nat) : p n → ∃ r, p r ∧ ∀ q < r, ¬ p q := by
  induction n using Nat.strongRecOn with
  | ind n ih =>
    intro h
    by_cases hx : ∃ m, m < n ∧ p m
    · obtain ⟨m, hm, hp⟩ := hx
      exact ih m hm hp
    · exact ⟨n, h, fun q hq hp => hx ⟨q, hq, hp⟩⟩
theorem exists_stop (K : List (List Int) → List Int → Bool) (L : List (List Int)) : ∃ r, IsStop K L r := by
  by_cases h : ∃ r, cntS K L r = 0
  · obtain ⟨n, hn⟩ := h
    obtain ⟨r, h1, h2⟩ := least_of (p := fun r => cntS K L r = 0) n hn
    exact ⟨r, h1, fun q hq => Nat.pos_of_ne_zero (h2 q hq)⟩
  · have h1 := left_sum K L (L.length + 1) (fun q _ => by
      have : cntS K L q ≠ 0 := fun e => h ⟨q, e⟩
      omega)
    omega
theorem allG_nodup (v : Nat) (cls : List (List Int)) (W : Int) : (allG v cls W).Nodup := (sortG_perm _).nodup_iff.2 (allP_nodup v cls W)
theorem stop_spec (K : List (List Int) → List Int → Bool) (L : List (List Int)) : IsStop K L (stopN K L) := Classical.epsilon_spec (exists_stop K L)
set_option maxRecDepth 100000 in
set_option maxHeartbeats 6400000 in
theorem impl_RoundTaken_c (v W : Int) (C : Option Addr) (nc dc : Nat) (cls : List (List Int)) (B : Option Addr) (m q : Nat) (a : List Int) (w : World) (h : Intss w C nc cls) (k : Ints w B m a) :
    Calls Try.prog 17 #[.agg #[.int .i64 v, .slice C nc dc], .int .i64 W, .slice B m q] w fun e w' => e = .returned (.tuple #[.int .i64 (rtR v W cls a), .bool (rtOk v W cls a)]) ∧ Ext w w' := by
  have HN := hide (fun Wd (E : Ext w Wd) => narrowOk_c v W C nc dc cls Wd (h.ext E))
  have HG := hide (fun Wd (E : Ext w Wd) => IsAssignment_c v B m q a Wd (k.ext E))
  unfold rtR rtOk
  have E0 : Hid (Ext w (w.alloc (.cells #[.int .i64 v, .slice C nc dc] 28))) := hide ((Ext.refl w).alloc _)
  cases hn : narOk v cls W
  · rw [hn] at HN; clear hn
    simp only [Bool.false_and, Bool.false_eq_true, if_false]
    go_enter Try.func17, Try.ntmps17
    go_wp2_with fail
    refine (HN.out _ E0.out).mono ?_
    rintro e1 w1 ⟨rfl, he1⟩
    go_wp2_with fail
    go_ret2
    exact ⟨rfl, E0.out.trans he1⟩
  rw [hn] at HN
  obtain ⟨u, rfl, hu⟩ := nar_nat hn
  obtain ⟨-, -, hWb, hc⟩ := nar_facts hn
  cases hg : clauseOk u a
  · rw [hg] at HG; clear hg hn hc
    simp only [Bool.false_and, Bool.and_false, Bool.false_eq_true, if_false]
    go_enter Try.func17, Try.ntmps17
    go_wp2_with fail
    refine (HN.out _ E0.out).mono ?_
    rintro e1 w1 ⟨rfl, he1⟩
    have ew1 := hide (E0.out.trans he1)
    have bc0 := he1.cell (p := ⟨w.heap.size, 0, none⟩) (u := .int .i64 u) (by first | simp [go_sem] | simp [go_sem, *]); have bf0 := he1.frozen (p := ⟨w.heap.size, 0, none⟩) (by first | omega | (simp <;> omega)) (by first | simp [go_sem] | simp [go_sem, *]); have bc1 := he1.cell (p := ⟨w.heap.size, 1, none⟩) (u := .slice C nc dc) (by first | simp [go_sem] | simp [go_sem, *]); have bf1 := he1.frozen (p := ⟨w.heap.size, 1, none⟩) (by first | omega | (simp <;> omega)) (by first | simp [go_sem] | simp [go_sem, *])
    clear he1
    go_wp2_with fail
    refine (HG.out _ ew1.out).mono ?_
    rintro e2 w2 ⟨rfl, he2⟩
    go_wp2_with fail
    go_ret2
    exact ⟨rfl, ew1.out.trans he2⟩
  rw [hg] at HG
  have HA := hide (fun Wd (E : Ext w Wd) => allowed_c u W C nc dc cls B m q a Wd (h.ext E) (k.ext E) hc hWb)
  cases hal : allowB cls W a
  · rw [hal] at HA; clear hg hn hc hal
    simp only [Bool.and_false, Bool.false_eq_true, if_false]
    go_enter Try.func17, Try.ntmps17
    go_wp2_with fail
    refine (HN.out _ E0.out).mono ?_
    rintro e1 w1 ⟨rfl, he1⟩
    have ew1 := hide (E0.out.trans he1)
    have bc2 := he1.cell (p := ⟨w.heap.size, 0, none⟩) (u := .int .i64 u) (by first | simp [go_sem] | simp [go_sem, *]); have bf2 := he1.frozen (p := ⟨w.heap.size, 0, none⟩) (by first | omega | (simp <;> omega)) (by first | simp [go_sem] | simp [go_sem, *]); have bc3 := he1.cell (p := ⟨w.heap.size, 1, none⟩) (u := .slice C nc dc) (by first | simp [go_sem] | simp [go_sem, *]); have bf3 := he1.frozen (p := ⟨w.heap.size, 1, none⟩) (by first | omega | (simp <;> omega)) (by first | simp [go_sem] | simp [go_sem, *])
    clear he1
    go_wp2_with fail
    refine (HG.out _ ew1.out).mono ?_
    rintro e2 w2 ⟨rfl, he2⟩
    have ew2 := hide (ew1.out.trans he2)
    have y0 := he2.cell bc2
    have y1 := he2.cell bc3
    go_wp2_with fail
    refine (HA.out _ ew2.out).mono ?_
    rintro e3 w3 ⟨rfl, he3⟩
    go_wp2_with fail
    go_ret2
    exact ⟨rfl, ew2.out.trans he3⟩
  rw [hal] at HA
  have hmem := allG_in hg hal
  have HSh := hide (fun Wd (E : Ext w Wd) => shrink_c u W C nc dc cls Wd (h.ext E) hc hWb hu)
  obtain ⟨h6, hlen⟩ := ok_6 hg hu
  have HCo := hide (fun (Wd : World) (E : Ext w Wd) => codeOf_c B m q a Wd (k.ext E) (by have := k.len; omega) h6)
  have hcd := (asg_code hg).2
  have hrc := rc_code (keepB u W) (allG u cls W) (fun b hb => (allG_ok (cls := cls) (W := W) hu b hb).1) (stopN (keepB u W) (allG u cls W)) hmem
  obtain ⟨t, ht⟩ : ∃ t, t = rtV u cls W a := ⟨_, rfl⟩
  simp only [Bool.and_true, if_true, Int.toNat_natCast]
  rw [← ht]
  obtain ⟨cd, hcde⟩ : ∃ cd, cd = codeOf a := ⟨_, rfl⟩
  rw [← hcde] at HCo hcd hrc
  have HT : Hid (t = (rc (keepB u W) (allG u cls W) (stopN (keepB u W) (allG u cls W)) cd : Int)) := hide (by rw [hrc, ht]; rfl)
  obtain ⟨P, hP⟩ : ∃ P, P = pow3 u := ⟨_, rfl⟩
  rw [← hP] at HSh hcd
  have hPle : P ≤ 729 := by have := pow3_mono hu; have h6 : pow3 6 = 729 := rfl; omega
  have hcd0 : (0 : Int) ≤ (cd : Int) := by omega
  have hcd1 : (cd : Int) < (P : Int) := by omega
  clear hg hn hc hal hmem ht hrc hcde h6 hP
  go_enter Try.func17, Try.ntmps17
  go_wp2_with fail
  refine (HN.out _ E0.out).mono ?_
  rintro e1 w1 ⟨rfl, he1⟩
  have ew1 := hide (E0.out.trans he1)
  have bc4 := he1.cell (p := ⟨w.heap.size, 0, none⟩) (u := .int .i64 u) (by first | simp [go_sem] | simp [go_sem, *]); have bf4 := he1.frozen (p := ⟨w.heap.size, 0, none⟩) (by first | omega | (simp <;> omega)) (by first | simp [go_sem] | simp [go_sem, *]); have bc5 := he1.cell (p := ⟨w.heap.size, 1, none⟩) (u := .slice C nc dc) (by first | simp [go_sem] | simp [go_sem, *]); have bf5 := he1.frozen (p := ⟨w.heap.size, 1, none⟩) (by first | omega | (simp <;> omega)) (by first | simp [go_sem] | simp [go_sem, *])
  clear he1
  go_wp2_with fail
  refine (HG.out _ ew1.out).mono ?_
  rintro e2 w2 ⟨rfl, he2⟩
  have ew2 := hide (ew1.out.trans he2)
  have y0 := he2.cell bc4
  have y1 := he2.cell bc5
  clear he2
  go_wp2_with fail
  refine (HA.out _ ew2.out).mono ?_
  rintro e3 w3 ⟨rfl, he3⟩
  have ew3 := hide (ew2.out.trans he3)
  have z0 := he3.cell y0
  have z1 := he3.cell y1
  clear he3
  go_wp2_with fail
  have e0 := (Ext.refl w3).drew
  have d0 := e0.cell z0
  have d1 := e0.cell z1
  refine wp_region_held_drew (S := (fun w' => w'.cell? ⟨w.heap.size, 0, none⟩ = some (.int .i64 u) ∧ w'.cell? ⟨w.heap.size, 1, none⟩ = some (.slice C nc dc))) (by kernel_rfl) ?_ (fun hHeld => ?_)
  · ((try dsimp only); (first | exact ⟨d0, d1⟩ | exact ⟨E34.out.cell z0, E34.out.cell z1⟩ | exact ⟨E35.out.cell z0, E35.out.cell z1⟩))
  refine heldTake 0 (v := ?_) rfl (by kernel_rfl) (by kernel_rfl) (by kernel_rfl) (fun _ _ _ h => h) (Or.inl ⟨by rfl, ?_⟩) (by assumption) ?_
  rotate_left 1
  focus (intro wS hSw; (try dsimp only at hSw); go_simp; (try with_reducible rfl))
  (try simp only [Act.put, List.setIfInBounds_toArray, List.set_cons_zero, List.set_cons_succ])
  refine heldTake 1 (v := ?_) rfl (by kernel_rfl) (by kernel_rfl) (by kernel_rfl) (fun _ _ _ h => h) (Or.inl ⟨by rfl, ?_⟩) (by assumption) ?_
  rotate_left 1
  focus (intro wS hSw; (try dsimp only at hSw); go_simp; (try with_reducible rfl))
  (try simp only [Act.put, List.setIfInBounds_toArray, List.set_cons_zero, List.set_cons_succ])
  refine heldTake 6 (v := ?_) rfl (by kernel_rfl) (by kernel_rfl) (by kernel_rfl) (fun _ _ _ h => h) (Or.inl ⟨by rfl, ?_⟩) (by assumption) ?_
  rotate_left 1
  focus (intro wS hSw; (try dsimp only at hSw); go_simp; (try with_reducible rfl))
  (try simp only [Act.put, List.setIfInBounds_toArray, List.set_cons_zero, List.set_cons_succ])
  refine wpAnyH_ready (rs := [2]) (by kernel_rfl) (by simp) ?_
  refine heldStep 2 rfl (fun K hK => ?_) AllReadyH.nil
  rw [if_pos (by kernel_rfl)]
  (go_wp2_with (first | (go_at_call 36; (first | (with_reducible refine (HSh.out _ (Ext.drew ew3.out)).mono ?_) | (with_reducible refine (HSh.out _ (ew3.out.trans E35.out)).mono ?_)); rintro e w4 ⟨bx, gR, A, n, c, gI, rfl, hbx, hrr, he4⟩; (first | (have E34 : Hid (Ext w3 w4) := hide (e0.trans he4)) | (have E34 : Hid (Ext w3 w4) := hide (E35.out.trans he4))); have b5 := hbx.cell 5 (.slice (some ⟨gR, 0, none⟩) P P) rfl; have r0 := hrr.cell (rounds_get hcd); rw [← HT.out] at r0; clear hbx hrr) | (go_at_call 37; (first | (with_reducible refine (HCo.out _ (Ext.drew ew3.out)).mono ?_) | (with_reducible refine (HCo.out _ (ew3.out.trans E34.out)).mono ?_)); rintro e w5 ⟨rfl, he5⟩; (first | (have E35 : Hid (Ext w3 w5) := hide (e0.trans he5)) | (have E35 : Hid (Ext w3 w5) := hide (E34.out.trans he5); have b5' := he5.cell b5; have r0' := he5.cell r0)))))
  refine hK.out _ _ ?_ (fun hHeld => ?_)
  · ((try dsimp only); (first | exact ⟨d0, d1⟩ | exact ⟨E34.out.cell z0, E34.out.cell z1⟩ | exact ⟨E35.out.cell z0, E35.out.cell z1⟩))
  clear hK K
  (try simp only [Act.put, List.setIfInBounds_toArray, List.set_cons_zero, List.set_cons_succ])
  refine heldTake 3 (v := ?_) rfl (by kernel_rfl) (by kernel_rfl) (by kernel_rfl) (fun _ _ _ h => h) (Or.inl ⟨by rfl, ?_⟩) (by assumption) ?_
  rotate_left 1
  focus (intro wS hSw; (try dsimp only at hSw); go_simp; (try with_reducible rfl))
  (try simp only [Act.put, List.setIfInBounds_toArray, List.set_cons_zero, List.set_cons_succ])
  refine heldTake 4 (v := ?_) rfl (by kernel_rfl) (by kernel_rfl) (by kernel_rfl) (fun _ _ _ h => h) (Or.inl ⟨by rfl, ?_⟩) (by assumption) ?_
  rotate_left 1
  focus (intro wS hSw; (try dsimp only at hSw); go_simp; (try with_reducible rfl))
  (try simp only [Act.put, List.setIfInBounds_toArray, List.set_cons_zero, List.set_cons_succ])
  refine wpAnyH_ready (rs := [5, 7]) (by kernel_rfl) (by simp) ?_
  refine (heldStep 5 rfl (fun K hK => ?_) (heldStep 7 rfl (fun K hK => ?_) AllReadyH.nil))
  · skip
    rw [if_pos (by kernel_rfl)]
    go_simp
    refine hK.out _ _ ?_ (fun hHeld => ?_)
    · ((try dsimp only); (first | exact ⟨d0, d1⟩ | exact ⟨E34.out.cell z0, E34.out.cell z1⟩ | exact ⟨E35.out.cell z0, E35.out.cell z1⟩))
    clear hK K
    (try simp only [Act.put, List.setIfInBounds_toArray, List.set_cons_zero, List.set_cons_succ])
    refine wpAnyH_ready (rs := [7]) (by kernel_rfl) (by simp) ?_
    refine heldStep 7 rfl (fun K hK => ?_) AllReadyH.nil
    rw [if_pos (by kernel_rfl)]
    (go_wp2_with (first | (go_at_call 36; (first | (with_reducible refine (HSh.out _ (Ext.drew ew3.out)).mono ?_) | (with_reducible refine (HSh.out _ (ew3.out.trans E35.out)).mono ?_)); rintro e w4 ⟨bx, gR, A, n, c, gI, rfl, hbx, hrr, he4⟩; (first | (have E34 : Hid (Ext w3 w4) := hide (e0.trans he4)) | (have E34 : Hid (Ext w3 w4) := hide (E35.out.trans he4))); have b5 := hbx.cell 5 (.slice (some ⟨gR, 0, none⟩) P P) rfl; have r0 := hrr.cell (rounds_get hcd); rw [← HT.out] at r0; clear hbx hrr) | (go_at_call 37; (first | (with_reducible refine (HCo.out _ (Ext.drew ew3.out)).mono ?_) | (with_reducible refine (HCo.out _ (ew3.out.trans E34.out)).mono ?_)); rintro e w5 ⟨rfl, he5⟩; (first | (have E35 : Hid (Ext w3 w5) := hide (e0.trans he5)) | (have E35 : Hid (Ext w3 w5) := hide (E34.out.trans he5); have b5' := he5.cell b5; have r0' := he5.cell r0)))))
    refine hK.out _ _ ?_ (fun hHeld => ?_)
    · ((try dsimp only); (first | exact ⟨d0, d1⟩ | exact ⟨E34.out.cell z0, E34.out.cell z1⟩ | exact ⟨E35.out.cell z0, E35.out.cell z1⟩))
    clear hK K
    (try simp only [Act.put, List.setIfInBounds_toArray, List.set_cons_zero, List.set_cons_succ])
    refine heldTake 8 (v := ?_) rfl (by kernel_rfl) (by kernel_rfl) (by kernel_rfl) (fun _ _ _ h => h) (Or.inl ⟨by rfl, ?_⟩) (by assumption) ?_
    rotate_left 1
    focus (intro wS hSw; (try dsimp only at hSw); go_simp; (try with_reducible rfl))
    (try simp only [Act.put, List.setIfInBounds_toArray, List.set_cons_zero, List.set_cons_succ])
    refine wpAnyH_ready (rs := [9]) (by kernel_rfl) (by simp) ?_
    refine heldStep 9 rfl (fun K hK => ?_) AllReadyH.nil
    rw [if_pos (by kernel_rfl)]
    go_simp
    refine hK.out _ _ ?_ (fun hHeld => ?_)
    · ((try dsimp only); (first | exact ⟨d0, d1⟩ | exact ⟨E34.out.cell z0, E34.out.cell z1⟩ | exact ⟨E35.out.cell z0, E35.out.cell z1⟩))
    clear hK K
    (try simp only [Act.put, List.setIfInBounds_toArray, List.set_cons_zero, List.set_cons_succ])
    refine heldTake 10 (v := ?_) rfl (by kernel_rfl) (by kernel_rfl) (by kernel_rfl) (fun _ _ _ h => h) (Or.inl ⟨by rfl, ?_⟩) (by assumption) ?_
    rotate_left 1
    focus (intro wS hSw; (try dsimp only at hSw); go_simp; (try with_reducible rfl))
    (try simp only [Act.put, List.setIfInBounds_toArray, List.set_cons_zero, List.set_cons_succ])
    refine heldTake 11 (v := ?_) rfl (by kernel_rfl) (by kernel_rfl) (by kernel_rfl) (fun _ _ _ h => h) (Or.inl ⟨by rfl, ?_⟩) (by assumption) ?_
    rotate_left 1
    focus (intro wS hSw; (try dsimp only at hSw); go_simp; (try with_reducible rfl))
    (try simp only [Act.put, List.setIfInBounds_toArray, List.set_cons_zero, List.set_cons_succ])
    refine wpAnyH_done (by kernel_rfl) ?_ _
    go_wp2_with fail
    go_ret2
    first | exact ⟨rfl, ew3.out.trans E35.out⟩ | exact ⟨rfl, ew3.out.trans E34.out⟩
  · skip
    rw [if_pos (by kernel_rfl)]
    (go_wp2_with (first | (go_at_call 36; (first | (with_reducible refine (HSh.out _ (Ext.drew ew3.out)).mono ?_) | (with_reducible refine (HSh.out _ (ew3.out.trans E35.out)).mono ?_)); rintro e w4 ⟨bx, gR, A, n, c, gI, rfl, hbx, hrr, he4⟩; (first | (have E34 : Hid (Ext w3 w4) := hide (e0.trans he4)) | (have E34 : Hid (Ext w3 w4) := hide (E35.out.trans he4))); have b5 := hbx.cell 5 (.slice (some ⟨gR, 0, none⟩) P P) rfl; have r0 := hrr.cell (rounds_get hcd); rw [← HT.out] at r0; clear hbx hrr) | (go_at_call 37; (first | (with_reducible refine (HCo.out _ (Ext.drew ew3.out)).mono ?_) | (with_reducible refine (HCo.out _ (ew3.out.trans E34.out)).mono ?_)); rintro e w5 ⟨rfl, he5⟩; (first | (have E35 : Hid (Ext w3 w5) := hide (e0.trans he5)) | (have E35 : Hid (Ext w3 w5) := hide (E34.out.trans he5); have b5' := he5.cell b5; have r0' := he5.cell r0)))))
    refine hK.out _ _ ?_ (fun hHeld => ?_)
    · ((try dsimp only); (first | exact ⟨d0, d1⟩ | exact ⟨E34.out.cell z0, E34.out.cell z1⟩ | exact ⟨E35.out.cell z0, E35.out.cell z1⟩))
    clear hK K
    (try simp only [Act.put, List.setIfInBounds_toArray, List.set_cons_zero, List.set_cons_succ])
    refine wpAnyH_ready (rs := [5]) (by kernel_rfl) (by simp) ?_
    refine heldStep 5 rfl (fun K hK => ?_) AllReadyH.nil
    rw [if_pos (by kernel_rfl)]
    go_simp
    refine hK.out _ _ ?_ (fun hHeld => ?_)
    · ((try dsimp only); (first | exact ⟨d0, d1⟩ | exact ⟨E34.out.cell z0, E34.out.cell z1⟩ | exact ⟨E35.out.cell z0, E35.out.cell z1⟩))
    clear hK K
    (try simp only [Act.put, List.setIfInBounds_toArray, List.set_cons_zero, List.set_cons_succ])
    refine heldTake 8 (v := ?_) rfl (by kernel_rfl) (by kernel_rfl) (by kernel_rfl) (fun _ _ _ h => h) (Or.inl ⟨by rfl, ?_⟩) (by assumption) ?_
    rotate_left 1
    focus (intro wS hSw; (try dsimp only at hSw); go_simp; (try with_reducible rfl))
    (try simp only [Act.put, List.setIfInBounds_toArray, List.set_cons_zero, List.set_cons_succ])
    refine wpAnyH_ready (rs := [9]) (by kernel_rfl) (by simp) ?_
    refine heldStep 9 rfl (fun K hK => ?_) AllReadyH.nil
    rw [if_pos (by kernel_rfl)]
    go_simp
    refine hK.out _ _ ?_ (fun hHeld => ?_)
    · ((try dsimp only); (first | exact ⟨d0, d1⟩ | exact ⟨E34.out.cell z0, E34.out.cell z1⟩ | exact ⟨E35.out.cell z0, E35.out.cell z1⟩))
    clear hK K
    (try simp only [Act.put, List.setIfInBounds_toArray, List.set_cons_zero, List.set_cons_succ])
    refine heldTake 10 (v := ?_) rfl (by kernel_rfl) (by kernel_rfl) (by kernel_rfl) (fun _ _ _ h => h) (Or.inl ⟨by rfl, ?_⟩) (by assumption) ?_
    rotate_left 1
    focus (intro wS hSw; (try dsimp only at hSw); go_simp; (try with_reducible rfl))
    (try simp only [Act.put, List.setIfInBounds_toArray, List.set_cons_zero, List.set_cons_succ])
    refine heldTake 11 (v := ?_) rfl (by kernel_rfl) (by kernel_rfl) (by kernel_rfl) (fun _ _ _ h => h) (Or.inl ⟨by rfl, ?_⟩) (by assumption) ?_
    rotate_left 1
    focus (intro wS hSw; (try dsimp only at hSw); go_simp; (try with_reducible rfl))
    (try simp only [Act.put, List.setIfInBounds_toArray, List.set_cons_zero, List.set_cons_succ])
    refine wpAnyH_done (by kernel_rfl) ?_ _
    go_wp2_with fail
    go_ret2
    first | exact ⟨rfl, ew3.out.trans E35.out⟩ | exact ⟨rfl, ew3.out.trans E34.out⟩
end Go.Proofs.Ytaigjmbhgpcalaa
