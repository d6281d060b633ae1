/-
  GreatestCoeff on both sides; no condition.
-/
import Derived.Test.YtebklankehkmhaaP13
namespace Go.Proofs.Ytebklankehkmhaa
set_option linter.unusedSimpArgs false
set_option linter.unusedVariables false
open Go.RowKit
def greatRow (m : Int) (xs : List Int) : Int := xs.foldl (fun m x => max m (max x (-x))) m
def greatTo (m : Int) (ss : List Ps) : Int := ss.foldl (fun m s => greatRow m s.1) m
def greatG (ss : List Ps) : Int := greatTo 0 ss
theorem greatRow_succ {m : Int} {xs : List Int} {i : Nat} {x : Int} (hx : Hid (xs[i]? = some x)) : greatRow m (xs.take (i + 1)) = max (greatRow m (xs.take i)) (max x (-x)) := by
  rw [take_succ_of hx]; simp [greatRow, List.foldl_append]
theorem greatG_succ {ss : List Ps} {i : Nat} {s : Ps} (hx : Hid (ss[i]? = some s)) : greatG (ss.take (i + 1)) = greatRow (greatG (ss.take i)) s.1 := by
  rw [take_succ_of hx]; simp [greatG, greatTo, List.foldl_append]
set_option maxRecDepth 100000 in
set_option maxHeartbeats 3200000 in
theorem spec_GreatestCoeff_l (v : Int) (C : Option Addr) (nc dc : Nat) (cls : List (List Int)) (A : Option Addr) (n c : Nat) (ss : List Ps) (w : World) (h : Steps w A n ss) (hcl : Intss w C nc cls) :
    Calls Try.prog 36 #[.agg #[.int .i64 v, .slice C nc dc], .slice A n c] w fun e w' => e = .returned (.tuple #[.int .i64 (if goodB v cls ss then greatG ss else 0), .bool (goodB v cls ss)]) ∧ Ext w w' := by
  have hb := h.bound
  have HP := hide (fun W (E : Ext w W) => l16Good_c v C nc dc cls A n c ss W (h.ext E) (hcl.ext E))
  cases hg : goodB v cls ss
  · rw [hg] at HP; clear hg
    go_enter Try.func36, Try.ntmps36
    go_wp2_with (go_at_call 78; (with_reducible refine (HP.out _ (by (repeat (first | with_reducible exact Ext.refl _ | with_reducible assumption | ((with_reducible refine Ext.setCell ?_ ?_ _); rotate_left; focus (first | omega | (simp <;> omega))) | with_reducible refine Ext.alloc ?_ _ | with_reducible refine Ext.drewN ?_ _ | with_reducible refine Ext.drew ?_ | with_reducible refine Ext.trans ?_ (by with_reducible assumption))))).mono ?_); rintro e1 w1 ⟨rfl, he1⟩)
    go_ret2
    exact ⟨rfl, by (repeat (first | with_reducible exact Ext.refl _ | with_reducible assumption | ((with_reducible refine Ext.setCell ?_ ?_ _); rotate_left; focus (first | omega | (simp <;> omega))) | with_reducible refine Ext.alloc ?_ _ | with_reducible refine Ext.drewN ?_ _ | with_reducible refine Ext.drew ?_ | with_reducible refine Ext.trans ?_ (by with_reducible assumption)))⟩
  rw [hg] at HP
  obtain ⟨hc, h400, h0, hall⟩ := good_facts hg
  rw [if_pos rfl]
  obtain ⟨F, hF⟩ : ∃ F, F = greatG ss := ⟨_, rfl⟩
  rw [← hF]
  have HF := hide hF
  have HL := hide h.len
  have HA := hide hall
  have hn : n ≤ 400 := by have := HL.out; omega
  obtain ⟨u, rfl⟩ := cnf_nat hc
  clear hF hall hg hc h400 h0
  go_enter Try.func36, Try.ntmps36
  go_wp2_with fail
  refine (HP.out _ (by (repeat (first | with_reducible exact Ext.refl _ | with_reducible assumption | ((with_reducible refine Ext.setCell ?_ ?_ _); rotate_left; focus (first | omega | (simp <;> omega))) | with_reducible refine Ext.alloc ?_ _ | with_reducible refine Ext.drewN ?_ _ | with_reducible refine Ext.drew ?_ | with_reducible refine Ext.trans ?_ (by with_reducible assumption))))).mono ?_
  rintro e1 w1 ⟨rfl, he1⟩
  have ew1 : Ext w w1 := Ext.trans (by (repeat (first | with_reducible exact Ext.refl _ | with_reducible assumption | ((with_reducible refine Ext.setCell ?_ ?_ _); rotate_left; focus (first | omega | (simp <;> omega))) | with_reducible refine Ext.alloc ?_ _ | with_reducible refine Ext.drewN ?_ _ | with_reducible refine Ext.drew ?_ | with_reducible refine Ext.trans ?_ (by with_reducible assumption)))) he1
  have bc0 := he1.cell (p := ⟨w.heap.size, 0, none⟩) (u := .int .i64 u) (by first | simp [go_sem] | simp [go_sem, *]); have bf0 := he1.frozen (p := ⟨w.heap.size, 0, none⟩) (by first | omega | (simp <;> omega)) (by first | simp [go_sem] | simp [go_sem, *]); have bc1 := he1.cell (p := ⟨w.heap.size, 1, none⟩) (u := .slice C nc dc) (by first | simp [go_sem] | simp [go_sem, *]); have bf1 := he1.frozen (p := ⟨w.heap.size, 1, none⟩) (by first | omega | (simp <;> omega)) (by first | simp [go_sem] | simp [go_sem, *])
  go_wp2_with fail
  refine wp_loopF 48 _ rfl rfl [1, 2, 47] rfl (fun fr wr => Ext w1 wr ∧ ∃ i : Nat, i ≤ n ∧ (fr 7) = .int .i64 i ∧ ∃ M : Int, (fr 6) = .int .i64 M ∧ Hid (M = greatG (ss.take i))) (fun fr wr => n - (intOf (fr 7)).toNat) ?_ ?_
  · (exact ⟨Ext.refl _, 0, by omega, rfl, 0, rfl, rfl⟩)
  intro ks fr wr hkept hrel; (try dsimp only at hrel)
  change Code.wp _ _ _ ⟨#[fr 0, ks 1, ks 2, fr 3, fr 4, fr 5, fr 6, fr 7, fr 8, fr 9, fr 10, fr 11, fr 12, fr 13, fr 14, fr 15, fr 16, fr 17, fr 18, fr 19, fr 20, fr 21, fr 22, fr 23, fr 24, fr 25, fr 26, fr 27, fr 28, fr 29, fr 30, fr 31, fr 32, fr 33, fr 34, fr 35, fr 36, fr 37, fr 38, fr 39, fr 40, fr 41, fr 42, fr 43, fr 44, fr 45, fr 46, ks 47], []⟩ wr
  simp only [KeptV, List.getD_cons_zero, List.getD_cons_succ] at hkept; obtain ⟨hk1, hk2, hk47, -⟩ := hkept
  generalize ks 1 = k1 at hk1 ⊢; subst hk1
  generalize ks 2 = k2 at hk2 ⊢; subst hk2
  generalize ks 47 = k47 at hk47 ⊢; subst hk47
  generalize fr 6 = s6 at hrel ⊢
  generalize fr 7 = s7 at hrel ⊢
  obtain ⟨he, i, hi, hs1, M, hs2, hq⟩ := hrel
  subst hs1; subst hs2
  have b0 := he.cell bc0
  by_cases hlt : i < n
  · obtain ⟨g, xs, m, B, e, bd, kd, a, b, q, rfl, hx, c0, hin, c1, -, -, -, -⟩ := h.at_ hlt
    have hok := HA.out i (by have := HL.out; omega)
    rw [getD_of hx] at hok
    obtain ⟨hv, hlen, hbd, hxs⟩ := ineq_facts (show ineqOk u bd xs = true from hok)
    have hum : u = m := by have := hin.len; omega
    subst hum
    have HX := hide hxs
    have hq2 := hide (greatG_succ hx)
    rw [← hq.out] at hq2
    clear hok hxs hlen hq
    simp only at hq2
    go_wp2_with fail
    obtain ⟨W1, rfl⟩ : ∃ W, W = wr := ⟨_, rfl⟩
    refine wp_loopF 48 _ rfl rfl [1, 2, 7, 13, 14, 15, 16, 17, 18, 47] rfl (fun fr wr => Ext W1 wr ∧ ∃ j : Nat, j ≤ u ∧ (fr 8) = .int .i64 j ∧ ∃ N : Int, (fr 6) = .int .i64 N ∧ Hid (N = greatRow M (xs.take j))) (fun fr wr => u - (intOf (fr 8)).toNat) ?_ ?_
    · (exact ⟨Ext.refl _, 0, by omega, rfl, M, rfl, rfl⟩)
    intro ks fr wr hkept hrel; (try dsimp only at hrel)
    change Code.wp _ _ _ ⟨#[fr 0, ks 1, ks 2, fr 3, fr 4, fr 5, fr 6, ks 7, fr 8, fr 9, fr 10, fr 11, fr 12, ks 13, ks 14, ks 15, ks 16, ks 17, ks 18, fr 19, fr 20, fr 21, fr 22, fr 23, fr 24, fr 25, fr 26, fr 27, fr 28, fr 29, fr 30, fr 31, fr 32, fr 33, fr 34, fr 35, fr 36, fr 37, fr 38, fr 39, fr 40, fr 41, fr 42, fr 43, fr 44, fr 45, fr 46, ks 47], []⟩ wr
    simp only [KeptV, List.getD_cons_zero, List.getD_cons_succ] at hkept; obtain ⟨hk1, hk2, hk7, hk13, hk14, hk15, hk16, hk17, hk18, hk47, -⟩ := hkept
    generalize ks 1 = k1 at hk1 ⊢; subst hk1
    generalize ks 2 = k2 at hk2 ⊢; subst hk2
    generalize ks 7 = k7 at hk7 ⊢; subst hk7
    generalize ks 13 = k13 at hk13 ⊢; subst hk13
    generalize ks 14 = k14 at hk14 ⊢; subst hk14
    generalize ks 15 = k15 at hk15 ⊢; subst hk15
    generalize ks 16 = k16 at hk16 ⊢; subst hk16
    generalize ks 17 = k17 at hk17 ⊢; subst hk17
    generalize ks 18 = k18 at hk18 ⊢; subst hk18
    generalize ks 47 = k47 at hk47 ⊢; subst hk47
    generalize fr 6 = s6 at hrel ⊢
    generalize fr 8 = s8 at hrel ⊢
    obtain ⟨he2, j, hj, hs1, N, hs2, hr⟩ := hrel
    subst hs1; subst hs2
    have y0 := he2.cell b0
    by_cases hlt2 : j < u
    · have ewr : Ext w wr := (ew1.trans he).trans he2
      obtain ⟨ad, x, rfl, hxx, gx0⟩ := hin.at_ hlt2
      have hxb := HX.out x (List.mem_of_getElem? hxx.out)
      have hr2 := hide (greatRow_succ (m := M) hxx)
      rw [← hr.out] at hr2
      obtain ⟨nx, hnx⟩ : ∃ nx, nx = -x := ⟨_, rfl⟩
      have hwn : IntKind.i64.wrap (-x) = nx := by rw [hnx]; exact IntWalk.i64_in _ (by omega)
      obtain ⟨ax, hax⟩ : ∃ ax, ax = max x nx := ⟨_, rfl⟩
      obtain ⟨N2, hN2⟩ : ∃ N2, N2 = max N ax := ⟨_, rfl⟩
      have HM1 := hide (fun W => l1Most_c x nx W)
      have HM2 := hide (fun W => l1Most_c N ax W)
      rw [← hax] at HM1
      rw [← hN2] at HM2
      rw [← hnx, ← hax, ← hN2] at hr2
      clear hnx hax hN2
      have eD := (Ext.refl wr).drew
      have d0 := ewr.drew.cell c0
      have d1 := ewr.drew.cell gx0
      go_wp2_with fail
      refine wp_region_held_drew (S := (fun w' => w'.cell? ⟨g, i * 6, none⟩ = some (.slice (some ad) u e) ∧ w'.cell? (ad.add j) = some (.int .i64 x))) (by kernel_rfl) ?_ (fun hHeld => ?_)
      · ((try dsimp only); (refine ⟨?_, ?_⟩ <;> assumption))
      refine heldTake 0 (v := ?_) rfl (by kernel_rfl) (by kernel_rfl) (by kernel_rfl) (fun _ _ _ h => h) (Or.inl ⟨by rfl, ?_⟩) (by assumption) ?_
      rotate_left 1
      focus (intro wS hSw; (try dsimp only at hSw); go_simp; (try with_reducible rfl))
      (try simp only [Act.put, List.setIfInBounds_toArray, List.set_cons_zero, List.set_cons_succ])
      refine heldTake 1 (v := ?_) rfl (by kernel_rfl) (by kernel_rfl) (by kernel_rfl) (fun _ _ _ h => h) (Or.inl ⟨by rfl, ?_⟩) (by assumption) ?_
      rotate_left 1
      focus (intro wS hSw; (try dsimp only at hSw); go_simp; (try with_reducible rfl))
      (try simp only [Act.put, List.setIfInBounds_toArray, List.set_cons_zero, List.set_cons_succ])
      refine heldTake 2 (v := ?_) rfl (by kernel_rfl) (by kernel_rfl) (by kernel_rfl) (fun _ _ _ h => h) (Or.inl ⟨by rfl, ?_⟩) (by assumption) ?_
      rotate_left 1
      focus (intro wS hSw; (try dsimp only at hSw); go_simp; (try with_reducible rfl))
      (try simp only [Act.put, List.setIfInBounds_toArray, List.set_cons_zero, List.set_cons_succ])
      refine heldTake 3 (v := ?_) rfl (by kernel_rfl) (by kernel_rfl) (by kernel_rfl) (fun _ _ _ h => h) (Or.inl ⟨by rfl, ?_⟩) (by assumption) ?_
      rotate_left 1
      focus (intro wS hSw; (try dsimp only at hSw); go_simp; (try with_reducible rfl))
      (try simp only [Act.put, List.setIfInBounds_toArray, List.set_cons_zero, List.set_cons_succ])
      refine heldTake 4 (v := ?_) rfl (by kernel_rfl) (by kernel_rfl) (by kernel_rfl) (fun _ _ _ h => h) (Or.inl ⟨by rfl, ?_⟩) (by assumption) ?_
      rotate_left 1
      focus (intro wS hSw; (try dsimp only at hSw); go_simp; (try with_reducible rfl))
      (try simp only [Act.put, List.setIfInBounds_toArray, List.set_cons_zero, List.set_cons_succ])
      refine heldTake 5 (v := ?_) rfl (by kernel_rfl) (by kernel_rfl) (by kernel_rfl) (fun _ _ _ h => h) (Or.inl ⟨by rfl, ?_⟩) (by assumption) ?_
      rotate_left 1
      focus (intro wS hSw; (try dsimp only at hSw); go_simp; (try with_reducible rfl))
      (try simp only [Act.put, List.setIfInBounds_toArray, List.set_cons_zero, List.set_cons_succ])
      refine heldTake 6 (v := ?_) rfl (by kernel_rfl) (by kernel_rfl) (by kernel_rfl) (fun _ _ _ h => h) (Or.inl ⟨by rfl, ?_⟩) (by assumption) ?_
      rotate_left 1
      focus (intro wS hSw; (try dsimp only at hSw); go_simp; (try with_reducible rfl))
      (try simp only [Act.put, List.setIfInBounds_toArray, List.set_cons_zero, List.set_cons_succ])
      refine heldTake 7 (v := ?_) rfl (by kernel_rfl) (by kernel_rfl) (by kernel_rfl) (fun _ _ _ h => h) (Or.inl ⟨by rfl, ?_⟩) (by assumption) ?_
      rotate_left 1
      focus (intro wS hSw; (try dsimp only at hSw); go_simp; (try with_reducible rfl))
      (try simp only [Act.put, List.setIfInBounds_toArray, List.set_cons_zero, List.set_cons_succ])
      refine heldTake 8 (v := ?_) rfl (by kernel_rfl) (by kernel_rfl) (by kernel_rfl) (fun _ _ _ h => h) (Or.inl ⟨by rfl, ?_⟩) (by assumption) ?_
      rotate_left 1
      focus (intro wS hSw; (try dsimp only at hSw); go_simp; (try with_reducible rfl))
      (try simp only [Act.put, List.setIfInBounds_toArray, List.set_cons_zero, List.set_cons_succ])
      refine heldTake 9 (v := ?_) rfl (by kernel_rfl) (by kernel_rfl) (by kernel_rfl) (fun _ _ _ h => h) (Or.inl ⟨by rfl, ?_⟩) (by assumption) ?_
      rotate_left 1
      focus (intro wS hSw; (try dsimp only at hSw); go_simp; (try with_reducible rfl))
      (try simp only [Act.put, List.setIfInBounds_toArray, List.set_cons_zero, List.set_cons_succ])
      refine heldTake 10 (v := ?_) rfl (by kernel_rfl) (by kernel_rfl) (by kernel_rfl) (fun _ _ _ h => h) (Or.inl ⟨by rfl, ?_⟩) (by assumption) ?_
      rotate_left 1
      focus (intro wS hSw; (try dsimp only at hSw); go_simp; (try with_reducible rfl))
      (try simp only [Act.put, List.setIfInBounds_toArray, List.set_cons_zero, List.set_cons_succ])
      refine heldTake 11 (v := ?_) rfl (by kernel_rfl) (by kernel_rfl) (by kernel_rfl) (fun _ _ _ h => h) (Or.inl ⟨by rfl, ?_⟩) (by assumption) ?_
      rotate_left 1
      focus (intro wS hSw; (try dsimp only at hSw); go_simp; (try with_reducible rfl))
      (try simp only [Act.put, List.setIfInBounds_toArray, List.set_cons_zero, List.set_cons_succ])
      refine heldTake 12 (v := ?_) rfl (by kernel_rfl) (by kernel_rfl) (by kernel_rfl) (fun _ _ _ h => h) (Or.inl ⟨by rfl, ?_⟩) (by assumption) ?_
      rotate_left 1
      focus (intro wS hSw; (try dsimp only at hSw); go_simp; (try with_reducible rfl))
      (try simp only [Act.put, List.setIfInBounds_toArray, List.set_cons_zero, List.set_cons_succ])
      refine heldTake 13 (v := ?_) rfl (by kernel_rfl) (by kernel_rfl) (by kernel_rfl) (fun _ _ _ h => h) (Or.inl ⟨by rfl, ?_⟩) (by assumption) ?_
      rotate_left 1
      focus (intro wS hSw; (try dsimp only at hSw); go_simp; (try with_reducible rfl))
      (try simp only [Act.put, List.setIfInBounds_toArray, List.set_cons_zero, List.set_cons_succ])
      refine heldTake 14 (v := ?_) rfl (by kernel_rfl) (by kernel_rfl) (by kernel_rfl) (fun _ _ _ h => h) (Or.inl ⟨by rfl, ?_⟩) (by assumption) ?_
      rotate_left 1
      focus (intro wS hSw; (try dsimp only at hSw); go_simp; (try with_reducible rfl))
      (try simp only [Act.put, List.setIfInBounds_toArray, List.set_cons_zero, List.set_cons_succ])
      refine heldTake 15 (v := ?_) rfl (by kernel_rfl) (by kernel_rfl) (by kernel_rfl) (fun _ _ _ h => h) (Or.inl ⟨by rfl, ?_⟩) (by assumption) ?_
      rotate_left 1
      focus (intro wS hSw; (try dsimp only at hSw); go_simp; (try with_reducible rfl))
      (try simp only [Act.put, List.setIfInBounds_toArray, List.set_cons_zero, List.set_cons_succ])
      refine heldTake 16 (v := ?_) rfl (by kernel_rfl) (by kernel_rfl) (by kernel_rfl) (fun _ _ _ h => h) (Or.inl ⟨by rfl, ?_⟩) (by assumption) ?_
      rotate_left 1
      focus (intro wS hSw; (try dsimp only at hSw); go_simp; (try with_reducible rfl))
      (try simp only [Act.put, List.setIfInBounds_toArray, List.set_cons_zero, List.set_cons_succ])
      refine heldTake 17 (v := ?_) rfl (by kernel_rfl) (by kernel_rfl) (by kernel_rfl) (fun _ _ _ h => h) (Or.inl ⟨by rfl, ?_⟩) (by assumption) ?_
      rotate_left 1
      focus (intro wS hSw; (try dsimp only at hSw); go_simp; (try with_reducible rfl))
      (try simp only [Act.put, List.setIfInBounds_toArray, List.set_cons_zero, List.set_cons_succ])
      refine heldTake 18 (v := ?_) rfl (by kernel_rfl) (by kernel_rfl) (by kernel_rfl) (fun _ _ _ h => h) (Or.inl ⟨by rfl, ?_⟩) (by assumption) ?_
      rotate_left 1
      focus (intro wS hSw; (try dsimp only at hSw); go_simp; (try with_reducible rfl))
      (try simp only [Act.put, List.setIfInBounds_toArray, List.set_cons_zero, List.set_cons_succ])
      refine heldTake 19 (v := ?_) rfl (by kernel_rfl) (by kernel_rfl) (by kernel_rfl) (fun _ _ _ h => h) (Or.inl ⟨by rfl, ?_⟩) (by assumption) ?_
      rotate_left 1
      focus (intro wS hSw; (try dsimp only at hSw); go_simp; (try with_reducible rfl))
      (try simp only [Act.put, List.setIfInBounds_toArray, List.set_cons_zero, List.set_cons_succ])
      refine wpAnyH_ready (rs := [20]) (by kernel_rfl) (by simp) ?_
      refine heldStep 20 rfl (fun K hK => ?_) AllReadyH.nil
      rw [if_pos (by kernel_rfl)]
      (go_wp2_with (first | (go_at_call 83; (with_reducible refine (HM1.out _).mono ?_); rintro e3 w3 ⟨rfl, rfl⟩) | (go_at_call 83; (with_reducible refine (HM2.out _).mono ?_); rintro e4 w4 ⟨rfl, rfl⟩)))
      refine hK.out _ _ ?_ (fun hHeld => ?_)
      · ((try dsimp only); (refine ⟨?_, ?_⟩ <;> assumption))
      clear hK K
      (try simp only [Act.put, List.setIfInBounds_toArray, List.set_cons_zero, List.set_cons_succ])
      refine wpAnyH_ready (rs := [21]) (by kernel_rfl) (by simp) ?_
      refine heldStep 21 rfl (fun K hK => ?_) AllReadyH.nil
      rw [if_pos (by kernel_rfl)]
      (go_wp2_with (first | (go_at_call 83; (with_reducible refine (HM1.out _).mono ?_); rintro e3 w3 ⟨rfl, rfl⟩) | (go_at_call 83; (with_reducible refine (HM2.out _).mono ?_); rintro e4 w4 ⟨rfl, rfl⟩)))
      refine hK.out _ _ ?_ (fun hHeld => ?_)
      · ((try dsimp only); (refine ⟨?_, ?_⟩ <;> assumption))
      clear hK K
      (try simp only [Act.put, List.setIfInBounds_toArray, List.set_cons_zero, List.set_cons_succ])
      refine heldTake 22 (v := ?_) rfl (by kernel_rfl) (by kernel_rfl) (by kernel_rfl) (fun _ _ _ h => h) (Or.inl ⟨by rfl, ?_⟩) (by assumption) ?_
      rotate_left 1
      focus (intro wS hSw; (try dsimp only at hSw); go_simp; (try with_reducible rfl))
      (try simp only [Act.put, List.setIfInBounds_toArray, List.set_cons_zero, List.set_cons_succ])
      refine wpAnyH_done (by kernel_rfl) ?_ _
      go_wp2_with fail
      exact ⟨⟨(by (repeat (first | exact trivial | refine ⟨rfl, ?_⟩))), he2.drew, j + 1, by omega, by go_num, _, rfl, hide hr2.out.symm⟩, (by simp [intOf] <;> omega)⟩
    · obtain rfl : j = u := by omega
      have hr2 : Hid (N = greatG (ss.take (i + 1))) := hide (by rw [hr.out, hq2.out, List.take_of_length_le (by have := hin.len; omega)])
      go_wp2_with fail
      exact ⟨⟨(by (repeat (first | exact trivial | refine ⟨rfl, ?_⟩))), he.trans he2, i + 1, by omega, by go_num, N, rfl, hr2⟩, (by simp [intOf] <;> omega)⟩
  · have hq2 : Hid (M = F) := hide (by rw [hq.out, HF.out, List.take_of_length_le (by have := HL.out; omega)])
    go_wp2_with fail
    go_ret2
    exact ⟨by rw [hq2.out]; rfl, ew1.trans he⟩
set_option maxRecDepth 100000 in
set_option maxHeartbeats 3200000 in
theorem impl_GreatestCoeff_l (v : Int) (C : Option Addr) (nc dc : Nat) (cls : List (List Int)) (A : Option Addr) (n c : Nat) (ss : List Ps) (w : World) (h : Steps w A n ss) (hcl : Intss w C nc cls) :
    Calls Try.prog 37 #[.agg #[.int .i64 v, .slice C nc dc], .slice A n c] w fun e w' => e = .returned (.tuple #[.int .i64 (if goodB v cls ss then greatG ss else 0), .bool (goodB v cls ss)]) ∧ Ext w w' := by
  have hb := h.bound
  have HP := hide (fun W (E : Ext w W) => planeProof_c v C nc dc cls A n c ss W (h.ext E) (hcl.ext E))
  cases hg : goodB v cls ss
  · rw [hg] at HP; clear hg
    go_enter Try.func37, Try.ntmps37
    go_wp2_with (go_at_call 79; (with_reducible refine (HP.out _ (by (repeat (first | with_reducible exact Ext.refl _ | with_reducible assumption | ((with_reducible refine Ext.setCell ?_ ?_ _); rotate_left; focus (first | omega | (simp <;> omega))) | with_reducible refine Ext.alloc ?_ _ | with_reducible refine Ext.drewN ?_ _ | with_reducible refine Ext.drew ?_ | with_reducible refine Ext.trans ?_ (by with_reducible assumption))))).mono ?_); rintro e1 w1 ⟨rfl, he1⟩)
    go_ret2
    exact ⟨rfl, by (repeat (first | with_reducible exact Ext.refl _ | with_reducible assumption | ((with_reducible refine Ext.setCell ?_ ?_ _); rotate_left; focus (first | omega | (simp <;> omega))) | with_reducible refine Ext.alloc ?_ _ | with_reducible refine Ext.drewN ?_ _ | with_reducible refine Ext.drew ?_ | with_reducible refine Ext.trans ?_ (by with_reducible assumption)))⟩
  rw [hg] at HP
  obtain ⟨hc, h400, h0, hall⟩ := good_facts hg
  rw [if_pos rfl]
  obtain ⟨F, hF⟩ : ∃ F, F = greatG ss := ⟨_, rfl⟩
  rw [← hF]
  have HF := hide hF
  have HL := hide h.len
  have HA := hide hall
  have hn : n ≤ 400 := by have := HL.out; omega
  obtain ⟨u, rfl⟩ := cnf_nat hc
  clear hF hall hg hc h400 h0
  go_enter Try.func37, Try.ntmps37
  go_wp2_with fail
  refine (HP.out _ (by (repeat (first | with_reducible exact Ext.refl _ | with_reducible assumption | ((with_reducible refine Ext.setCell ?_ ?_ _); rotate_left; focus (first | omega | (simp <;> omega))) | with_reducible refine Ext.alloc ?_ _ | with_reducible refine Ext.drewN ?_ _ | with_reducible refine Ext.drew ?_ | with_reducible refine Ext.trans ?_ (by with_reducible assumption))))).mono ?_
  rintro e1 w1 ⟨rfl, he1⟩
  have ew1 : Ext w w1 := Ext.trans (by (repeat (first | with_reducible exact Ext.refl _ | with_reducible assumption | ((with_reducible refine Ext.setCell ?_ ?_ _); rotate_left; focus (first | omega | (simp <;> omega))) | with_reducible refine Ext.alloc ?_ _ | with_reducible refine Ext.drewN ?_ _ | with_reducible refine Ext.drew ?_ | with_reducible refine Ext.trans ?_ (by with_reducible assumption)))) he1
  go_wp2_with fail
  refine wp_loopK _ rfl (fun KK acT wr => ∃ s0 s1 s2 s3 s4 s5 s6 s7 s8 s9 s10 s11 s12 s13 s14 s15 s16 s17 s18 s19 s20 s21 s22 s23 s24 s25 s26 s27 s28 s29 s30 s31 s32 s33 s34 s35 : Value, (KeptM [false, false, false, false, false, false, false, false, false, false, false, false, false, false, false, true, true, false, false, false, false, false, false, false, false, false, false, false, false, false, false, false, false, false, false, true] [s0, s1, s2, s3, s4, s5, s6, s7, s8, s9, s10, s11, s12, s13, s14, s15, s16, s17, s18, s19, s20, s21, s22, s23, s24, s25, s26, s27, s28, s29, s30, s31, s32, s33, s34, s35] KK ∧ (Ext w1 wr ∧ ∃ i : Nat, i ≤ n ∧ s17 = .int .i64 i ∧ ∃ M : Int, s6 = .int .i64 M ∧ Hid (M = greatG (ss.take i)))) ∧ acT = ⟨#[s0, s1, s2, s3, s4, s5, s6, s7, s8, s9, s10, s11, s12, s13, s14, s15, s16, s17, s18, s19, s20, s21, s22, s23, s24, s25, s26, s27, s28, s29, s30, s31, s32, s33, s34, s35], []⟩) (fun acT wr => (fun (s17 : Value) (wr : World) => n - (intOf s17).toNat) (acT.tmps.getD 17 undef) wr) ?_ ?_
  · (refine ⟨_, _, _, _, _, _, _, _, _, _, _, _, _, _, _, _, _, _, _, _, _, _, _, _, _, _, _, _, _, _, _, _, _, _, _, _, ⟨(by (repeat (first | exact trivial | refine ⟨rfl, ?_⟩))), ?_⟩, rfl⟩; exact ⟨Ext.refl _, 0, by omega, rfl, 0, rfl, rfl⟩)
  intro _ wr hinv; obtain ⟨s0, s1, s2, s3, s4, s5, s6, s7, s8, s9, s10, s11, s12, s13, s14, s15, s16, s17, s18, s19, s20, s21, s22, s23, s24, s25, s26, s27, s28, s29, s30, s31, s32, s33, s34, s35, ⟨hkept, hrel⟩, rfl⟩ := hinv; simp only [KeptM] at hkept; obtain ⟨rfl, rfl, rfl, -⟩ := hkept; (try dsimp only)
  obtain ⟨he, i, hi, hs1, M, hs2, hq⟩ := hrel
  subst hs1; subst hs2
  by_cases hlt : i < n
  · obtain ⟨g, xs, m, B, e, bd, kd, a, b, q, rfl, hx, c0, hin, c1, c2, c3, c4, c5⟩ := h.at_ hlt
    have hok := HA.out i (by have := HL.out; omega)
    rw [getD_of hx] at hok
    obtain ⟨hv, hlen, hbd, hxs⟩ := ineq_facts (show ineqOk u bd xs = true from hok)
    have hum : u = m := by have := hin.len; omega
    subst hum
    have HX := hide hxs
    have hq2 := hide (greatG_succ hx)
    rw [← hq.out] at hq2
    clear hok hxs hlen hq
    simp only at hq2
    have ewr0 : Ext w wr := ew1.trans he
    have y0 := ewr0.cell c0
    have y1 := ewr0.cell c1
    have y2 := ewr0.cell c2
    have y3 := ewr0.cell c3
    have y4 := ewr0.cell c4
    have y5 := ewr0.cell c5
    obtain ⟨W0, rfl⟩ : ∃ W, W = wr := ⟨_, rfl⟩
    go_wp2_with fail
    refine wp_loopK _ rfl (fun KK acT wr => ∃ s0 s1 s2 s3 s4 s5 s6 s7 s8 s9 s10 s11 s12 s13 s14 s15 s16 s17 s18 s19 s20 s21 s22 s23 s24 s25 s26 s27 s28 s29 s30 s31 s32 s33 s34 s35 : Value, (KeptM [false, false, false, false, false, false, false, false, true, false, false, false, false, false, false, true, true, true, true, true, true, true, true, true, true, false, false, false, false, false, false, false, false, false, true, true] [s0, s1, s2, s3, s4, s5, s6, s7, s8, s9, s10, s11, s12, s13, s14, s15, s16, s17, s18, s19, s20, s21, s22, s23, s24, s25, s26, s27, s28, s29, s30, s31, s32, s33, s34, s35] KK ∧ (Ext W0 wr ∧ ∃ j : Nat, j ≤ u ∧ s25 = .int .i64 j ∧ ∃ N : Int, s6 = .int .i64 N ∧ Hid (N = greatRow M (xs.take j)))) ∧ acT = ⟨#[s0, s1, s2, s3, s4, s5, s6, s7, s8, s9, s10, s11, s12, s13, s14, s15, s16, s17, s18, s19, s20, s21, s22, s23, s24, s25, s26, s27, s28, s29, s30, s31, s32, s33, s34, s35], []⟩) (fun acT wr => (fun (s25 : Value) (wr : World) => u - (intOf s25).toNat) (acT.tmps.getD 25 undef) wr) ?_ ?_
    · (refine ⟨_, _, _, _, _, _, _, _, _, _, _, _, _, _, _, _, _, _, _, _, _, _, _, _, _, _, _, _, _, _, _, _, _, _, _, _, ⟨(by (repeat (first | exact trivial | refine ⟨rfl, ?_⟩))), ?_⟩, rfl⟩; exact ⟨(Ext.refl _).alloc _, 0, by omega, rfl, M, rfl, rfl⟩)
    intro _ wr hinv; obtain ⟨s0, s1, s2, s3, s4, s5, s6, s7, s8, s9, s10, s11, s12, s13, s14, s15, s16, s17, s18, s19, s20, s21, s22, s23, s24, s25, s26, s27, s28, s29, s30, s31, s32, s33, s34, s35, ⟨hkept, hrel⟩, rfl⟩ := hinv; simp only [KeptM] at hkept; obtain ⟨rfl, rfl, rfl, rfl, rfl, rfl, rfl, rfl, rfl, rfl, rfl, rfl, rfl, -⟩ := hkept; (try dsimp only)
    obtain ⟨he2, j, hj, hs1, N, hs2, hr⟩ := hrel
    subst hs1; subst hs2
    by_cases hlt2 : j < u
    · have ewr : Ext w wr := (ew1.trans he).trans he2
      obtain ⟨ad, x, rfl, hxx, gx0⟩ := hin.at_ hlt2
      have hxb := HX.out x (List.mem_of_getElem? hxx.out)
      have hr2 := hide (greatRow_succ (m := M) hxx)
      rw [← hr.out] at hr2
      have hab : absW x = max x (-x) := by unfold absW wrap64; split <;> omega
      have HAb := hide (fun W => abs_c x W)
      rw [hab] at HAb
      generalize hmx : max x (-x) = ax at *
      clear hmx hab
      have d1 := ewr.cell gx0
      go_wp2_with fail
      refine (HAb.out _).mono ?_
      rintro e3 w3 ⟨rfl, rfl⟩
      go_wp2_with fail
      all_goals exact ⟨⟨(by (repeat (first | exact trivial | refine ⟨rfl, ?_⟩))), he2, j + 1, by omega, by go_num, _, rfl, hide (by rw [hr2.out]; first | rfl | omega)⟩, (by simp [intOf] <;> omega)⟩
    · obtain rfl : j = u := by omega
      have hr2 : Hid (N = greatG (ss.take (i + 1))) := hide (by rw [hr.out, hq2.out, List.take_of_length_le (by have := hin.len; omega)])
      go_wp2_with fail
      exact ⟨⟨(by (repeat (first | exact trivial | refine ⟨rfl, ?_⟩))), he.trans he2, i + 1, by omega, by go_num, N, rfl, hr2⟩, (by simp [intOf] <;> omega)⟩
  · have hq2 : Hid (M = F) := hide (by rw [hq.out, HF.out, List.take_of_length_le (by have := HL.out; omega)])
    go_wp2_with fail
    go_ret2
    exact ⟨by rw [hq2.out]; rfl, ew1.trans he⟩
end Go.Proofs.Ytebklankehkmhaa
