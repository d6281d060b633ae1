/-
  The opposite of an inequality.
-/
import Derived.Test.YtencjnddhokgaaaC21
namespace Go.Proofs.Ytencjnddhokgaaa
open Go.RowKit

set_option maxRecDepth 100000 in
set_option maxHeartbeats 1600000 in
theorem spec_OppositePlane_o (v bd : Int) (A : Option Addr) (n c : Nat) (xs : List Int) (w : World) (h : Ints w A n xs) :
    Calls Try.prog 24 #[.int .i64 v, .agg #[.slice A n c, .int .i64 bd]] w fun e w' =>
      ∃ A' n' c', e = .returned (.tuple #[.agg #[.slice A' n' c', .int .i64 (if oppOk v bd xs then 1 - bd else 0)], .bool (oppOk v bd xs)]) ∧ ObI 3 w' w.heap.size w'.heap.size A' n' c' (if oppOk v bd xs then xs.map (· * (-1)) else []) ∧ Ext w w' := by
  cases h1 : ineqOk v bd xs
  · have H1 := hide h1
    clear h1
    have hO : oppOk v bd xs = false := by simp [oppOk, H1.out]
    rw [hO]; simp only [Bool.false_eq_true, if_false]; clear hO
    go_enter Try.func24, Try.ntmps24
    go_wp2_with (go_at_call 60; (with_reducible refine (spec_IsInequality_c _ _ _ _ _ xs _ (h.ext (by (repeat (first | with_reducible exact Ext.refl _ | with_reducible assumption | ((with_reducible refine Ext.setCell ?_ ?_ _); rotate_left; focus (first | omega | (simp <;> omega))) | with_reducible refine Ext.alloc ?_ _ | with_reducible refine Ext.drewN ?_ _ | with_reducible refine Ext.drew ?_ | with_reducible refine Ext.trans ?_ (by with_reducible assumption)))))).mono ?_); rw [H1.out]; rintro e w1 ⟨rfl, he1⟩; have r0 := he1.cell (p := ⟨w.heap.size + 1, 0, none⟩) (u := .slice none 0 0) (by simp [go_sem]); have r1 := he1.cell (p := ⟨w.heap.size + 1, 1, none⟩) (u := .int .i64 0) (by simp [go_sem]); have f0 := he1.frozen (p := ⟨w.heap.size + 1, 0, none⟩) (by simp <;> omega) (by simp [go_sem]); have f1 := he1.frozen (p := ⟨w.heap.size + 1, 1, none⟩) (by simp <;> omega) (by simp [go_sem]))
    refine bodyPost_ret (v := .tuple #[.agg #[.slice none 0 0, .int .i64 0], .bool false]) (by simp only [results, Try.results24]; simp [go_sem, r0, r1, f0, f1]) rfl ⟨_, _, _, rfl, ObI.nil, ?_⟩
    exact Ext.setCell (Ext.setCell (Ext.trans (by (repeat (first | with_reducible exact Ext.refl _ | with_reducible assumption | ((with_reducible refine Ext.setCell ?_ ?_ _); rotate_left; focus (first | omega | (simp <;> omega))) | with_reducible refine Ext.alloc ?_ _ | with_reducible refine Ext.drewN ?_ _ | with_reducible refine Ext.drew ?_ | with_reducible refine Ext.trans ?_ (by with_reducible assumption)))) he1) (by first | omega | (simp <;> omega)) _) (by first | omega | (simp <;> omega)) _
  · obtain ⟨hvb, hl, hbd, hxs⟩ := ineq_facts h1
    have hn12 := ineq_len h1 h.len
    have hvn : (n : Int) = v := by rw [← hl, h.len]
    have hO : oppOk v bd xs = ineqOk v (1 - bd) (xs.map (· * (-1))) := by simp [oppOk, h1]
    rw [hO]; clear hO
    have H1 := hide h1
    clear h1 hl
    subst hvn
    have HX := hide hxs
    clear hxs
    have hF := fun (i : Nat) (x : Int) hx => map_take_succ (f := (· * (-1))) (xs := xs) (i := i) (x := x) hx
    have hFl : n = (xs.map (· * (-1))).length := by rw [List.length_map]; exact h.len
    have hG := give_eq (bd := 1 - bd) H1.out hFl
    generalize xs.map (· * (-1)) = F at *
    have HF := hide hF
    have HFl := hide hFl
    generalize ineqOk (n : Int) (1 - bd) F = g at hG ⊢
    have HG : Hid ((decide (((n : Nat) : Int) = ((n : Nat) : Int)) && within (1 - bd) (-10000) 10000 && F.all (fun x => within x (-1000) 1000)) = g) := hide (by simpa using hG)
    clear hF hFl hG
    go_enter Try.func24, Try.ntmps24
    go_wp2_with (go_at_call 60; (with_reducible refine (spec_IsInequality_c _ _ _ _ _ xs _ (h.ext (by (repeat (first | with_reducible exact Ext.refl _ | with_reducible assumption | ((with_reducible refine Ext.setCell ?_ ?_ _); rotate_left; focus (first | omega | (simp <;> omega))) | with_reducible refine Ext.alloc ?_ _ | with_reducible refine Ext.drewN ?_ _ | with_reducible refine Ext.drew ?_ | with_reducible refine Ext.trans ?_ (by with_reducible assumption)))))).mono ?_); rw [H1.out]; rintro e w1 ⟨rfl, he1⟩; have q0 := he1.cell (p := ⟨w.heap.size, 0, none⟩) (u := .slice A n c) (by simp [go_sem]); have q1 := he1.cell (p := ⟨w.heap.size, 1, none⟩) (u := .int .i64 bd) (by simp [go_sem]); have r0 := he1.cell (p := ⟨w.heap.size + 1, 0, none⟩) (u := .slice none 0 0) (by simp [go_sem]); have r1 := he1.cell (p := ⟨w.heap.size + 1, 1, none⟩) (u := .int .i64 0) (by simp [go_sem]); have f0 := he1.frozen (p := ⟨w.heap.size + 1, 0, none⟩) (by simp <;> omega) (by simp [go_sem]); have f1 := he1.frozen (p := ⟨w.heap.size + 1, 1, none⟩) (by simp <;> omega) (by simp [go_sem]))
    have hw1 : Ext w w1 := Ext.trans (by (repeat (first | with_reducible exact Ext.refl _ | with_reducible assumption | ((with_reducible refine Ext.setCell ?_ ?_ _); rotate_left; focus (first | omega | (simp <;> omega))) | with_reducible refine Ext.alloc ?_ _ | with_reducible refine Ext.drewN ?_ _ | with_reducible refine Ext.drew ?_ | with_reducible refine Ext.trans ?_ (by with_reducible assumption)))) he1
    have z1 := he1.size
    simp at z1
    have h4 := BoxAt.made w1 #[.slice none 0 0, .int .i64 (1 - bd)] 24
    refine wp_loopK _ rfl (fun KK acT wr => ∃ s0 s1 s2 s3 s4 s5 s6 s7 s8 s9 s10 s11 s12 s13 s14 s15 s16 s17 s18 s19 s20 s21 s22 s23 s24 s25 s26 s27 s28 s29 s30 s31 s32 s33 s34 s35 s36 s37 : Value, (KeptM [true, false, false, true, true, false, true, false, false, false, false, false, false, false, false, false, false, false, false, false, false, false, false, false, false, false, false, false, false, false, false, false, false, true, true, true, true, true] [s0, s1, s2, s3, s4, s5, s6, s7, s8, s9, s10, s11, s12, s13, s14, s15, s16, s17, s18, s19, s20, s21, s22, s23, s24, s25, s26, s27, s28, s29, s30, s31, s32, s33, s34, s35, s36, s37] KK ∧ (Ext w1 wr ∧ ∃ i : Nat, i ≤ n ∧ s7 = .int .i64 i ∧ ∃ X z, BoxAt wr w1.heap.size 24 #[.slice X i z, .int .i64 (1 - bd)] ∧ Own wr (w1.heap.size + 1) 3 1 X i z ((F.take i).map (Value.int .i64)))) ∧ acT = ⟨#[s0, s1, s2, s3, s4, s5, s6, s7, s8, s9, s10, s11, s12, s13, s14, s15, s16, s17, s18, s19, s20, s21, s22, s23, s24, s25, s26, s27, s28, s29, s30, s31, s32, s33, s34, s35, s36, s37], []⟩) (fun acT wr => (fun (s7 : Value) (wr : World) => n - (intOf s7).toNat) (acT.tmps.getD 7 undef) wr) ?_ ?_
    · (refine ⟨_, _, _, _, _, _, _, _, _, _, _, _, _, _, _, _, _, _, _, _, _, _, _, _, _, _, _, _, _, _, _, _, _, _, _, _, _, _, ⟨(by (repeat (first | exact trivial | refine ⟨rfl, ?_⟩))), ?_⟩, rfl⟩; exact ⟨by (repeat (first | with_reducible exact Ext.refl _ | with_reducible assumption | ((with_reducible refine Ext.setCell ?_ ?_ _); rotate_left; focus (first | omega | (simp <;> omega))) | with_reducible refine Ext.alloc ?_ _ | with_reducible refine Ext.drewN ?_ _ | with_reducible refine Ext.drew ?_ | with_reducible refine Ext.trans ?_ (by with_reducible assumption))), 0, by omega, rfl, _, _, by simpa using h4, by simpa using Own.nil _ _ _ _⟩)
    intro _ wr hinv; obtain ⟨s0, s1, s2, s3, s4, s5, s6, s7, s8, s9, s10, s11, s12, s13, s14, s15, s16, s17, s18, s19, s20, s21, s22, s23, s24, s25, s26, s27, s28, s29, s30, s31, s32, s33, s34, s35, s36, s37, ⟨hkept, hrel⟩, rfl⟩ := hinv; simp only [KeptM] at hkept; obtain ⟨rfl, rfl, rfl, rfl, rfl, rfl, rfl, rfl, rfl, -⟩ := hkept; (try dsimp only)
    clear h4
    obtain ⟨he, i, hi, rfl, X, z, hbx, ho⟩ := hrel
    have hee : Ext w wr := hw1.trans he
    have q0' := he.cell q0
    have q1' := he.cell q1
    have r0' := he.cell r0
    have r1' := he.cell r1
    have f0' := he.frozen (p := ⟨w.heap.size + 1, 0, none⟩) (by simp <;> omega) f0
    have f1' := he.frozen (p := ⟨w.heap.size + 1, 1, none⟩) (by simp <;> omega) f1
    have d0 := hbx.cell 0 _ rfl
    have d1 := hbx.cell 1 _ rfl
    have e0 := hbx.frozen 0
    by_cases hlt : i < n
    · obtain ⟨ad, x, rfl, hx, gc0⟩ := h.at_ hlt
      have hc0 := hee.cell gc0
      have hvx := HX.out x (List.mem_of_getElem? hx.out)
      have hzip := hide (HF.out i x hx).out
      rw [show x * -1 = -x by omega] at hzip
      have hs := he.size
      have hsum := IntWalk.i64_in (-x) (by omega)
      have hbl := hbx.lt
      go_wp2
      have hea : Ext wr (wr.alloc (.cells #[.int .i64 (-x)] 3)).drew := by (repeat (first | with_reducible exact Ext.refl _ | with_reducible assumption | ((with_reducible refine Ext.setCell ?_ ?_ _); rotate_left; focus (first | omega | (simp <;> omega))) | with_reducible refine Ext.alloc ?_ _ | with_reducible refine Ext.drewN ?_ _ | with_reducible refine Ext.drew ?_ | with_reducible refine Ext.trans ?_ (by with_reducible assumption)))
      have a0 := hea.cell q0'; have a1 := hea.cell hc0
      refine wp_region_held_drew (S := (fun w' => w'.cell? ⟨w.heap.size, 0, none⟩ = some (.slice (some ad) n c) ∧ w'.cell? (ad.add i) = some (.int .i64 x))) (by kernel_rfl) ?_ (fun hHeld => ?_)
      · ((try dsimp only); (refine ⟨?_, ?_⟩ <;> first | assumption | (simp [go_sem, *]; done)))
      refine heldTake 0 (v := ?_) rfl (by kernel_rfl) (by kernel_rfl) (by kernel_rfl) (fun _ _ _ h => h) (Or.inl ⟨by rfl, ?_⟩) (by assumption) ?_
      rotate_left 1
      focus (intro wS hSw; (try dsimp only at hSw); go_simp; (try with_reducible rfl))
      (try simp only [Act.put, List.setIfInBounds_toArray, List.set_cons_zero, List.set_cons_succ])
      refine heldTake 2 (v := ?_) rfl (by kernel_rfl) (by kernel_rfl) (by kernel_rfl) (fun _ _ _ h => h) (Or.inl ⟨by rfl, ?_⟩) (by assumption) ?_
      rotate_left 1
      focus (intro wS hSw; (try dsimp only at hSw); go_simp; (try with_reducible rfl))
      (try simp only [Act.put, List.setIfInBounds_toArray, List.set_cons_zero, List.set_cons_succ])
      refine heldTake 3 (v := ?_) rfl (by kernel_rfl) (by kernel_rfl) (by kernel_rfl) (fun _ _ _ h => h) (Or.inl ⟨by rfl, ?_⟩) (by assumption) ?_
      rotate_left 1
      focus (intro wS hSw; (try dsimp only at hSw); go_simp; (try with_reducible rfl))
      (try simp only [Act.put, List.setIfInBounds_toArray, List.set_cons_zero, List.set_cons_succ])
      refine heldTake 4 (v := ?_) rfl (by kernel_rfl) (by kernel_rfl) (by kernel_rfl) (fun _ _ _ h => h) (Or.inl ⟨by rfl, ?_⟩) (by assumption) ?_
      rotate_left 1
      focus (intro wS hSw; (try dsimp only at hSw); go_simp; (try with_reducible rfl))
      (try simp only [Act.put, List.setIfInBounds_toArray, List.set_cons_zero, List.set_cons_succ])
      refine heldTake 5 (v := ?_) rfl (by kernel_rfl) (by kernel_rfl) (by kernel_rfl) (fun _ _ _ h => h) (Or.inl ⟨by rfl, ?_⟩) (by assumption) ?_
      rotate_left 1
      focus (intro wS hSw; (try dsimp only at hSw); go_simp; (try with_reducible rfl))
      (try simp only [Act.put, List.setIfInBounds_toArray, List.set_cons_zero, List.set_cons_succ])
      refine heldTake 6 (v := ?_) rfl (by kernel_rfl) (by kernel_rfl) (by kernel_rfl) (fun _ _ _ h => h) (Or.inl ⟨by rfl, ?_⟩) (by assumption) ?_
      rotate_left 1
      focus (intro wS hSw; (try dsimp only at hSw); go_simp; (try with_reducible rfl))
      (try simp only [Act.put, List.setIfInBounds_toArray, List.set_cons_zero, List.set_cons_succ])
      refine heldTake 7 (v := ?_) rfl (by kernel_rfl) (by kernel_rfl) (by kernel_rfl) (fun _ _ _ h => h) (Or.inl ⟨by rfl, ?_⟩) (by assumption) ?_
      rotate_left 1
      focus (intro wS hSw; (try dsimp only at hSw); go_simp; (try with_reducible rfl))
      (try simp only [Act.put, List.setIfInBounds_toArray, List.set_cons_zero, List.set_cons_succ])
      refine wpAnyH_ready (rs := [1, 8]) (by kernel_rfl) (by simp) ?_
      refine (heldStep 1 rfl (fun K hK => ?_) (heldStep 8 rfl (fun K hK => ?_) AllReadyH.nil))
      · skip
        go_simp
        refine hK.out _ _ ?_ (fun hHeld => ?_)
        · ((try dsimp only); (refine ⟨?_, ?_⟩ <;> first | assumption | (simp [go_sem, *]; done)))
        clear hK K
        (try simp only [Act.put, List.setIfInBounds_toArray, List.set_cons_zero, List.set_cons_succ])
        refine wpAnyH_ready (rs := [8]) (by kernel_rfl) (by simp) ?_
        refine heldStep 8 rfl (fun K hK => ?_) AllReadyH.nil
        go_simp
        refine hK.out _ _ ?_ (fun hHeld => ?_)
        · ((try dsimp only); (refine ⟨?_, ?_⟩ <;> first | assumption | (simp [go_sem, *]; done)))
        clear hK K
        (try simp only [Act.put, List.setIfInBounds_toArray, List.set_cons_zero, List.set_cons_succ])
        refine wpAnyH_ready (rs := [9]) (by kernel_rfl) (by simp) ?_
        refine heldStep 9 rfl (fun K hK => ?_) AllReadyH.nil
        (refine step_app (by rfl) _ _ 22 _ (by rfl) Try.underlying22 _ 1 8 info_int rfl (by decide) (by rfl) (ho.ext hea) wr.heap.size 1 [.int .i64 (-x)] (by rfl) (by rfl) (heap_alloc_new _ _) (by intro u hu; simp at hu; first | (subst hu; rfl) | (rcases hu with rfl | rfl <;> rfl) | (rcases hu with rfl | rfl | rfl <;> rfl)) (by omega) (by omega) (by first | omega | (simp <;> omega)) ?_; intro A' c' w' ho' hg'; obtain ⟨p1, p2, p3, p4, p5⟩ := pushedI (D := 24) (b := w1.heap.size) (he.trans hea) (hbx.ext hea) (ho.ext hea) (by decide) (by first | omega | (simp <;> omega)) (by first | omega | (simp <;> omega)) ho' hg'; have k0 := p2.cell 0 _ rfl; have k1 := p2.frozen 0; have s0 := p1.cell q0; have s1 := (hw1.trans p1).cell gc0; have t0 := p3.cell q0; have t1 := (hw1.trans p3).cell gc0)
        refine hK.out _ _ ?_ (fun hHeld => ?_)
        · ((try dsimp only); (refine ⟨?_, ?_⟩ <;> first | assumption | (simp [go_sem, *]; done)))
        clear hK K
        (try simp only [Act.put, List.setIfInBounds_toArray, List.set_cons_zero, List.set_cons_succ])
        refine heldTake 10 (v := ?_) rfl (by kernel_rfl) (by kernel_rfl) (by kernel_rfl) (fun _ _ _ h => h) (Or.inl ⟨by rfl, ?_⟩) (by assumption) ?_
        rotate_left 1
        focus (intro wS hSw; (try dsimp only at hSw); go_simp; (try with_reducible rfl))
        (try simp only [Act.put, List.setIfInBounds_toArray, List.set_cons_zero, List.set_cons_succ])
        refine wpAnyH_ready (rs := [11]) (by kernel_rfl) (by simp) ?_
        refine heldStep 11 rfl (fun K hK => ?_) AllReadyH.nil
        go_simp
        refine hK.out _ _ ?_ (fun hHeld => ?_)
        · ((try dsimp only); (refine ⟨?_, ?_⟩ <;> first | assumption | (simp [go_sem, *]; done)))
        clear hK K
        (try simp only [Act.put, List.setIfInBounds_toArray, List.set_cons_zero, List.set_cons_succ])
        refine wpAnyH_done (by kernel_rfl) ?_ _
        go_wp2
        exact ⟨⟨(by (repeat (first | exact trivial | refine ⟨rfl, ?_⟩))), p3, i + 1, by omega, by go_num, _, _, by simpa using p4, by rw [hzip.out]; simpa using p5⟩, (by simp [intOf] <;> omega)⟩
      · skip
        go_simp
        refine hK.out _ _ ?_ (fun hHeld => ?_)
        · ((try dsimp only); (refine ⟨?_, ?_⟩ <;> first | assumption | (simp [go_sem, *]; done)))
        clear hK K
        (try simp only [Act.put, List.setIfInBounds_toArray, List.set_cons_zero, List.set_cons_succ])
        refine wpAnyH_ready (rs := [1]) (by kernel_rfl) (by simp) ?_
        refine heldStep 1 rfl (fun K hK => ?_) AllReadyH.nil
        go_simp
        refine hK.out _ _ ?_ (fun hHeld => ?_)
        · ((try dsimp only); (refine ⟨?_, ?_⟩ <;> first | assumption | (simp [go_sem, *]; done)))
        clear hK K
        (try simp only [Act.put, List.setIfInBounds_toArray, List.set_cons_zero, List.set_cons_succ])
        refine wpAnyH_ready (rs := [9]) (by kernel_rfl) (by simp) ?_
        refine heldStep 9 rfl (fun K hK => ?_) AllReadyH.nil
        (refine step_app (by rfl) _ _ 22 _ (by rfl) Try.underlying22 _ 1 8 info_int rfl (by decide) (by rfl) (ho.ext hea) wr.heap.size 1 [.int .i64 (-x)] (by rfl) (by rfl) (heap_alloc_new _ _) (by intro u hu; simp at hu; first | (subst hu; rfl) | (rcases hu with rfl | rfl <;> rfl) | (rcases hu with rfl | rfl | rfl <;> rfl)) (by omega) (by omega) (by first | omega | (simp <;> omega)) ?_; intro A' c' w' ho' hg'; obtain ⟨p1, p2, p3, p4, p5⟩ := pushedI (D := 24) (b := w1.heap.size) (he.trans hea) (hbx.ext hea) (ho.ext hea) (by decide) (by first | omega | (simp <;> omega)) (by first | omega | (simp <;> omega)) ho' hg'; have k0 := p2.cell 0 _ rfl; have k1 := p2.frozen 0; have s0 := p1.cell q0; have s1 := (hw1.trans p1).cell gc0; have t0 := p3.cell q0; have t1 := (hw1.trans p3).cell gc0)
        refine hK.out _ _ ?_ (fun hHeld => ?_)
        · ((try dsimp only); (refine ⟨?_, ?_⟩ <;> first | assumption | (simp [go_sem, *]; done)))
        clear hK K
        (try simp only [Act.put, List.setIfInBounds_toArray, List.set_cons_zero, List.set_cons_succ])
        refine heldTake 10 (v := ?_) rfl (by kernel_rfl) (by kernel_rfl) (by kernel_rfl) (fun _ _ _ h => h) (Or.inl ⟨by rfl, ?_⟩) (by assumption) ?_
        rotate_left 1
        focus (intro wS hSw; (try dsimp only at hSw); go_simp; (try with_reducible rfl))
        (try simp only [Act.put, List.setIfInBounds_toArray, List.set_cons_zero, List.set_cons_succ])
        refine wpAnyH_ready (rs := [11]) (by kernel_rfl) (by simp) ?_
        refine heldStep 11 rfl (fun K hK => ?_) AllReadyH.nil
        go_simp
        refine hK.out _ _ ?_ (fun hHeld => ?_)
        · ((try dsimp only); (refine ⟨?_, ?_⟩ <;> first | assumption | (simp [go_sem, *]; done)))
        clear hK K
        (try simp only [Act.put, List.setIfInBounds_toArray, List.set_cons_zero, List.set_cons_succ])
        refine wpAnyH_done (by kernel_rfl) ?_ _
        go_wp2
        exact ⟨⟨(by (repeat (first | exact trivial | refine ⟨rfl, ?_⟩))), p3, i + 1, by omega, by go_num, _, _, by simpa using p4, by rw [hzip.out]; simpa using p5⟩, (by simp [intOf] <;> omega)⟩
    · obtain rfl : i = n := by omega
      have hlen : F.take i = F := List.take_of_length_le (by have := HFl.out; omega)
      rw [hlen] at ho
      clear hlen
      have hs9 := he.size
      cases g
      · go_wp2_with (go_at_call 61; (with_reducible refine (l16Give_c _ _ _ _ _ F _ ((ho.ints (by omega)).ext (by (repeat (first | with_reducible exact Ext.refl _ | with_reducible assumption | ((with_reducible refine Ext.setCell ?_ ?_ _); rotate_left; focus (first | omega | (simp <;> omega))) | with_reducible refine Ext.alloc ?_ _ | with_reducible refine Ext.drewN ?_ _ | with_reducible refine Ext.drew ?_ | with_reducible refine Ext.trans ?_ (by with_reducible assumption))))) false (by simpa using HG.out)).mono ?_); rintro e w2 ⟨rfl, he2⟩; have r0' := he2.cell r0'; have r1' := he2.cell r1'; have f0' := he2.frozen (p := ⟨w.heap.size + 1, 0, none⟩) (by first | omega | (simp <;> omega)) f0'; have f1' := he2.frozen (p := ⟨w.heap.size + 1, 1, none⟩) (by first | omega | (simp <;> omega)) f1')
        refine bodyPost_ret (v := .tuple #[.agg #[.slice none 0 0, .int .i64 0], .bool false]) (by simp only [results, Try.results24]; simp [go_sem, r0', r1', f0', f1']) rfl ⟨_, _, _, rfl, ObI.nil, ?_⟩
        exact Ext.setCell (Ext.setCell (hee.trans he2) (by first | omega | (simp <;> omega)) _) (by first | omega | (simp <;> omega)) _
      · go_wp2_with (go_at_call 61; (with_reducible refine (l16Give_c _ _ _ _ _ F _ ((ho.ints (by omega)).ext (by (repeat (first | with_reducible exact Ext.refl _ | with_reducible assumption | ((with_reducible refine Ext.setCell ?_ ?_ _); rotate_left; focus (first | omega | (simp <;> omega))) | with_reducible refine Ext.alloc ?_ _ | with_reducible refine Ext.drewN ?_ _ | with_reducible refine Ext.drew ?_ | with_reducible refine Ext.trans ?_ (by with_reducible assumption))))) true (by simpa using HG.out)).mono ?_); rintro e w2 ⟨rfl, he2⟩; have r0' := he2.cell r0'; have r1' := he2.cell r1'; have f0' := he2.frozen (p := ⟨w.heap.size + 1, 0, none⟩) (by first | omega | (simp <;> omega)) f0'; have f1' := he2.frozen (p := ⟨w.heap.size + 1, 1, none⟩) (by first | omega | (simp <;> omega)) f1')
        refine bodyPost_ret (v := .tuple #[.agg #[.slice X i z, .int .i64 (1 - bd)], .bool true]) (by simp only [results, Try.results24]; simp [go_sem, r0', r1', f0', f1']) rfl ⟨_, _, _, rfl, ?_, ?_⟩
        · exact ObI.of (((ho.ext he2).setLow (by first | omega | (simp <;> omega)) _).setLow (by first | omega | (simp <;> omega)) _ |>.lower (by first | omega | (simp <;> omega))) (by omega)
        · exact Ext.setCell (Ext.setCell (hee.trans he2) (by first | omega | (simp <;> omega)) _) (by first | omega | (simp <;> omega)) _
set_option maxRecDepth 100000 in
set_option maxHeartbeats 1600000 in
theorem impl_OppositePlane_o (v bd : Int) (A : Option Addr) (n c : Nat) (xs : List Int) (w : World) (h : Ints w A n xs) :
    Calls Try.prog 26 #[.int .i64 v, .agg #[.slice A n c, .int .i64 bd]] w fun e w' =>
      ∃ A' n' c', e = .returned (.tuple #[.agg #[.slice A' n' c', .int .i64 (if oppOk v bd xs then 1 - bd else 0)], .bool (oppOk v bd xs)]) ∧ ObI 3 w' w.heap.size w'.heap.size A' n' c' (if oppOk v bd xs then xs.map (· * (-1)) else []) ∧ Ext w w' := by
  cases h1 : ineqOk v bd xs
  · have H1 := hide h1
    clear h1
    have hO : oppOk v bd xs = false := by simp [oppOk, H1.out]
    rw [hO]; simp only [Bool.false_eq_true, if_false]; clear hO
    go_enter Try.func26, Try.ntmps26
    go_wp2_with (go_at_call 62; (with_reducible refine (impl_IsInequality_c _ _ _ _ _ xs _ (h.ext (by (repeat (first | with_reducible exact Ext.refl _ | with_reducible assumption | ((with_reducible refine Ext.setCell ?_ ?_ _); rotate_left; focus (first | omega | (simp <;> omega))) | with_reducible refine Ext.alloc ?_ _ | with_reducible refine Ext.drewN ?_ _ | with_reducible refine Ext.drew ?_ | with_reducible refine Ext.trans ?_ (by with_reducible assumption)))))).mono ?_); rw [H1.out]; rintro e w1 ⟨rfl, he1⟩; have r0 := he1.cell (p := ⟨w.heap.size + 1, 0, none⟩) (u := .slice none 0 0) (by simp [go_sem]); have r1 := he1.cell (p := ⟨w.heap.size + 1, 1, none⟩) (u := .int .i64 0) (by simp [go_sem]); have f0 := he1.frozen (p := ⟨w.heap.size + 1, 0, none⟩) (by simp <;> omega) (by simp [go_sem]); have f1 := he1.frozen (p := ⟨w.heap.size + 1, 1, none⟩) (by simp <;> omega) (by simp [go_sem]))
    refine bodyPost_ret (v := .tuple #[.agg #[.slice none 0 0, .int .i64 0], .bool false]) (by simp only [results, Try.results26]; simp [go_sem, r0, r1, f0, f1]) rfl ⟨_, _, _, rfl, ObI.nil, ?_⟩
    exact Ext.setCell (Ext.setCell (Ext.trans (by (repeat (first | with_reducible exact Ext.refl _ | with_reducible assumption | ((with_reducible refine Ext.setCell ?_ ?_ _); rotate_left; focus (first | omega | (simp <;> omega))) | with_reducible refine Ext.alloc ?_ _ | with_reducible refine Ext.drewN ?_ _ | with_reducible refine Ext.drew ?_ | with_reducible refine Ext.trans ?_ (by with_reducible assumption)))) he1) (by first | omega | (simp <;> omega)) _) (by first | omega | (simp <;> omega)) _
  · obtain ⟨-, -, hbd, hxs⟩ := ineq_facts h1
    have hn12 := ineq_len h1 h.len
    have hO : oppOk v bd xs = ineqOk v (1 - bd) (xs.map (· * (-1))) := by simp [oppOk, h1]
    rw [hO]; clear hO
    have H1 := hide h1
    clear h1
    have hc := fun W (he : Ext w W) => scalePlane_c A n c bd xs (-1) W (h.ext he) hn12 hxs hbd (by omega)
    have hFl : n = (xs.map (· * (-1))).length := by rw [List.length_map]; exact h.len
    generalize xs.map (· * (-1)) = F at *
    obtain ⟨be, hbe⟩ : ∃ be, be = bd * -1 := ⟨_, rfl⟩
    rw [← hbe] at hc
    have hbe1 : 1 - bd = be + 1 := by omega
    have hbe2 : -10000 ≤ be ∧ be ≤ 10000 := by omega
    clear hbe
    rw [hbe1]
    clear hbe1 hxs
    have HC := hide hc
    have HFl := hide hFl
    clear hc hFl
    cases h3 : ineqOk v (be + 1) F
    all_goals
      have H3 := hide h3
      clear h3
      first | simp only [Bool.false_eq_true, if_false] | simp only [if_true]
      go_enter Try.func26, Try.ntmps26
      go_wp2_with (first | (go_at_call 62; (with_reducible refine (impl_IsInequality_c _ _ _ _ _ xs _ (h.ext (by (repeat (first | with_reducible exact Ext.refl _ | with_reducible assumption | ((with_reducible refine Ext.setCell ?_ ?_ _); rotate_left; focus (first | omega | (simp <;> omega))) | with_reducible refine Ext.alloc ?_ _ | with_reducible refine Ext.drewN ?_ _ | with_reducible refine Ext.drew ?_ | with_reducible refine Ext.trans ?_ (by with_reducible assumption)))))).mono ?_); rw [H1.out]; rintro e w1 ⟨rfl, he1⟩; have q0 := he1.cell (p := ⟨w.heap.size, 0, none⟩) (u := .slice A n c) (by simp [go_sem]); have q1 := he1.cell (p := ⟨w.heap.size, 1, none⟩) (u := .int .i64 bd) (by simp [go_sem]); have r0 := he1.cell (p := ⟨w.heap.size + 1, 0, none⟩) (u := .slice none 0 0) (by simp [go_sem]); have r1 := he1.cell (p := ⟨w.heap.size + 1, 1, none⟩) (u := .int .i64 0) (by simp [go_sem]); have f0 := he1.frozen (p := ⟨w.heap.size + 1, 0, none⟩) (by simp <;> omega) (by simp [go_sem]); have f1 := he1.frozen (p := ⟨w.heap.size + 1, 1, none⟩) (by simp <;> omega) (by simp [go_sem]); have hw1 : Ext w w1 := Ext.trans (by (repeat (first | with_reducible exact Ext.refl _ | with_reducible assumption | ((with_reducible refine Ext.setCell ?_ ?_ _); rotate_left; focus (first | omega | (simp <;> omega))) | with_reducible refine Ext.alloc ?_ _ | with_reducible refine Ext.drewN ?_ _ | with_reducible refine Ext.drew ?_ | with_reducible refine Ext.trans ?_ (by with_reducible assumption)))) he1; have z1 := he1.size; simp at z1) | (go_at_call 63; (with_reducible refine (HC.out _ hw1).mono ?_); rintro e w2 ⟨A1, c1, rfl, ho1, he2⟩; have r0 := he2.cell r0; have r1 := he2.cell r1; have f0 := he2.frozen (p := ⟨w.heap.size + 1, 0, none⟩) (by first | omega | (simp <;> omega)) f0; have f1 := he2.frozen (p := ⟨w.heap.size + 1, 1, none⟩) (by first | omega | (simp <;> omega)) f1; have hw2 := hw1.trans he2; have z2 := he2.size) | (go_at_call 64; (with_reducible refine (checkedPlane_c _ _ _ _ _ F _ ((ho1.ints (by omega)).ext (by (repeat (first | with_reducible exact Ext.refl _ | with_reducible assumption | ((with_reducible refine Ext.setCell ?_ ?_ _); rotate_left; focus (first | omega | (simp <;> omega))) | with_reducible refine Ext.alloc ?_ _ | with_reducible refine Ext.drewN ?_ _ | with_reducible refine Ext.drew ?_ | with_reducible refine Ext.trans ?_ (by with_reducible assumption))))) _ H3.out).mono ?_); rintro e w3 ⟨rfl, he3⟩; have hx3 : Ext w2 w3 := Ext.trans (by (repeat (first | with_reducible exact Ext.refl _ | with_reducible assumption | ((with_reducible refine Ext.setCell ?_ ?_ _); rotate_left; focus (first | omega | (simp <;> omega))) | with_reducible refine Ext.alloc ?_ _ | with_reducible refine Ext.drewN ?_ _ | with_reducible refine Ext.drew ?_ | with_reducible refine Ext.trans ?_ (by with_reducible assumption)))) he3; have r0 := hx3.cell r0; have r1 := hx3.cell r1; have f0 := hx3.frozen (p := ⟨w.heap.size + 1, 0, none⟩) (by first | omega | (simp <;> omega)) f0; have f1 := hx3.frozen (p := ⟨w.heap.size + 1, 1, none⟩) (by first | omega | (simp <;> omega)) f1))
    · refine bodyPost_ret (v := .tuple #[.agg #[.slice none 0 0, .int .i64 0], .bool false]) (by simp only [results, Try.results26]; simp [go_sem, r0, r1, f0, f1]) rfl ⟨_, _, _, rfl, ObI.nil, ?_⟩
      exact Ext.setCell (Ext.setCell (Ext.trans (by (repeat (first | with_reducible exact Ext.refl _ | with_reducible assumption | ((with_reducible refine Ext.setCell ?_ ?_ _); rotate_left; focus (first | omega | (simp <;> omega))) | with_reducible refine Ext.alloc ?_ _ | with_reducible refine Ext.drewN ?_ _ | with_reducible refine Ext.drew ?_ | with_reducible refine Ext.trans ?_ (by with_reducible assumption)))) he3) (by first | omega | (simp <;> omega)) _) (by first | omega | (simp <;> omega)) _
    · refine bodyPost_ret (v := .tuple #[.agg #[.slice A1 n c1, .int .i64 (be + 1)], .bool true]) (by simp only [results, Try.results26]; simp [go_sem, r0, r1, f0, f1]) rfl ⟨_, _, _, rfl, ?_, ?_⟩
      · exact ObI.of (((ho1.ext (Ext.trans (by (repeat (first | with_reducible exact Ext.refl _ | with_reducible assumption | ((with_reducible refine Ext.setCell ?_ ?_ _); rotate_left; focus (first | omega | (simp <;> omega))) | with_reducible refine Ext.alloc ?_ _ | with_reducible refine Ext.drewN ?_ _ | with_reducible refine Ext.drew ?_ | with_reducible refine Ext.trans ?_ (by with_reducible assumption)))) he3)).setLow (by first | omega | (simp <;> omega)) _).setLow (by first | omega | (simp <;> omega)) _ |>.lower (by first | omega | (simp <;> omega))) (by omega)
      · exact Ext.setCell (Ext.setCell (Ext.trans (by (repeat (first | with_reducible exact Ext.refl _ | with_reducible assumption | ((with_reducible refine Ext.setCell ?_ ?_ _); rotate_left; focus (first | omega | (simp <;> omega))) | with_reducible refine Ext.alloc ?_ _ | with_reducible refine Ext.drewN ?_ _ | with_reducible refine Ext.drew ?_ | with_reducible refine Ext.trans ?_ (by with_reducible assumption)))) he3) (by first | omega | (simp <;> omega)) _) (by first | omega | (simp <;> omega)) _
end Go.Proofs.Ytencjnddhokgaaa
