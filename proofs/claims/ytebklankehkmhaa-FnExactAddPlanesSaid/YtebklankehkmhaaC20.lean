/-
  The quotient of an inequality, as the reference reckons it.
-/
import Derived.Test.YtebklankehkmhaaC19
import Derived.Test.YtebklankehkmhaaC14
namespace Go.Proofs.Ytebklankehkmhaa
set_option linter.unusedSimpArgs false
set_option linter.unusedVariables false
open Go.RowKit

set_option maxRecDepth 100000 in
set_option maxHeartbeats 1600000 in
theorem l16Divide_c (A : Option Addr) (n c : Nat) (bd : Int) (xs : List Int) (k : Int) (w : World) (h : Ints w A n xs) (hn : n ≤ 12) (hxs : ∀ x ∈ xs, -1000 ≤ x ∧ x ≤ 1000) (hbd : -10000 ≤ bd ∧ bd ≤ 10000) (hk : 1 ≤ k ∧ k ≤ 1000) (g : Bool) (hg : xs.all (fun x => x.tmod k == 0) = g) :
    Calls Try.prog 128 #[.agg #[.slice A n c, .int .i64 bd], .int .i64 k] w fun e w' =>
      ∃ A' m c', e = .returned (.tuple #[.agg #[.slice A' m c', .int .i64 (if g then upDiv bd k else 0)], .bool g]) ∧ Own w' w.heap.size 3 1 A' m c' ((if g then xs.map (·.tdiv k) else []).map (Value.int .i64)) ∧ m ≤ 12 ∧ Ext w w' := by
  have HX := hide hxs
  have HL := hide h.len
  have HG := hide hg
  clear hxs hg
  have hF := fun (i : Nat) (x : Int) hx => map_take_succ (f := (·.tdiv k)) (xs := xs) (i := i) (x := x) hx
  have hFl : (xs.map (·.tdiv k)).length = n := by rw [List.length_map]; have := HL.out; omega
  generalize xs.map (·.tdiv k) = F at hF hFl ⊢
  obtain ⟨ub, hub⟩ : ∃ ub, ub = upDiv bd k := ⟨_, rfl⟩
  rw [← hub]
  have HU := hide hub
  have HF := hide hF
  have HFl := hide hFl
  clear hF hFl hub
  go_enter Try.func128, Try.ntmps128
  go_wp2_with (go_at_call 160; refine (l16Up_c _ _ _ ?_ hk).mono ?_; omega; rw [← HU.out]; rintro e w' ⟨rfl, rfl⟩)
  have h4 := BoxAt.made ((w.alloc (.cells #[.slice A n c, .int .i64 bd] 26)).alloc (.cells #[.slice none 0 0, .int .i64 0] 26)) #[.slice none 0 0, .int .i64 ub] 26
  refine wp_loopK _ rfl (fun KK acT wr => ∃ s0 s1 s2 s3 s4 s5 s6 s7 s8 s9 s10 s11 s12 s13 s14 s15 s16 s17 s18 s19 s20 s21 s22 s23 s24 s25 s26 s27 s28 s29 s30 s31 s32 s33 s34 s35 s36 s37 s38 s39 s40 s41 : Value, (KeptM [false, true, true, false, true, false, true, false, false, false, false, false, false, false, false, false, false, false, false, false, false, false, false, false, false, false, false, false, false, false, false, false, false, false, false, false, false, false, false, false, false, true] [s0, s1, s2, s3, s4, s5, s6, s7, s8, s9, s10, s11, s12, s13, s14, s15, s16, s17, s18, s19, s20, s21, s22, s23, s24, s25, s26, s27, s28, s29, s30, s31, s32, s33, s34, s35, s36, s37, s38, s39, s40, s41] KK ∧ (Ext ((w.alloc (.cells #[.slice A n c, .int .i64 bd] 26)).alloc (.cells #[.slice none 0 0, .int .i64 0] 26)) wr ∧ ∃ i : Nat, i ≤ n ∧ s7 = .int .i64 i ∧ Hid ((xs.take i).all (fun x => x.tmod k == 0) = true) ∧ ∃ X z, BoxAt wr (w.heap.size + 1 + 1) 26 #[.slice X i z, .int .i64 ub] ∧ Own wr (w.heap.size + 1 + 1 + 1) 3 1 X i z ((F.take i).map (Value.int .i64)))) ∧ acT = ⟨#[s0, s1, s2, s3, s4, s5, s6, s7, s8, s9, s10, s11, s12, s13, s14, s15, s16, s17, s18, s19, s20, s21, s22, s23, s24, s25, s26, s27, s28, s29, s30, s31, s32, s33, s34, s35, s36, s37, s38, s39, s40, s41], []⟩) (fun acT wr => (fun (s7 : Value) (wr : World) => n - (intOf s7).toNat) (acT.tmps.getD 7 undef) wr) ?_ ?_
  · (refine ⟨_, _, _, _, _, _, _, _, _, _, _, _, _, _, _, _, _, _, _, _, _, _, _, _, _, _, _, _, _, _, _, _, _, _, _, _, _, _, _, _, _, _, ⟨(by (repeat (first | exact trivial | refine ⟨rfl, ?_⟩))), ?_⟩, rfl⟩; exact ⟨by (repeat (first | with_reducible exact Ext.refl _ | with_reducible assumption | ((with_reducible refine Ext.setCell ?_ ?_ _); rotate_left; focus (first | omega | (simp <;> omega))) | with_reducible refine Ext.alloc ?_ _ | with_reducible refine Ext.drewN ?_ _ | with_reducible refine Ext.drew ?_ | with_reducible refine Ext.trans ?_ (by with_reducible assumption))), 0, by omega, rfl, by simp [Hid], _, _, by simpa using h4, by simpa using Own.nil _ _ _ _⟩)
  intro _ wr hinv; obtain ⟨s0, s1, s2, s3, s4, s5, s6, s7, s8, s9, s10, s11, s12, s13, s14, s15, s16, s17, s18, s19, s20, s21, s22, s23, s24, s25, s26, s27, s28, s29, s30, s31, s32, s33, s34, s35, s36, s37, s38, s39, s40, s41, ⟨hkept, hrel⟩, rfl⟩ := hinv; simp only [KeptM] at hkept; obtain ⟨rfl, rfl, rfl, rfl, rfl, -⟩ := hkept; (try dsimp only)
  clear h4
  obtain ⟨he, i, hi, rfl, hal, X, z, hbx, ho⟩ := hrel
  have hee : Ext w wr := Ext.trans (by (repeat (first | with_reducible exact Ext.refl _ | with_reducible assumption | ((with_reducible refine Ext.setCell ?_ ?_ _); rotate_left; focus (first | omega | (simp <;> omega))) | with_reducible refine Ext.alloc ?_ _ | with_reducible refine Ext.drewN ?_ _ | with_reducible refine Ext.drew ?_ | with_reducible refine Ext.trans ?_ (by with_reducible assumption)))) he
  have bc0 := he.cell (p := ⟨w.heap.size, 0, none⟩) (u := .slice A n c) (by first | simp [go_sem] | simp [go_sem, *]); have bf0 := he.frozen (p := ⟨w.heap.size, 0, none⟩) (by first | omega | (simp <;> omega)) (by first | simp [go_sem] | simp [go_sem, *]); have bc1 := he.cell (p := ⟨w.heap.size, 1, none⟩) (u := .int .i64 bd) (by first | simp [go_sem] | simp [go_sem, *]); have bf1 := he.frozen (p := ⟨w.heap.size, 1, none⟩) (by first | omega | (simp <;> omega)) (by first | simp [go_sem] | simp [go_sem, *]); have bc2 := he.cell (p := ⟨w.heap.size + 1, 0, none⟩) (u := .slice none 0 0) (by first | simp [go_sem] | simp [go_sem, *]); have bf2 := he.frozen (p := ⟨w.heap.size + 1, 0, none⟩) (by first | omega | (simp <;> omega)) (by first | simp [go_sem] | simp [go_sem, *]); have bc3 := he.cell (p := ⟨w.heap.size + 1, 1, none⟩) (u := .int .i64 0) (by first | simp [go_sem] | simp [go_sem, *]); have bf3 := he.frozen (p := ⟨w.heap.size + 1, 1, none⟩) (by first | omega | (simp <;> omega)) (by first | simp [go_sem] | simp [go_sem, *])
  have d0 := hbx.cell 0 _ rfl
  have d1 := hbx.cell 1 _ rfl
  have e0 := hbx.frozen 0
  by_cases hlt : i < n
  · obtain ⟨ad, x, rfl, hx, gc0⟩ := h.at_ hlt
    have hc0 := hee.cell gc0
    have hvx := HX.out x (List.mem_of_getElem? hx.out)
    have hs := he.size
    simp at hs
    have htd := tdiv_small x k hk.1
    have htb : -1000 ≤ x.tdiv k ∧ x.tdiv k ≤ 1000 := by omega
    clear htd
    cases hpx : (x.tmod k == 0)
    · have hgf : g = false := by rw [← HG.out]; exact all_false_of hx hpx
      subst hgf
      have hpx' : (x.tmod k != 0) = true := by simpa using hpx
      clear hpx
      go_wp2
      refine bodyPost_ret (v := .tuple #[.agg #[.slice none 0 0, .int .i64 0], .bool false]) (by simp [results, Try.results128, go_sem, *]) rfl ⟨_, _, _, rfl, by simpa using Own.nil _ _ _ _, by omega, ?_⟩
      exact Ext.setCell (Ext.setCell hee (by first | omega | (simp <;> omega)) _) (by first | omega | (simp <;> omega)) _
    · have hzip := hide (HF.out i x hx).out
      have hal' := all_take_succ (p := fun x => x.tmod k == 0) hx hal hpx
      have hpx' : (x.tmod k != 0) = false := by simpa using hpx
      clear hpx
      have hsum := IntWalk.i64_in (x.tdiv k) (by omega)
      have hk0 : ¬ (k = 0) := by omega
      have hbl := hbx.lt
      go_wp2
      have hea : Ext wr (wr.alloc (.cells #[.int .i64 (x.tdiv k)] 3)).drew := by (repeat (first | with_reducible exact Ext.refl _ | with_reducible assumption | ((with_reducible refine Ext.setCell ?_ ?_ _); rotate_left; focus (first | omega | (simp <;> omega))) | with_reducible refine Ext.alloc ?_ _ | with_reducible refine Ext.drewN ?_ _ | with_reducible refine Ext.drew ?_ | with_reducible refine Ext.trans ?_ (by with_reducible assumption)))
      have a0 := hea.cell (he.cell (p := ⟨w.heap.size, 0, none⟩) (u := .slice (some ad) n c) (by simp [go_sem])); have a1 := hea.cell (hc0)
      refine wp_region_held_drew (S := (fun w' => w'.cell? ⟨w.heap.size, 0, none⟩ = some (.slice (some ad) n c) ∧ w'.cell? (ad.add i) = some (.int .i64 x))) (by kernel_rfl) ?_ (fun hHeld => ?_)
      · ((try dsimp only); (refine ⟨?_, ?_⟩ <;> first | assumption | (simp [go_sem, *]; done)))
      refine heldTake 0 (v := ?_) rfl (by kernel_rfl) (by kernel_rfl) (by kernel_rfl) (fun _ _ _ h => h) (Or.inl ⟨by rfl, ?_⟩) (by assumption) ?_
      rotate_left 1
      focus (intro wS hSw; (try dsimp only at hSw); go_simp; (try with_reducible rfl))
      (try simp only [Act.put, List.setIfInBounds_toArray, List.set_cons_zero, List.set_cons_succ])
      refine heldTake 2 (v := ?_) rfl (by kernel_rfl) (by kernel_rfl) (by kernel_rfl) (fun _ _ _ h => h) (Or.inl ⟨by rfl, ?_⟩) (by assumption) ?_
      rotate_left 1
      focus (intro wS hSw; (try dsimp only at hSw); go_simp; (try with_reducible rfl))
      (try simp only [Act.put, List.setIfInBounds_toArray, List.set_cons_zero, List.set_cons_succ])
      refine heldTake 3 (v := ?_) rfl (by kernel_rfl) (by kernel_rfl) (by kernel_rfl) (fun _ _ _ h => h) (Or.inl ⟨by rfl, ?_⟩) (by assumption) ?_
      rotate_left 1
      focus (intro wS hSw; (try dsimp only at hSw); go_simp; (try with_reducible rfl))
      (try simp only [Act.put, List.setIfInBounds_toArray, List.set_cons_zero, List.set_cons_succ])
      refine heldTake 4 (v := ?_) rfl (by kernel_rfl) (by kernel_rfl) (by kernel_rfl) (fun _ _ _ h => h) (Or.inl ⟨by rfl, ?_⟩) (by assumption) ?_
      rotate_left 1
      focus (intro wS hSw; (try dsimp only at hSw); go_simp; (try with_reducible rfl))
      (try simp only [Act.put, List.setIfInBounds_toArray, List.set_cons_zero, List.set_cons_succ])
      refine heldTake 5 (v := ?_) rfl (by kernel_rfl) (by kernel_rfl) (by kernel_rfl) (fun _ _ _ h => h) (Or.inl ⟨by rfl, ?_⟩) (by assumption) ?_
      rotate_left 1
      focus (intro wS hSw; (try dsimp only at hSw); go_simp; (try with_reducible rfl))
      (try simp only [Act.put, List.setIfInBounds_toArray, List.set_cons_zero, List.set_cons_succ])
      refine heldTake 6 (v := ?_) rfl (by kernel_rfl) (by kernel_rfl) (by kernel_rfl) (fun _ _ _ h => h) (Or.inl ⟨by rfl, ?_⟩) (by assumption) ?_
      rotate_left 1
      focus (intro wS hSw; (try dsimp only at hSw); go_simp; (try with_reducible rfl))
      (try simp only [Act.put, List.setIfInBounds_toArray, List.set_cons_zero, List.set_cons_succ])
      refine heldTake 7 (v := ?_) rfl (by kernel_rfl) (by kernel_rfl) (by kernel_rfl) (fun _ _ _ h => h) (Or.inl ⟨by rfl, ?_⟩) (by assumption) ?_
      rotate_left 1
      focus (intro wS hSw; (try dsimp only at hSw); go_simp; (try with_reducible rfl))
      (try simp only [Act.put, List.setIfInBounds_toArray, List.set_cons_zero, List.set_cons_succ])
      refine heldTake 8 (v := ?_) rfl (by kernel_rfl) (by kernel_rfl) (by kernel_rfl) (fun _ _ _ h => h) (Or.inl ⟨by rfl, ?_⟩) (by assumption) ?_
      rotate_left 1
      focus (intro wS hSw; (try dsimp only at hSw); go_simp; (try with_reducible rfl))
      (try simp only [Act.put, List.setIfInBounds_toArray, List.set_cons_zero, List.set_cons_succ])
      refine wpAnyH_ready (rs := [1, 9]) (by kernel_rfl) (by simp) ?_
      refine (heldStep 1 rfl (fun K hK => ?_) (heldStep 9 rfl (fun K hK => ?_) AllReadyH.nil))
      · skip
        go_simp
        refine hK.out _ _ ?_ (fun hHeld => ?_)
        · ((try dsimp only); (refine ⟨?_, ?_⟩ <;> first | assumption | (simp [go_sem, *]; done)))
        clear hK K
        (try simp only [Act.put, List.setIfInBounds_toArray, List.set_cons_zero, List.set_cons_succ])
        refine wpAnyH_ready (rs := [9]) (by kernel_rfl) (by simp) ?_
        refine heldStep 9 rfl (fun K hK => ?_) AllReadyH.nil
        go_simp
        refine hK.out _ _ ?_ (fun hHeld => ?_)
        · ((try dsimp only); (refine ⟨?_, ?_⟩ <;> first | assumption | (simp [go_sem, *]; done)))
        clear hK K
        (try simp only [Act.put, List.setIfInBounds_toArray, List.set_cons_zero, List.set_cons_succ])
        refine wpAnyH_ready (rs := [10]) (by kernel_rfl) (by simp) ?_
        refine heldStep 10 rfl (fun K hK => ?_) AllReadyH.nil
        (refine step_app (by rfl) _ _ 22 _ (by rfl) Try.underlying22 _ 1 8 info_int rfl (by decide) (by rfl) (ho.ext hea) wr.heap.size 1 [.int .i64 (x.tdiv k)] (by rfl) (by rfl) (heap_alloc_new _ _) (by intro u hu; simp at hu; first | (subst hu; rfl) | (rcases hu with rfl | rfl <;> rfl) | (rcases hu with rfl | rfl | rfl <;> rfl)) (by omega) (by omega) (by first | omega | (simp <;> omega)) ?_; intro A' c' w' ho' hg'; obtain ⟨p1, p2, p3, p4, p5⟩ := pushedI (D := 26) (b := w.heap.size + 1 + 1) (he.trans hea) (hbx.ext hea) (ho.ext hea) (by decide) (by first | omega | (simp <;> omega)) (by first | omega | (simp <;> omega)) ho' hg'; have q0 := p2.cell 0 _ rfl; have q1 := p2.frozen 0; have q4 : Ext w w' := Ext.trans (by (repeat (first | with_reducible exact Ext.refl _ | with_reducible assumption | ((with_reducible refine Ext.setCell ?_ ?_ _); rotate_left; focus (first | omega | (simp <;> omega))) | with_reducible refine Ext.alloc ?_ _ | with_reducible refine Ext.drewN ?_ _ | with_reducible refine Ext.drew ?_ | with_reducible refine Ext.trans ?_ (by with_reducible assumption)))) p1; have r4 : Ext w (w'.setCell ⟨w.heap.size + 1 + 1, 0, none⟩ (.slice A' (i + 1) c')) := Ext.trans (by (repeat (first | with_reducible exact Ext.refl _ | with_reducible assumption | ((with_reducible refine Ext.setCell ?_ ?_ _); rotate_left; focus (first | omega | (simp <;> omega))) | with_reducible refine Ext.alloc ?_ _ | with_reducible refine Ext.drewN ?_ _ | with_reducible refine Ext.drew ?_ | with_reducible refine Ext.trans ?_ (by with_reducible assumption)))) p3; have s0 := p1.cell (p := ⟨w.heap.size, 0, none⟩) (u := .slice (some ad) n c) (by simp [go_sem]); have s1 := q4.cell gc0; have t1 := r4.cell gc0)
        refine hK.out _ _ ?_ (fun hHeld => ?_)
        · ((try dsimp only); (refine ⟨?_, ?_⟩ <;> first | assumption | (simp [go_sem, *]; done)))
        clear hK K
        (try simp only [Act.put, List.setIfInBounds_toArray, List.set_cons_zero, List.set_cons_succ])
        refine heldTake 11 (v := ?_) rfl (by kernel_rfl) (by kernel_rfl) (by kernel_rfl) (fun _ _ _ h => h) (Or.inl ⟨by rfl, ?_⟩) (by assumption) ?_
        rotate_left 1
        focus (intro wS hSw; (try dsimp only at hSw); go_simp; (try with_reducible rfl))
        (try simp only [Act.put, List.setIfInBounds_toArray, List.set_cons_zero, List.set_cons_succ])
        refine wpAnyH_ready (rs := [12]) (by kernel_rfl) (by simp) ?_
        refine heldStep 12 rfl (fun K hK => ?_) AllReadyH.nil
        go_simp
        refine hK.out _ _ ?_ (fun hHeld => ?_)
        · ((try dsimp only); (refine ⟨?_, ?_⟩ <;> first | assumption | (simp [go_sem, *]; done)))
        clear hK K
        (try simp only [Act.put, List.setIfInBounds_toArray, List.set_cons_zero, List.set_cons_succ])
        refine wpAnyH_done (by kernel_rfl) ?_ _
        go_wp2
        exact ⟨⟨(by (repeat (first | exact trivial | refine ⟨rfl, ?_⟩))), p3, i + 1, by omega, by go_num, hal', _, _, by simpa using p4, by rw [hzip.out]; simpa using p5⟩, (by simp [intOf] <;> omega)⟩
      · skip
        go_simp
        refine hK.out _ _ ?_ (fun hHeld => ?_)
        · ((try dsimp only); (refine ⟨?_, ?_⟩ <;> first | assumption | (simp [go_sem, *]; done)))
        clear hK K
        (try simp only [Act.put, List.setIfInBounds_toArray, List.set_cons_zero, List.set_cons_succ])
        refine wpAnyH_ready (rs := [1]) (by kernel_rfl) (by simp) ?_
        refine heldStep 1 rfl (fun K hK => ?_) AllReadyH.nil
        go_simp
        refine hK.out _ _ ?_ (fun hHeld => ?_)
        · ((try dsimp only); (refine ⟨?_, ?_⟩ <;> first | assumption | (simp [go_sem, *]; done)))
        clear hK K
        (try simp only [Act.put, List.setIfInBounds_toArray, List.set_cons_zero, List.set_cons_succ])
        refine wpAnyH_ready (rs := [10]) (by kernel_rfl) (by simp) ?_
        refine heldStep 10 rfl (fun K hK => ?_) AllReadyH.nil
        (refine step_app (by rfl) _ _ 22 _ (by rfl) Try.underlying22 _ 1 8 info_int rfl (by decide) (by rfl) (ho.ext hea) wr.heap.size 1 [.int .i64 (x.tdiv k)] (by rfl) (by rfl) (heap_alloc_new _ _) (by intro u hu; simp at hu; first | (subst hu; rfl) | (rcases hu with rfl | rfl <;> rfl) | (rcases hu with rfl | rfl | rfl <;> rfl)) (by omega) (by omega) (by first | omega | (simp <;> omega)) ?_; intro A' c' w' ho' hg'; obtain ⟨p1, p2, p3, p4, p5⟩ := pushedI (D := 26) (b := w.heap.size + 1 + 1) (he.trans hea) (hbx.ext hea) (ho.ext hea) (by decide) (by first | omega | (simp <;> omega)) (by first | omega | (simp <;> omega)) ho' hg'; have q0 := p2.cell 0 _ rfl; have q1 := p2.frozen 0; have q4 : Ext w w' := Ext.trans (by (repeat (first | with_reducible exact Ext.refl _ | with_reducible assumption | ((with_reducible refine Ext.setCell ?_ ?_ _); rotate_left; focus (first | omega | (simp <;> omega))) | with_reducible refine Ext.alloc ?_ _ | with_reducible refine Ext.drewN ?_ _ | with_reducible refine Ext.drew ?_ | with_reducible refine Ext.trans ?_ (by with_reducible assumption)))) p1; have r4 : Ext w (w'.setCell ⟨w.heap.size + 1 + 1, 0, none⟩ (.slice A' (i + 1) c')) := Ext.trans (by (repeat (first | with_reducible exact Ext.refl _ | with_reducible assumption | ((with_reducible refine Ext.setCell ?_ ?_ _); rotate_left; focus (first | omega | (simp <;> omega))) | with_reducible refine Ext.alloc ?_ _ | with_reducible refine Ext.drewN ?_ _ | with_reducible refine Ext.drew ?_ | with_reducible refine Ext.trans ?_ (by with_reducible assumption)))) p3; have s0 := p1.cell (p := ⟨w.heap.size, 0, none⟩) (u := .slice (some ad) n c) (by simp [go_sem]); have s1 := q4.cell gc0; have t1 := r4.cell gc0)
        refine hK.out _ _ ?_ (fun hHeld => ?_)
        · ((try dsimp only); (refine ⟨?_, ?_⟩ <;> first | assumption | (simp [go_sem, *]; done)))
        clear hK K
        (try simp only [Act.put, List.setIfInBounds_toArray, List.set_cons_zero, List.set_cons_succ])
        refine heldTake 11 (v := ?_) rfl (by kernel_rfl) (by kernel_rfl) (by kernel_rfl) (fun _ _ _ h => h) (Or.inl ⟨by rfl, ?_⟩) (by assumption) ?_
        rotate_left 1
        focus (intro wS hSw; (try dsimp only at hSw); go_simp; (try with_reducible rfl))
        (try simp only [Act.put, List.setIfInBounds_toArray, List.set_cons_zero, List.set_cons_succ])
        refine wpAnyH_ready (rs := [12]) (by kernel_rfl) (by simp) ?_
        refine heldStep 12 rfl (fun K hK => ?_) AllReadyH.nil
        go_simp
        refine hK.out _ _ ?_ (fun hHeld => ?_)
        · ((try dsimp only); (refine ⟨?_, ?_⟩ <;> first | assumption | (simp [go_sem, *]; done)))
        clear hK K
        (try simp only [Act.put, List.setIfInBounds_toArray, List.set_cons_zero, List.set_cons_succ])
        refine wpAnyH_done (by kernel_rfl) ?_ _
        go_wp2
        exact ⟨⟨(by (repeat (first | exact trivial | refine ⟨rfl, ?_⟩))), p3, i + 1, by omega, by go_num, hal', _, _, by simpa using p4, by rw [hzip.out]; simpa using p5⟩, (by simp [intOf] <;> omega)⟩
  · obtain rfl : i = n := by omega
    have hlen : F.take i = F := List.take_of_length_le (by have := HFl.out; omega)
    have hgt : g = true := by rw [← HG.out]; exact all_take_all hal (by have := HL.out; omega)
    subst hgt
    rw [hlen] at ho
    clear hlen
    go_wp2
    refine bodyPost_ret (v := .tuple #[.agg #[.slice X i z, .int .i64 ub], .bool true]) (by simp [results, Try.results128, go_sem, *]) rfl ⟨_, _, _, rfl, ?_, hn, ?_⟩
    · exact ((ho.setLow (by first | omega | (simp <;> omega)) _).setLow (by first | omega | (simp <;> omega)) _).lower (by first | omega | (simp <;> omega))
    · exact Ext.setCell (Ext.setCell hee (by first | omega | (simp <;> omega)) _) (by first | omega | (simp <;> omega)) _


end Go.Proofs.Ytebklankehkmhaa
