/-
  Sums, multiples and quotients of inequalities.
-/
import Derived.Test.YtebklankehkmhaaO
import Derived.Test.YtebklankehkmhaaC8
import Derived.Deep.RegionLaw
namespace Go.Proofs.Ytebklankehkmhaa
set_option linter.unusedSimpArgs false
set_option linter.unusedVariables false
open Go.RowKit

/-- One int appended to a row of the call's own behind a box. -/
theorem pushedI {w wr w' : World} {b base : Nat} {D e : TypeId} {A A' : Option Addr} {n c c' : Nat} {cs : Array Value} {us vs : List Value}
    (he : Ext w wr) (hbx : BoxAt wr b D cs) (ho : Own wr base e 1 A n c us) (hD : D ≠ e) (hlo : w.heap.size ≤ base) (hb : w.heap.size ≤ b)
    (ho' : Own w' base e 1 A' (n + 1) c' vs) (hg' : wr.grownBy w' (Value.slice A n c).ownBlock) :
    Ext w w' ∧ BoxAt w' b D cs ∧ Ext w (w'.setCell ⟨b, 0, none⟩ (.slice A' (n + 1) c')) ∧ BoxAt (w'.setCell ⟨b, 0, none⟩ (.slice A' (n + 1) c')) b D (cs.setIfInBounds 0 (.slice A' (n + 1) c')) ∧
      Own (w'.setCell ⟨b, 0, none⟩ (.slice A' (n + 1) c')) base e 1 A' (n + 1) c' vs := by
  have hbx' := hbx.grown ho hD hg'
  have hee : Ext w w' := Ext.trans_own he hlo ho hg'
  exact ⟨hee, hbx', hee.setCell hb _, hbx'.set 0 _, ho'.storeOther (p := ⟨b, 0, none⟩) _ (fun e => hbx'.ne ho' hD e)⟩

theorem zip_take_succ {f : Int → Int → Int} {xs ys : List Int} {i : Nat} {x y : Int} (hx : Hid (xs[i]? = some x)) (hy : Hid (ys[i]? = some y)) :
    Hid ((List.zipWith f xs ys).take (i + 1) = (List.zipWith f xs ys).take i ++ [f x y]) :=
  take_succ_of (hide (by rw [List.getElem?_zipWith, hx.out, hy.out]))
theorem map_take_succ {f : Int → Int} {xs : List Int} {i : Nat} {x : Int} (hx : Hid (xs[i]? = some x)) :
    Hid ((xs.map f).take (i + 1) = (xs.map f).take i ++ [f x]) :=
  take_succ_of (hide (by rw [List.getElem?_map, hx.out]; rfl))

set_option maxRecDepth 100000 in
set_option maxHeartbeats 1600000 in
theorem l16Add_c (A : Option Addr) (n c : Nat) (bd : Int) (xs : List Int) (B : Option Addr) (d : Nat) (be : Int) (ys : List Int) (w : World) (h : Ints w A n xs) (k : Ints w B n ys) (hn : n ≤ 12) (hxs : ∀ x ∈ xs, -1000 ≤ x ∧ x ≤ 1000) (hys : ∀ x ∈ ys, -1000 ≤ x ∧ x ≤ 1000) (hbd : -10000 ≤ bd ∧ bd ≤ 10000) (hbe : -10000 ≤ be ∧ be ≤ 10000) :
    Calls Try.prog 63 #[.agg #[.slice A n c, .int .i64 bd], .agg #[.slice B n d, .int .i64 be]] w fun e w' =>
      ∃ A' c', e = .returned (.agg #[.slice A' n c', .int .i64 (bd + be)]) ∧ Own w' w.heap.size 3 1 A' n c' ((List.zipWith (· + ·) xs ys).map (Value.int .i64)) ∧ Ext w w' := by
  have HX := hide hxs
  have HY := hide hys
  have HL := hide h.len
  have KL := hide k.len
  clear hxs hys
  have hF := fun (i : Nat) (x y : Int) hx hy => zip_take_succ (f := (· + ·)) (xs := xs) (ys := ys) (i := i) (x := x) (y := y) hx hy
  have hFl : (List.zipWith (· + ·) xs ys).length = n := by rw [List.length_zipWith]; have := HL.out; have := KL.out; omega
  generalize List.zipWith (· + ·) xs ys = F at hF hFl ⊢
  have HF := hide hF
  have HFl := hide hFl
  clear hF hFl
  go_enter Try.func63, Try.ntmps63
  go_wp2
  have h4 := BoxAt.made (((w.alloc (.cells #[.slice A n c, .int .i64 bd] 26)).alloc (.cells #[.slice B n d, .int .i64 be] 26)).alloc (.cells #[.slice none 0 0, .int .i64 0] 26)) #[.slice none 0 0, .int .i64 (bd + be)] 26
  refine wp_loopK _ rfl (fun KK acT wr => ∃ s0 s1 s2 s3 s4 s5 s6 s7 s8 s9 s10 s11 s12 s13 s14 s15 s16 s17 s18 s19 s20 s21 s22 s23 s24 s25 s26 s27 s28 s29 s30 s31 s32 s33 s34 s35 s36 : Value, (KeptM [false, false, true, true, true, true, false, false, false, false, false, false, false, false, false, false, false, false, false, false, false, false, false, false, false, false, false, false, false, false, false, false, false, false, false, false, true] [s0, s1, s2, s3, s4, s5, s6, s7, s8, s9, s10, s11, s12, s13, s14, s15, s16, s17, s18, s19, s20, s21, s22, s23, s24, s25, s26, s27, s28, s29, s30, s31, s32, s33, s34, s35, s36] KK ∧ (Ext (((w.alloc (.cells #[.slice A n c, .int .i64 bd] 26)).alloc (.cells #[.slice B n d, .int .i64 be] 26)).alloc (.cells #[.slice none 0 0, .int .i64 0] 26)) wr ∧ ∃ i : Nat, i ≤ n ∧ s6 = .int .i64 i ∧ ∃ X z, BoxAt wr (w.heap.size + 1 + 1 + 1) 26 #[.slice X i z, .int .i64 (bd + be)] ∧ Own wr (w.heap.size + 1 + 1 + 1 + 1) 3 1 X i z ((F.take i).map (Value.int .i64)))) ∧ acT = ⟨#[s0, s1, s2, s3, s4, s5, s6, s7, s8, s9, s10, s11, s12, s13, s14, s15, s16, s17, s18, s19, s20, s21, s22, s23, s24, s25, s26, s27, s28, s29, s30, s31, s32, s33, s34, s35, s36], []⟩) (fun acT wr => (fun (s6 : Value) (wr : World) => n - (intOf s6).toNat) (acT.tmps.getD 6 undef) wr) ?_ ?_
  · (refine ⟨_, _, _, _, _, _, _, _, _, _, _, _, _, _, _, _, _, _, _, _, _, _, _, _, _, _, _, _, _, _, _, _, _, _, _, _, _, ⟨(by (repeat (first | exact trivial | refine ⟨rfl, ?_⟩))), ?_⟩, rfl⟩; exact ⟨by (repeat (first | with_reducible exact Ext.refl _ | with_reducible assumption | ((with_reducible refine Ext.setCell ?_ ?_ _); rotate_left; focus (first | omega | (simp <;> omega))) | with_reducible refine Ext.alloc ?_ _ | with_reducible refine Ext.drewN ?_ _ | with_reducible refine Ext.drew ?_ | with_reducible refine Ext.trans ?_ (by with_reducible assumption))), 0, by omega, rfl, _, _, by simpa using h4, by simpa using Own.nil _ _ _ _⟩)
  intro _ wr hinv; obtain ⟨s0, s1, s2, s3, s4, s5, s6, s7, s8, s9, s10, s11, s12, s13, s14, s15, s16, s17, s18, s19, s20, s21, s22, s23, s24, s25, s26, s27, s28, s29, s30, s31, s32, s33, s34, s35, s36, ⟨hkept, hrel⟩, rfl⟩ := hinv; simp only [KeptM] at hkept; obtain ⟨rfl, rfl, rfl, rfl, rfl, -⟩ := hkept; (try dsimp only)
  clear h4
  obtain ⟨he, i, hi, rfl, X, z, hbx, ho⟩ := hrel
  have hee : Ext w wr := Ext.trans (by (repeat (first | with_reducible exact Ext.refl _ | with_reducible assumption | ((with_reducible refine Ext.setCell ?_ ?_ _); rotate_left; focus (first | omega | (simp <;> omega))) | with_reducible refine Ext.alloc ?_ _ | with_reducible refine Ext.drewN ?_ _ | with_reducible refine Ext.drew ?_ | with_reducible refine Ext.trans ?_ (by with_reducible assumption)))) he
  have bc0 := he.cell (p := ⟨w.heap.size, 0, none⟩) (u := .slice A n c) (by first | simp [go_sem] | simp [go_sem, *]); have bf0 := he.frozen (p := ⟨w.heap.size, 0, none⟩) (by first | omega | (simp <;> omega)) (by first | simp [go_sem] | simp [go_sem, *]); have bc1 := he.cell (p := ⟨w.heap.size, 1, none⟩) (u := .int .i64 bd) (by first | simp [go_sem] | simp [go_sem, *]); have bf1 := he.frozen (p := ⟨w.heap.size, 1, none⟩) (by first | omega | (simp <;> omega)) (by first | simp [go_sem] | simp [go_sem, *]); have bc2 := he.cell (p := ⟨w.heap.size + 1, 0, none⟩) (u := .slice B n d) (by first | simp [go_sem] | simp [go_sem, *]); have bf2 := he.frozen (p := ⟨w.heap.size + 1, 0, none⟩) (by first | omega | (simp <;> omega)) (by first | simp [go_sem] | simp [go_sem, *]); have bc3 := he.cell (p := ⟨w.heap.size + 1, 1, none⟩) (u := .int .i64 be) (by first | simp [go_sem] | simp [go_sem, *]); have bf3 := he.frozen (p := ⟨w.heap.size + 1, 1, none⟩) (by first | omega | (simp <;> omega)) (by first | simp [go_sem] | simp [go_sem, *]); have bc4 := he.cell (p := ⟨w.heap.size + 1 + 1, 0, none⟩) (u := .slice none 0 0) (by first | simp [go_sem] | simp [go_sem, *]); have bf4 := he.frozen (p := ⟨w.heap.size + 1 + 1, 0, none⟩) (by first | omega | (simp <;> omega)) (by first | simp [go_sem] | simp [go_sem, *]); have bc5 := he.cell (p := ⟨w.heap.size + 1 + 1, 1, none⟩) (u := .int .i64 0) (by first | simp [go_sem] | simp [go_sem, *]); have bf5 := he.frozen (p := ⟨w.heap.size + 1 + 1, 1, none⟩) (by first | omega | (simp <;> omega)) (by first | simp [go_sem] | simp [go_sem, *])
  have d0 := hbx.cell 0 _ rfl
  have d1 := hbx.cell 1 _ rfl
  have e0 := hbx.frozen 0
  by_cases hlt : i < n
  · obtain ⟨ad, x, rfl, hx, gc0⟩ := h.at_ hlt
    have hc0 := hee.cell gc0
    have hvx := HX.out x (List.mem_of_getElem? hx.out)
    obtain ⟨bd', y, rfl, hy, gc1⟩ := k.at_ hlt
    have hc1 := hee.cell gc1
    have hvy := HY.out y (List.mem_of_getElem? hy.out)
    have hzip := hide (HF.out i x y hx hy).out
    have hs := he.size
    simp at hs
    have hsum := IntWalk.i64_in (x + y) (by omega)
    have hbl := hbx.lt
    go_wp2
    have hea : Ext wr (wr.alloc (.cells #[.int .i64 (x + y)] 3)).drew := by (repeat (first | with_reducible exact Ext.refl _ | with_reducible assumption | ((with_reducible refine Ext.setCell ?_ ?_ _); rotate_left; focus (first | omega | (simp <;> omega))) | with_reducible refine Ext.alloc ?_ _ | with_reducible refine Ext.drewN ?_ _ | with_reducible refine Ext.drew ?_ | with_reducible refine Ext.trans ?_ (by with_reducible assumption)))
    have a0 := hea.cell (he.cell (p := ⟨w.heap.size, 0, none⟩) (u := .slice (some ad) n c) (by simp [go_sem])); have a1 := hea.cell (he.cell (p := ⟨w.heap.size + 1, 0, none⟩) (u := .slice (some bd') n d) (by simp [go_sem])); have a2 := hea.cell (hc0); have a3 := hea.cell (hc1)
    refine wp_region_held_drew (S := (fun w' => w'.cell? ⟨w.heap.size, 0, none⟩ = some (.slice (some ad) n c) ∧ w'.cell? ⟨w.heap.size + 1, 0, none⟩ = some (.slice (some bd') n d) ∧ w'.cell? (ad.add i) = some (.int .i64 x) ∧ w'.cell? (bd'.add i) = some (.int .i64 y))) (by kernel_rfl) ?_ (fun hHeld => ?_)
    · ((try dsimp only); (refine ⟨?_, ?_, ?_, ?_⟩ <;> first | assumption | (simp [go_sem, *]; done)))
    refine heldTake 0 (v := ?_) rfl (by kernel_rfl) (by kernel_rfl) (by kernel_rfl) (fun _ _ _ h => h) (Or.inl ⟨by rfl, ?_⟩) (by assumption) ?_
    rotate_left 1
    focus (intro wS hSw; (try dsimp only at hSw); go_simp; (try with_reducible rfl))
    (try simp only [Act.put, List.setIfInBounds_toArray, List.set_cons_zero, List.set_cons_succ])
    refine heldTake 2 (v := ?_) rfl (by kernel_rfl) (by kernel_rfl) (by kernel_rfl) (fun _ _ _ h => h) (Or.inl ⟨by rfl, ?_⟩) (by assumption) ?_
    rotate_left 1
    focus (intro wS hSw; (try dsimp only at hSw); go_simp; (try with_reducible rfl))
    (try simp only [Act.put, List.setIfInBounds_toArray, List.set_cons_zero, List.set_cons_succ])
    refine heldTake 3 (v := ?_) rfl (by kernel_rfl) (by kernel_rfl) (by kernel_rfl) (fun _ _ _ h => h) (Or.inl ⟨by rfl, ?_⟩) (by assumption) ?_
    rotate_left 1
    focus (intro wS hSw; (try dsimp only at hSw); go_simp; (try with_reducible rfl))
    (try simp only [Act.put, List.setIfInBounds_toArray, List.set_cons_zero, List.set_cons_succ])
    refine heldTake 4 (v := ?_) rfl (by kernel_rfl) (by kernel_rfl) (by kernel_rfl) (fun _ _ _ h => h) (Or.inl ⟨by rfl, ?_⟩) (by assumption) ?_
    rotate_left 1
    focus (intro wS hSw; (try dsimp only at hSw); go_simp; (try with_reducible rfl))
    (try simp only [Act.put, List.setIfInBounds_toArray, List.set_cons_zero, List.set_cons_succ])
    refine heldTake 5 (v := ?_) rfl (by kernel_rfl) (by kernel_rfl) (by kernel_rfl) (fun _ _ _ h => h) (Or.inl ⟨by rfl, ?_⟩) (by assumption) ?_
    rotate_left 1
    focus (intro wS hSw; (try dsimp only at hSw); go_simp; (try with_reducible rfl))
    (try simp only [Act.put, List.setIfInBounds_toArray, List.set_cons_zero, List.set_cons_succ])
    refine heldTake 6 (v := ?_) rfl (by kernel_rfl) (by kernel_rfl) (by kernel_rfl) (fun _ _ _ h => h) (Or.inl ⟨by rfl, ?_⟩) (by assumption) ?_
    rotate_left 1
    focus (intro wS hSw; (try dsimp only at hSw); go_simp; (try with_reducible rfl))
    (try simp only [Act.put, List.setIfInBounds_toArray, List.set_cons_zero, List.set_cons_succ])
    refine heldTake 7 (v := ?_) rfl (by kernel_rfl) (by kernel_rfl) (by kernel_rfl) (fun _ _ _ h => h) (Or.inl ⟨by rfl, ?_⟩) (by assumption) ?_
    rotate_left 1
    focus (intro wS hSw; (try dsimp only at hSw); go_simp; (try with_reducible rfl))
    (try simp only [Act.put, List.setIfInBounds_toArray, List.set_cons_zero, List.set_cons_succ])
    refine heldTake 8 (v := ?_) rfl (by kernel_rfl) (by kernel_rfl) (by kernel_rfl) (fun _ _ _ h => h) (Or.inl ⟨by rfl, ?_⟩) (by assumption) ?_
    rotate_left 1
    focus (intro wS hSw; (try dsimp only at hSw); go_simp; (try with_reducible rfl))
    (try simp only [Act.put, List.setIfInBounds_toArray, List.set_cons_zero, List.set_cons_succ])
    refine heldTake 9 (v := ?_) rfl (by kernel_rfl) (by kernel_rfl) (by kernel_rfl) (fun _ _ _ h => h) (Or.inl ⟨by rfl, ?_⟩) (by assumption) ?_
    rotate_left 1
    focus (intro wS hSw; (try dsimp only at hSw); go_simp; (try with_reducible rfl))
    (try simp only [Act.put, List.setIfInBounds_toArray, List.set_cons_zero, List.set_cons_succ])
    refine heldTake 10 (v := ?_) rfl (by kernel_rfl) (by kernel_rfl) (by kernel_rfl) (fun _ _ _ h => h) (Or.inl ⟨by rfl, ?_⟩) (by assumption) ?_
    rotate_left 1
    focus (intro wS hSw; (try dsimp only at hSw); go_simp; (try with_reducible rfl))
    (try simp only [Act.put, List.setIfInBounds_toArray, List.set_cons_zero, List.set_cons_succ])
    refine heldTake 11 (v := ?_) rfl (by kernel_rfl) (by kernel_rfl) (by kernel_rfl) (fun _ _ _ h => h) (Or.inl ⟨by rfl, ?_⟩) (by assumption) ?_
    rotate_left 1
    focus (intro wS hSw; (try dsimp only at hSw); go_simp; (try with_reducible rfl))
    (try simp only [Act.put, List.setIfInBounds_toArray, List.set_cons_zero, List.set_cons_succ])
    refine heldTake 12 (v := ?_) rfl (by kernel_rfl) (by kernel_rfl) (by kernel_rfl) (fun _ _ _ h => h) (Or.inl ⟨by rfl, ?_⟩) (by assumption) ?_
    rotate_left 1
    focus (intro wS hSw; (try dsimp only at hSw); go_simp; (try with_reducible rfl))
    (try simp only [Act.put, List.setIfInBounds_toArray, List.set_cons_zero, List.set_cons_succ])
    refine wpAnyH_ready (rs := [1, 13]) (by kernel_rfl) (by simp) ?_
    refine (heldStep 1 rfl (fun K hK => ?_) (heldStep 13 rfl (fun K hK => ?_) AllReadyH.nil))
    · skip
      go_simp
      refine hK.out _ _ ?_ (fun hHeld => ?_)
      · ((try dsimp only); (refine ⟨?_, ?_, ?_, ?_⟩ <;> first | assumption | (simp [go_sem, *]; done)))
      clear hK K
      (try simp only [Act.put, List.setIfInBounds_toArray, List.set_cons_zero, List.set_cons_succ])
      refine wpAnyH_ready (rs := [13]) (by kernel_rfl) (by simp) ?_
      refine heldStep 13 rfl (fun K hK => ?_) AllReadyH.nil
      go_simp
      refine hK.out _ _ ?_ (fun hHeld => ?_)
      · ((try dsimp only); (refine ⟨?_, ?_, ?_, ?_⟩ <;> first | assumption | (simp [go_sem, *]; done)))
      clear hK K
      (try simp only [Act.put, List.setIfInBounds_toArray, List.set_cons_zero, List.set_cons_succ])
      refine wpAnyH_ready (rs := [14]) (by kernel_rfl) (by simp) ?_
      refine heldStep 14 rfl (fun K hK => ?_) AllReadyH.nil
      (refine step_app (by rfl) _ _ 22 _ (by rfl) Try.underlying22 _ 1 8 info_int rfl (by decide) (by rfl) (ho.ext hea) wr.heap.size 1 [.int .i64 (x + y)] (by rfl) (by rfl) (heap_alloc_new _ _) (by intro u hu; simp at hu; first | (subst hu; rfl) | (rcases hu with rfl | rfl <;> rfl) | (rcases hu with rfl | rfl | rfl <;> rfl)) (by omega) (by omega) (by first | omega | (simp <;> omega)) ?_; intro A' c' w' ho' hg'; obtain ⟨p1, p2, p3, p4, p5⟩ := pushedI (D := 26) (b := w.heap.size + 1 + 1 + 1) (he.trans hea) (hbx.ext hea) (ho.ext hea) (by decide) (by first | omega | (simp <;> omega)) (by first | omega | (simp <;> omega)) ho' hg'; have q0 := p2.cell 0 _ rfl; have q1 := p2.frozen 0; have q4 : Ext w w' := Ext.trans (by (repeat (first | with_reducible exact Ext.refl _ | with_reducible assumption | ((with_reducible refine Ext.setCell ?_ ?_ _); rotate_left; focus (first | omega | (simp <;> omega))) | with_reducible refine Ext.alloc ?_ _ | with_reducible refine Ext.drewN ?_ _ | with_reducible refine Ext.drew ?_ | with_reducible refine Ext.trans ?_ (by with_reducible assumption)))) p1; have r4 : Ext w (w'.setCell ⟨w.heap.size + 1 + 1 + 1, 0, none⟩ (.slice A' (i + 1) c')) := Ext.trans (by (repeat (first | with_reducible exact Ext.refl _ | with_reducible assumption | ((with_reducible refine Ext.setCell ?_ ?_ _); rotate_left; focus (first | omega | (simp <;> omega))) | with_reducible refine Ext.alloc ?_ _ | with_reducible refine Ext.drewN ?_ _ | with_reducible refine Ext.drew ?_ | with_reducible refine Ext.trans ?_ (by with_reducible assumption)))) p3; have s0 := p1.cell (p := ⟨w.heap.size, 0, none⟩) (u := .slice (some ad) n c) (by simp [go_sem]); have s1 := p1.cell (p := ⟨w.heap.size + 1, 0, none⟩) (u := .slice (some bd') n d) (by simp [go_sem]); have s2 := q4.cell gc0; have t2 := r4.cell gc0; have s3 := q4.cell gc1; have t3 := r4.cell gc1)
      refine hK.out _ _ ?_ (fun hHeld => ?_)
      · ((try dsimp only); (refine ⟨?_, ?_, ?_, ?_⟩ <;> first | assumption | (simp [go_sem, *]; done)))
      clear hK K
      (try simp only [Act.put, List.setIfInBounds_toArray, List.set_cons_zero, List.set_cons_succ])
      refine heldTake 15 (v := ?_) rfl (by kernel_rfl) (by kernel_rfl) (by kernel_rfl) (fun _ _ _ h => h) (Or.inl ⟨by rfl, ?_⟩) (by assumption) ?_
      rotate_left 1
      focus (intro wS hSw; (try dsimp only at hSw); go_simp; (try with_reducible rfl))
      (try simp only [Act.put, List.setIfInBounds_toArray, List.set_cons_zero, List.set_cons_succ])
      refine wpAnyH_ready (rs := [16]) (by kernel_rfl) (by simp) ?_
      refine heldStep 16 rfl (fun K hK => ?_) AllReadyH.nil
      go_simp
      refine hK.out _ _ ?_ (fun hHeld => ?_)
      · ((try dsimp only); (refine ⟨?_, ?_, ?_, ?_⟩ <;> first | assumption | (simp [go_sem, *]; done)))
      clear hK K
      (try simp only [Act.put, List.setIfInBounds_toArray, List.set_cons_zero, List.set_cons_succ])
      refine wpAnyH_done (by kernel_rfl) ?_ _
      go_wp2
      exact ⟨⟨(by (repeat (first | exact trivial | refine ⟨rfl, ?_⟩))), p3, i + 1, by omega, by go_num, _, _, by simpa using p4, by rw [hzip.out]; simpa using p5⟩, (by simp [intOf] <;> omega)⟩
    · skip
      go_simp
      refine hK.out _ _ ?_ (fun hHeld => ?_)
      · ((try dsimp only); (refine ⟨?_, ?_, ?_, ?_⟩ <;> first | assumption | (simp [go_sem, *]; done)))
      clear hK K
      (try simp only [Act.put, List.setIfInBounds_toArray, List.set_cons_zero, List.set_cons_succ])
      refine wpAnyH_ready (rs := [1]) (by kernel_rfl) (by simp) ?_
      refine heldStep 1 rfl (fun K hK => ?_) AllReadyH.nil
      go_simp
      refine hK.out _ _ ?_ (fun hHeld => ?_)
      · ((try dsimp only); (refine ⟨?_, ?_, ?_, ?_⟩ <;> first | assumption | (simp [go_sem, *]; done)))
      clear hK K
      (try simp only [Act.put, List.setIfInBounds_toArray, List.set_cons_zero, List.set_cons_succ])
      refine wpAnyH_ready (rs := [14]) (by kernel_rfl) (by simp) ?_
      refine heldStep 14 rfl (fun K hK => ?_) AllReadyH.nil
      (refine step_app (by rfl) _ _ 22 _ (by rfl) Try.underlying22 _ 1 8 info_int rfl (by decide) (by rfl) (ho.ext hea) wr.heap.size 1 [.int .i64 (x + y)] (by rfl) (by rfl) (heap_alloc_new _ _) (by intro u hu; simp at hu; first | (subst hu; rfl) | (rcases hu with rfl | rfl <;> rfl) | (rcases hu with rfl | rfl | rfl <;> rfl)) (by omega) (by omega) (by first | omega | (simp <;> omega)) ?_; intro A' c' w' ho' hg'; obtain ⟨p1, p2, p3, p4, p5⟩ := pushedI (D := 26) (b := w.heap.size + 1 + 1 + 1) (he.trans hea) (hbx.ext hea) (ho.ext hea) (by decide) (by first | omega | (simp <;> omega)) (by first | omega | (simp <;> omega)) ho' hg'; have q0 := p2.cell 0 _ rfl; have q1 := p2.frozen 0; have q4 : Ext w w' := Ext.trans (by (repeat (first | with_reducible exact Ext.refl _ | with_reducible assumption | ((with_reducible refine Ext.setCell ?_ ?_ _); rotate_left; focus (first | omega | (simp <;> omega))) | with_reducible refine Ext.alloc ?_ _ | with_reducible refine Ext.drewN ?_ _ | with_reducible refine Ext.drew ?_ | with_reducible refine Ext.trans ?_ (by with_reducible assumption)))) p1; have r4 : Ext w (w'.setCell ⟨w.heap.size + 1 + 1 + 1, 0, none⟩ (.slice A' (i + 1) c')) := Ext.trans (by (repeat (first | with_reducible exact Ext.refl _ | with_reducible assumption | ((with_reducible refine Ext.setCell ?_ ?_ _); rotate_left; focus (first | omega | (simp <;> omega))) | with_reducible refine Ext.alloc ?_ _ | with_reducible refine Ext.drewN ?_ _ | with_reducible refine Ext.drew ?_ | with_reducible refine Ext.trans ?_ (by with_reducible assumption)))) p3; have s0 := p1.cell (p := ⟨w.heap.size, 0, none⟩) (u := .slice (some ad) n c) (by simp [go_sem]); have s1 := p1.cell (p := ⟨w.heap.size + 1, 0, none⟩) (u := .slice (some bd') n d) (by simp [go_sem]); have s2 := q4.cell gc0; have t2 := r4.cell gc0; have s3 := q4.cell gc1; have t3 := r4.cell gc1)
      refine hK.out _ _ ?_ (fun hHeld => ?_)
      · ((try dsimp only); (refine ⟨?_, ?_, ?_, ?_⟩ <;> first | assumption | (simp [go_sem, *]; done)))
      clear hK K
      (try simp only [Act.put, List.setIfInBounds_toArray, List.set_cons_zero, List.set_cons_succ])
      refine heldTake 15 (v := ?_) rfl (by kernel_rfl) (by kernel_rfl) (by kernel_rfl) (fun _ _ _ h => h) (Or.inl ⟨by rfl, ?_⟩) (by assumption) ?_
      rotate_left 1
      focus (intro wS hSw; (try dsimp only at hSw); go_simp; (try with_reducible rfl))
      (try simp only [Act.put, List.setIfInBounds_toArray, List.set_cons_zero, List.set_cons_succ])
      refine wpAnyH_ready (rs := [16]) (by kernel_rfl) (by simp) ?_
      refine heldStep 16 rfl (fun K hK => ?_) AllReadyH.nil
      go_simp
      refine hK.out _ _ ?_ (fun hHeld => ?_)
      · ((try dsimp only); (refine ⟨?_, ?_, ?_, ?_⟩ <;> first | assumption | (simp [go_sem, *]; done)))
      clear hK K
      (try simp only [Act.put, List.setIfInBounds_toArray, List.set_cons_zero, List.set_cons_succ])
      refine wpAnyH_done (by kernel_rfl) ?_ _
      go_wp2
      exact ⟨⟨(by (repeat (first | exact trivial | refine ⟨rfl, ?_⟩))), p3, i + 1, by omega, by go_num, _, _, by simpa using p4, by rw [hzip.out]; simpa using p5⟩, (by simp [intOf] <;> omega)⟩
  · obtain rfl : i = n := by omega
    have hlen : F.take i = F := List.take_of_length_le (by have := HFl.out; omega)
    rw [hlen] at ho
    clear hlen
    go_wp2
    refine bodyPost_ret (v := .agg #[.slice X i z, .int .i64 (bd + be)]) (by simp [results, Try.results63, go_sem, *]) rfl ⟨_, _, rfl, ?_, ?_⟩
    · exact ((ho.setLow (by first | omega | (simp <;> omega)) _).setLow (by first | omega | (simp <;> omega)) _).lower (by first | omega | (simp <;> omega))
    · exact Ext.setCell (Ext.setCell hee (by first | omega | (simp <;> omega)) _) (by first | omega | (simp <;> omega)) _
set_option maxRecDepth 100000 in
set_option maxHeartbeats 1600000 in
theorem l16Scale_c (A : Option Addr) (n c : Nat) (bd : Int) (xs : List Int) (k : Int) (w : World) (h : Ints w A n xs) (hn : n ≤ 12) (hxs : ∀ x ∈ xs, -1000 ≤ x ∧ x ≤ 1000) (hbd : -10000 ≤ bd ∧ bd ≤ 10000) (hk : -1000 ≤ k ∧ k ≤ 1000) :
    Calls Try.prog 127 #[.agg #[.slice A n c, .int .i64 bd], .int .i64 k] w fun e w' =>
      ∃ A' c', e = .returned (.agg #[.slice A' n c', .int .i64 (bd * k)]) ∧ Own w' w.heap.size 3 1 A' n c' ((xs.map (· * k)).map (Value.int .i64)) ∧ Ext w w' := by
  have HX := hide hxs
  have HL := hide h.len
  clear hxs
  have hm1 := mul_small bd k (by omega) (by omega)
  have hF := fun (i : Nat) (x : Int) hx => map_take_succ (f := (· * k)) (xs := xs) (i := i) (x := x) hx
  have hFl : (xs.map (· * k)).length = n := by rw [List.length_map]; have := HL.out; omega
  generalize xs.map (· * k) = F at hF hFl ⊢
  have HF := hide hF
  have HFl := hide hFl
  clear hF hFl
  go_enter Try.func127, Try.ntmps127
  go_wp2
  have h4 := BoxAt.made ((w.alloc (.cells #[.slice A n c, .int .i64 bd] 26)).alloc (.cells #[.slice none 0 0, .int .i64 0] 26)) #[.slice none 0 0, .int .i64 (bd * k)] 26
  refine wp_loopK _ rfl (fun KK acT wr => ∃ s0 s1 s2 s3 s4 s5 s6 s7 s8 s9 s10 s11 s12 s13 s14 s15 s16 s17 s18 s19 s20 s21 s22 s23 s24 s25 s26 s27 s28 s29 s30 s31 : Value, (KeptM [false, true, true, false, true, true, false, false, false, false, false, false, false, false, false, false, false, false, false, false, false, false, false, false, false, false, false, false, false, false, false, true] [s0, s1, s2, s3, s4, s5, s6, s7, s8, s9, s10, s11, s12, s13, s14, s15, s16, s17, s18, s19, s20, s21, s22, s23, s24, s25, s26, s27, s28, s29, s30, s31] KK ∧ (Ext ((w.alloc (.cells #[.slice A n c, .int .i64 bd] 26)).alloc (.cells #[.slice none 0 0, .int .i64 0] 26)) wr ∧ ∃ i : Nat, i ≤ n ∧ s6 = .int .i64 i ∧ ∃ X z, BoxAt wr (w.heap.size + 1 + 1) 26 #[.slice X i z, .int .i64 (bd * k)] ∧ Own wr (w.heap.size + 1 + 1 + 1) 3 1 X i z ((F.take i).map (Value.int .i64)))) ∧ acT = ⟨#[s0, s1, s2, s3, s4, s5, s6, s7, s8, s9, s10, s11, s12, s13, s14, s15, s16, s17, s18, s19, s20, s21, s22, s23, s24, s25, s26, s27, s28, s29, s30, s31], []⟩) (fun acT wr => (fun (s6 : Value) (wr : World) => n - (intOf s6).toNat) (acT.tmps.getD 6 undef) wr) ?_ ?_
  · (refine ⟨_, _, _, _, _, _, _, _, _, _, _, _, _, _, _, _, _, _, _, _, _, _, _, _, _, _, _, _, _, _, _, _, ⟨(by (repeat (first | exact trivial | refine ⟨rfl, ?_⟩))), ?_⟩, rfl⟩; exact ⟨by (repeat (first | with_reducible exact Ext.refl _ | with_reducible assumption | ((with_reducible refine Ext.setCell ?_ ?_ _); rotate_left; focus (first | omega | (simp <;> omega))) | with_reducible refine Ext.alloc ?_ _ | with_reducible refine Ext.drewN ?_ _ | with_reducible refine Ext.drew ?_ | with_reducible refine Ext.trans ?_ (by with_reducible assumption))), 0, by omega, rfl, _, _, by simpa using h4, by simpa using Own.nil _ _ _ _⟩)
  intro _ wr hinv; obtain ⟨s0, s1, s2, s3, s4, s5, s6, s7, s8, s9, s10, s11, s12, s13, s14, s15, s16, s17, s18, s19, s20, s21, s22, s23, s24, s25, s26, s27, s28, s29, s30, s31, ⟨hkept, hrel⟩, rfl⟩ := hinv; simp only [KeptM] at hkept; obtain ⟨rfl, rfl, rfl, rfl, rfl, -⟩ := hkept; (try dsimp only)
  clear h4
  obtain ⟨he, i, hi, rfl, X, z, hbx, ho⟩ := hrel
  have hee : Ext w wr := Ext.trans (by (repeat (first | with_reducible exact Ext.refl _ | with_reducible assumption | ((with_reducible refine Ext.setCell ?_ ?_ _); rotate_left; focus (first | omega | (simp <;> omega))) | with_reducible refine Ext.alloc ?_ _ | with_reducible refine Ext.drewN ?_ _ | with_reducible refine Ext.drew ?_ | with_reducible refine Ext.trans ?_ (by with_reducible assumption)))) he
  have bc6 := he.cell (p := ⟨w.heap.size, 0, none⟩) (u := .slice A n c) (by first | simp [go_sem] | simp [go_sem, *]); have bf6 := he.frozen (p := ⟨w.heap.size, 0, none⟩) (by first | omega | (simp <;> omega)) (by first | simp [go_sem] | simp [go_sem, *]); have bc7 := he.cell (p := ⟨w.heap.size, 1, none⟩) (u := .int .i64 bd) (by first | simp [go_sem] | simp [go_sem, *]); have bf7 := he.frozen (p := ⟨w.heap.size, 1, none⟩) (by first | omega | (simp <;> omega)) (by first | simp [go_sem] | simp [go_sem, *]); have bc8 := he.cell (p := ⟨w.heap.size + 1, 0, none⟩) (u := .slice none 0 0) (by first | simp [go_sem] | simp [go_sem, *]); have bf8 := he.frozen (p := ⟨w.heap.size + 1, 0, none⟩) (by first | omega | (simp <;> omega)) (by first | simp [go_sem] | simp [go_sem, *]); have bc9 := he.cell (p := ⟨w.heap.size + 1, 1, none⟩) (u := .int .i64 0) (by first | simp [go_sem] | simp [go_sem, *]); have bf9 := he.frozen (p := ⟨w.heap.size + 1, 1, none⟩) (by first | omega | (simp <;> omega)) (by first | simp [go_sem] | simp [go_sem, *])
  have d0 := hbx.cell 0 _ rfl
  have d1 := hbx.cell 1 _ rfl
  have e0 := hbx.frozen 0
  by_cases hlt : i < n
  · obtain ⟨ad, x, rfl, hx, gc0⟩ := h.at_ hlt
    have hc0 := hee.cell gc0
    have hvx := HX.out x (List.mem_of_getElem? hx.out)
    have hzip := hide (HF.out i x hx).out
    have hs := he.size
    simp at hs
    have hm2 := mul_small x k (by omega) (by omega)
    have hsum := IntWalk.i64_in (x * k) (by omega)
    have hbl := hbx.lt
    go_wp2
    have hea : Ext wr (wr.alloc (.cells #[.int .i64 (x * k)] 3)).drew := by (repeat (first | with_reducible exact Ext.refl _ | with_reducible assumption | ((with_reducible refine Ext.setCell ?_ ?_ _); rotate_left; focus (first | omega | (simp <;> omega))) | with_reducible refine Ext.alloc ?_ _ | with_reducible refine Ext.drewN ?_ _ | with_reducible refine Ext.drew ?_ | with_reducible refine Ext.trans ?_ (by with_reducible assumption)))
    have a0 := hea.cell (he.cell (p := ⟨w.heap.size, 0, none⟩) (u := .slice (some ad) n c) (by simp [go_sem])); have a1 := hea.cell (hc0)
    refine wp_region_held_drew (S := (fun w' => w'.cell? ⟨w.heap.size, 0, none⟩ = some (.slice (some ad) n c) ∧ w'.cell? (ad.add i) = some (.int .i64 x))) (by kernel_rfl) ?_ (fun hHeld => ?_)
    · ((try dsimp only); (refine ⟨?_, ?_⟩ <;> first | assumption | (simp [go_sem, *]; done)))
    refine heldTake 0 (v := ?_) rfl (by kernel_rfl) (by kernel_rfl) (by kernel_rfl) (fun _ _ _ h => h) (Or.inl ⟨by rfl, ?_⟩) (by assumption) ?_
    rotate_left 1
    focus (intro wS hSw; (try dsimp only at hSw); go_simp; (try with_reducible rfl))
    (try simp only [Act.put, List.setIfInBounds_toArray, List.set_cons_zero, List.set_cons_succ])
    refine heldTake 2 (v := ?_) rfl (by kernel_rfl) (by kernel_rfl) (by kernel_rfl) (fun _ _ _ h => h) (Or.inl ⟨by rfl, ?_⟩) (by assumption) ?_
    rotate_left 1
    focus (intro wS hSw; (try dsimp only at hSw); go_simp; (try with_reducible rfl))
    (try simp only [Act.put, List.setIfInBounds_toArray, List.set_cons_zero, List.set_cons_succ])
    refine heldTake 3 (v := ?_) rfl (by kernel_rfl) (by kernel_rfl) (by kernel_rfl) (fun _ _ _ h => h) (Or.inl ⟨by rfl, ?_⟩) (by assumption) ?_
    rotate_left 1
    focus (intro wS hSw; (try dsimp only at hSw); go_simp; (try with_reducible rfl))
    (try simp only [Act.put, List.setIfInBounds_toArray, List.set_cons_zero, List.set_cons_succ])
    refine heldTake 4 (v := ?_) rfl (by kernel_rfl) (by kernel_rfl) (by kernel_rfl) (fun _ _ _ h => h) (Or.inl ⟨by rfl, ?_⟩) (by assumption) ?_
    rotate_left 1
    focus (intro wS hSw; (try dsimp only at hSw); go_simp; (try with_reducible rfl))
    (try simp only [Act.put, List.setIfInBounds_toArray, List.set_cons_zero, List.set_cons_succ])
    refine heldTake 5 (v := ?_) rfl (by kernel_rfl) (by kernel_rfl) (by kernel_rfl) (fun _ _ _ h => h) (Or.inl ⟨by rfl, ?_⟩) (by assumption) ?_
    rotate_left 1
    focus (intro wS hSw; (try dsimp only at hSw); go_simp; (try with_reducible rfl))
    (try simp only [Act.put, List.setIfInBounds_toArray, List.set_cons_zero, List.set_cons_succ])
    refine heldTake 6 (v := ?_) rfl (by kernel_rfl) (by kernel_rfl) (by kernel_rfl) (fun _ _ _ h => h) (Or.inl ⟨by rfl, ?_⟩) (by assumption) ?_
    rotate_left 1
    focus (intro wS hSw; (try dsimp only at hSw); go_simp; (try with_reducible rfl))
    (try simp only [Act.put, List.setIfInBounds_toArray, List.set_cons_zero, List.set_cons_succ])
    refine heldTake 7 (v := ?_) rfl (by kernel_rfl) (by kernel_rfl) (by kernel_rfl) (fun _ _ _ h => h) (Or.inl ⟨by rfl, ?_⟩) (by assumption) ?_
    rotate_left 1
    focus (intro wS hSw; (try dsimp only at hSw); go_simp; (try with_reducible rfl))
    (try simp only [Act.put, List.setIfInBounds_toArray, List.set_cons_zero, List.set_cons_succ])
    refine heldTake 8 (v := ?_) rfl (by kernel_rfl) (by kernel_rfl) (by kernel_rfl) (fun _ _ _ h => h) (Or.inl ⟨by rfl, ?_⟩) (by assumption) ?_
    rotate_left 1
    focus (intro wS hSw; (try dsimp only at hSw); go_simp; (try with_reducible rfl))
    (try simp only [Act.put, List.setIfInBounds_toArray, List.set_cons_zero, List.set_cons_succ])
    refine wpAnyH_ready (rs := [1, 9]) (by kernel_rfl) (by simp) ?_
    refine (heldStep 1 rfl (fun K hK => ?_) (heldStep 9 rfl (fun K hK => ?_) AllReadyH.nil))
    · skip
      go_simp
      refine hK.out _ _ ?_ (fun hHeld => ?_)
      · ((try dsimp only); (refine ⟨?_, ?_⟩ <;> first | assumption | (simp [go_sem, *]; done)))
      clear hK K
      (try simp only [Act.put, List.setIfInBounds_toArray, List.set_cons_zero, List.set_cons_succ])
      refine wpAnyH_ready (rs := [9]) (by kernel_rfl) (by simp) ?_
      refine heldStep 9 rfl (fun K hK => ?_) AllReadyH.nil
      go_simp
      refine hK.out _ _ ?_ (fun hHeld => ?_)
      · ((try dsimp only); (refine ⟨?_, ?_⟩ <;> first | assumption | (simp [go_sem, *]; done)))
      clear hK K
      (try simp only [Act.put, List.setIfInBounds_toArray, List.set_cons_zero, List.set_cons_succ])
      refine wpAnyH_ready (rs := [10]) (by kernel_rfl) (by simp) ?_
      refine heldStep 10 rfl (fun K hK => ?_) AllReadyH.nil
      (refine step_app (by rfl) _ _ 22 _ (by rfl) Try.underlying22 _ 1 8 info_int rfl (by decide) (by rfl) (ho.ext hea) wr.heap.size 1 [.int .i64 (x * k)] (by rfl) (by rfl) (heap_alloc_new _ _) (by intro u hu; simp at hu; first | (subst hu; rfl) | (rcases hu with rfl | rfl <;> rfl) | (rcases hu with rfl | rfl | rfl <;> rfl)) (by omega) (by omega) (by first | omega | (simp <;> omega)) ?_; intro A' c' w' ho' hg'; obtain ⟨p1, p2, p3, p4, p5⟩ := pushedI (D := 26) (b := w.heap.size + 1 + 1) (he.trans hea) (hbx.ext hea) (ho.ext hea) (by decide) (by first | omega | (simp <;> omega)) (by first | omega | (simp <;> omega)) ho' hg'; have q0 := p2.cell 0 _ rfl; have q1 := p2.frozen 0; have q4 : Ext w w' := Ext.trans (by (repeat (first | with_reducible exact Ext.refl _ | with_reducible assumption | ((with_reducible refine Ext.setCell ?_ ?_ _); rotate_left; focus (first | omega | (simp <;> omega))) | with_reducible refine Ext.alloc ?_ _ | with_reducible refine Ext.drewN ?_ _ | with_reducible refine Ext.drew ?_ | with_reducible refine Ext.trans ?_ (by with_reducible assumption)))) p1; have r4 : Ext w (w'.setCell ⟨w.heap.size + 1 + 1, 0, none⟩ (.slice A' (i + 1) c')) := Ext.trans (by (repeat (first | with_reducible exact Ext.refl _ | with_reducible assumption | ((with_reducible refine Ext.setCell ?_ ?_ _); rotate_left; focus (first | omega | (simp <;> omega))) | with_reducible refine Ext.alloc ?_ _ | with_reducible refine Ext.drewN ?_ _ | with_reducible refine Ext.drew ?_ | with_reducible refine Ext.trans ?_ (by with_reducible assumption)))) p3; have s0 := p1.cell (p := ⟨w.heap.size, 0, none⟩) (u := .slice (some ad) n c) (by simp [go_sem]); have s1 := q4.cell gc0; have t1 := r4.cell gc0)
      refine hK.out _ _ ?_ (fun hHeld => ?_)
      · ((try dsimp only); (refine ⟨?_, ?_⟩ <;> first | assumption | (simp [go_sem, *]; done)))
      clear hK K
      (try simp only [Act.put, List.setIfInBounds_toArray, List.set_cons_zero, List.set_cons_succ])
      refine heldTake 11 (v := ?_) rfl (by kernel_rfl) (by kernel_rfl) (by kernel_rfl) (fun _ _ _ h => h) (Or.inl ⟨by rfl, ?_⟩) (by assumption) ?_
      rotate_left 1
      focus (intro wS hSw; (try dsimp only at hSw); go_simp; (try with_reducible rfl))
      (try simp only [Act.put, List.setIfInBounds_toArray, List.set_cons_zero, List.set_cons_succ])
      refine wpAnyH_ready (rs := [12]) (by kernel_rfl) (by simp) ?_
      refine heldStep 12 rfl (fun K hK => ?_) AllReadyH.nil
      go_simp
      refine hK.out _ _ ?_ (fun hHeld => ?_)
      · ((try dsimp only); (refine ⟨?_, ?_⟩ <;> first | assumption | (simp [go_sem, *]; done)))
      clear hK K
      (try simp only [Act.put, List.setIfInBounds_toArray, List.set_cons_zero, List.set_cons_succ])
      refine wpAnyH_done (by kernel_rfl) ?_ _
      go_wp2
      exact ⟨⟨(by (repeat (first | exact trivial | refine ⟨rfl, ?_⟩))), p3, i + 1, by omega, by go_num, _, _, by simpa using p4, by rw [hzip.out]; simpa using p5⟩, (by simp [intOf] <;> omega)⟩
    · skip
      go_simp
      refine hK.out _ _ ?_ (fun hHeld => ?_)
      · ((try dsimp only); (refine ⟨?_, ?_⟩ <;> first | assumption | (simp [go_sem, *]; done)))
      clear hK K
      (try simp only [Act.put, List.setIfInBounds_toArray, List.set_cons_zero, List.set_cons_succ])
      refine wpAnyH_ready (rs := [1]) (by kernel_rfl) (by simp) ?_
      refine heldStep 1 rfl (fun K hK => ?_) AllReadyH.nil
      go_simp
      refine hK.out _ _ ?_ (fun hHeld => ?_)
      · ((try dsimp only); (refine ⟨?_, ?_⟩ <;> first | assumption | (simp [go_sem, *]; done)))
      clear hK K
      (try simp only [Act.put, List.setIfInBounds_toArray, List.set_cons_zero, List.set_cons_succ])
      refine wpAnyH_ready (rs := [10]) (by kernel_rfl) (by simp) ?_
      refine heldStep 10 rfl (fun K hK => ?_) AllReadyH.nil
      (refine step_app (by rfl) _ _ 22 _ (by rfl) Try.underlying22 _ 1 8 info_int rfl (by decide) (by rfl) (ho.ext hea) wr.heap.size 1 [.int .i64 (x * k)] (by rfl) (by rfl) (heap_alloc_new _ _) (by intro u hu; simp at hu; first | (subst hu; rfl) | (rcases hu with rfl | rfl <;> rfl) | (rcases hu with rfl | rfl | rfl <;> rfl)) (by omega) (by omega) (by first | omega | (simp <;> omega)) ?_; intro A' c' w' ho' hg'; obtain ⟨p1, p2, p3, p4, p5⟩ := pushedI (D := 26) (b := w.heap.size + 1 + 1) (he.trans hea) (hbx.ext hea) (ho.ext hea) (by decide) (by first | omega | (simp <;> omega)) (by first | omega | (simp <;> omega)) ho' hg'; have q0 := p2.cell 0 _ rfl; have q1 := p2.frozen 0; have q4 : Ext w w' := Ext.trans (by (repeat (first | with_reducible exact Ext.refl _ | with_reducible assumption | ((with_reducible refine Ext.setCell ?_ ?_ _); rotate_left; focus (first | omega | (simp <;> omega))) | with_reducible refine Ext.alloc ?_ _ | with_reducible refine Ext.drewN ?_ _ | with_reducible refine Ext.drew ?_ | with_reducible refine Ext.trans ?_ (by with_reducible assumption)))) p1; have r4 : Ext w (w'.setCell ⟨w.heap.size + 1 + 1, 0, none⟩ (.slice A' (i + 1) c')) := Ext.trans (by (repeat (first | with_reducible exact Ext.refl _ | with_reducible assumption | ((with_reducible refine Ext.setCell ?_ ?_ _); rotate_left; focus (first | omega | (simp <;> omega))) | with_reducible refine Ext.alloc ?_ _ | with_reducible refine Ext.drewN ?_ _ | with_reducible refine Ext.drew ?_ | with_reducible refine Ext.trans ?_ (by with_reducible assumption)))) p3; have s0 := p1.cell (p := ⟨w.heap.size, 0, none⟩) (u := .slice (some ad) n c) (by simp [go_sem]); have s1 := q4.cell gc0; have t1 := r4.cell gc0)
      refine hK.out _ _ ?_ (fun hHeld => ?_)
      · ((try dsimp only); (refine ⟨?_, ?_⟩ <;> first | assumption | (simp [go_sem, *]; done)))
      clear hK K
      (try simp only [Act.put, List.setIfInBounds_toArray, List.set_cons_zero, List.set_cons_succ])
      refine heldTake 11 (v := ?_) rfl (by kernel_rfl) (by kernel_rfl) (by kernel_rfl) (fun _ _ _ h => h) (Or.inl ⟨by rfl, ?_⟩) (by assumption) ?_
      rotate_left 1
      focus (intro wS hSw; (try dsimp only at hSw); go_simp; (try with_reducible rfl))
      (try simp only [Act.put, List.setIfInBounds_toArray, List.set_cons_zero, List.set_cons_succ])
      refine wpAnyH_ready (rs := [12]) (by kernel_rfl) (by simp) ?_
      refine heldStep 12 rfl (fun K hK => ?_) AllReadyH.nil
      go_simp
      refine hK.out _ _ ?_ (fun hHeld => ?_)
      · ((try dsimp only); (refine ⟨?_, ?_⟩ <;> first | assumption | (simp [go_sem, *]; done)))
      clear hK K
      (try simp only [Act.put, List.setIfInBounds_toArray, List.set_cons_zero, List.set_cons_succ])
      refine wpAnyH_done (by kernel_rfl) ?_ _
      go_wp2
      exact ⟨⟨(by (repeat (first | exact trivial | refine ⟨rfl, ?_⟩))), p3, i + 1, by omega, by go_num, _, _, by simpa using p4, by rw [hzip.out]; simpa using p5⟩, (by simp [intOf] <;> omega)⟩
  · obtain rfl : i = n := by omega
    have hlen : F.take i = F := List.take_of_length_le (by have := HFl.out; omega)
    rw [hlen] at ho
    clear hlen
    go_wp2
    refine bodyPost_ret (v := .agg #[.slice X i z, .int .i64 (bd * k)]) (by simp [results, Try.results127, go_sem, *]) rfl ⟨_, _, rfl, ?_, ?_⟩
    · exact ((ho.setLow (by first | omega | (simp <;> omega)) _).setLow (by first | omega | (simp <;> omega)) _).lower (by first | omega | (simp <;> omega))
    · exact Ext.setCell (Ext.setCell hee (by first | omega | (simp <;> omega)) _) (by first | omega | (simp <;> omega)) _
set_option maxRecDepth 100000 in
set_option maxHeartbeats 1600000 in
theorem combined_c (fid : FuncId) (cap : Array Value) (f : Int → Int → Int) (A : Option Addr) (n c : Nat) (bd : Int) (xs : List Int) (B : Option Addr) (d : Nat) (be : Int) (ys : List Int) (w : World) (h : Ints w A n xs) (k : Ints w B n ys) (hn : n ≤ 12) (hxs : ∀ x ∈ xs, -1000 ≤ x ∧ x ≤ 1000) (hys : ∀ x ∈ ys, -1000 ≤ x ∧ x ≤ 1000) (hbd : -10000 ≤ bd ∧ bd ≤ 10000) (hbe : -10000 ≤ be ∧ be ≤ 10000)
    (hent : Enters Try.prog fid) (hf : ∀ a b W, -10000 ≤ a ∧ a ≤ 10000 → -10000 ≤ b ∧ b ≤ 10000 → Ext w W → Calls Try.prog fid (#[.int .i64 a, .int .i64 b] ++ cap) W fun e w' => e = .returned (.int .i64 (f a b)) ∧ W = w') :
    Calls Try.prog 121 #[.agg #[.slice A n c, .int .i64 bd], .agg #[.slice B n d, .int .i64 be], .func (.func fid) #[] cap] w fun e w' =>
      ∃ A' c', e = .returned (.agg #[.slice A' n c', .int .i64 (f bd be)]) ∧ Own w' w.heap.size 3 1 A' n c' ((List.zipWith f xs ys).map (Value.int .i64)) ∧ Ext w w' := by
  have HX := hide hxs
  have HY := hide hys
  have HL := hide h.len
  have KL := hide k.len
  have HE := hide hf
  clear hxs hys hf
  have hen : ∀ (args : Array Value) (W : World), (callFunc fid args).run Try.prog W = .ok (.enter fid args) W := hent
  have hF := fun (i : Nat) (x y : Int) hx hy => zip_take_succ (f := f) (xs := xs) (ys := ys) (i := i) (x := x) (y := y) hx hy
  have hFl : (List.zipWith f xs ys).length = n := by rw [List.length_zipWith]; have := HL.out; have := KL.out; omega
  generalize List.zipWith f xs ys = F at hF hFl ⊢
  have HF := hide hF
  have HFl := hide hFl
  clear hF hFl
  go_enter Try.func121, Try.ntmps121
  go_wp2_with (refine (HE.out _ _ _ hbd hbe (by (repeat (first | with_reducible exact Ext.refl _ | with_reducible assumption | ((with_reducible refine Ext.setCell ?_ ?_ _); rotate_left; focus (first | omega | (simp <;> omega))) | with_reducible refine Ext.alloc ?_ _ | with_reducible refine Ext.drewN ?_ _ | with_reducible refine Ext.drew ?_ | with_reducible refine Ext.trans ?_ (by with_reducible assumption))))).mono ?_; rintro e w1 ⟨rfl, rfl⟩)
  have h4 := BoxAt.made (((w.alloc (.cells #[.slice A n c, .int .i64 bd] 26)).alloc (.cells #[.slice B n d, .int .i64 be] 26)).alloc (.cells #[.slice none 0 0, .int .i64 0] 26)) #[.slice none 0 0, .int .i64 (f bd be)] 26
  refine wp_loopK _ rfl (fun KK acT wr => ∃ s0 s1 s2 s3 s4 s5 s6 s7 s8 s9 s10 s11 s12 s13 s14 s15 s16 s17 s18 s19 s20 s21 s22 s23 s24 s25 s26 s27 s28 s29 s30 s31 s32 s33 s34 s35 s36 s37 s38 s39 : Value, (KeptM [false, false, true, false, true, false, true, true, false, false, false, false, false, false, false, false, false, false, true, true, false, false, false, false, false, false, false, false, false, false, false, false, false, false, false, false, false, false, false, true] [s0, s1, s2, s3, s4, s5, s6, s7, s8, s9, s10, s11, s12, s13, s14, s15, s16, s17, s18, s19, s20, s21, s22, s23, s24, s25, s26, s27, s28, s29, s30, s31, s32, s33, s34, s35, s36, s37, s38, s39] KK ∧ (Ext (((w.alloc (.cells #[.slice A n c, .int .i64 bd] 26)).alloc (.cells #[.slice B n d, .int .i64 be] 26)).alloc (.cells #[.slice none 0 0, .int .i64 0] 26)) wr ∧ ∃ i : Nat, i ≤ n ∧ s20 = .int .i64 i ∧ ∃ X z, BoxAt wr (w.heap.size + 1 + 1 + 1) 26 #[.slice X i z, .int .i64 (f bd be)] ∧ Own wr (w.heap.size + 1 + 1 + 1 + 1) 3 1 X i z ((F.take i).map (Value.int .i64)))) ∧ acT = ⟨#[s0, s1, s2, s3, s4, s5, s6, s7, s8, s9, s10, s11, s12, s13, s14, s15, s16, s17, s18, s19, s20, s21, s22, s23, s24, s25, s26, s27, s28, s29, s30, s31, s32, s33, s34, s35, s36, s37, s38, s39], []⟩) (fun acT wr => (fun (s20 : Value) (wr : World) => n - (intOf s20).toNat) (acT.tmps.getD 20 undef) wr) ?_ ?_
  · (refine ⟨_, _, _, _, _, _, _, _, _, _, _, _, _, _, _, _, _, _, _, _, _, _, _, _, _, _, _, _, _, _, _, _, _, _, _, _, _, _, _, _, ⟨(by (repeat (first | exact trivial | refine ⟨rfl, ?_⟩))), ?_⟩, rfl⟩; exact ⟨by (repeat (first | with_reducible exact Ext.refl _ | with_reducible assumption | ((with_reducible refine Ext.setCell ?_ ?_ _); rotate_left; focus (first | omega | (simp <;> omega))) | with_reducible refine Ext.alloc ?_ _ | with_reducible refine Ext.drewN ?_ _ | with_reducible refine Ext.drew ?_ | with_reducible refine Ext.trans ?_ (by with_reducible assumption))), 0, by omega, rfl, _, _, by simpa using h4, by simpa using Own.nil _ _ _ _⟩)
  intro _ wr hinv; obtain ⟨s0, s1, s2, s3, s4, s5, s6, s7, s8, s9, s10, s11, s12, s13, s14, s15, s16, s17, s18, s19, s20, s21, s22, s23, s24, s25, s26, s27, s28, s29, s30, s31, s32, s33, s34, s35, s36, s37, s38, s39, ⟨hkept, hrel⟩, rfl⟩ := hinv; simp only [KeptM] at hkept; obtain ⟨rfl, rfl, rfl, rfl, rfl, rfl, rfl, -⟩ := hkept; (try dsimp only)
  clear h4
  obtain ⟨he, i, hi, rfl, X, z, hbx, ho⟩ := hrel
  have hee : Ext w wr := Ext.trans (by (repeat (first | with_reducible exact Ext.refl _ | with_reducible assumption | ((with_reducible refine Ext.setCell ?_ ?_ _); rotate_left; focus (first | omega | (simp <;> omega))) | with_reducible refine Ext.alloc ?_ _ | with_reducible refine Ext.drewN ?_ _ | with_reducible refine Ext.drew ?_ | with_reducible refine Ext.trans ?_ (by with_reducible assumption)))) he
  have bc10 := he.cell (p := ⟨w.heap.size, 0, none⟩) (u := .slice A n c) (by first | simp [go_sem] | simp [go_sem, *]); have bf10 := he.frozen (p := ⟨w.heap.size, 0, none⟩) (by first | omega | (simp <;> omega)) (by first | simp [go_sem] | simp [go_sem, *]); have bc11 := he.cell (p := ⟨w.heap.size, 1, none⟩) (u := .int .i64 bd) (by first | simp [go_sem] | simp [go_sem, *]); have bf11 := he.frozen (p := ⟨w.heap.size, 1, none⟩) (by first | omega | (simp <;> omega)) (by first | simp [go_sem] | simp [go_sem, *]); have bc12 := he.cell (p := ⟨w.heap.size + 1, 0, none⟩) (u := .slice B n d) (by first | simp [go_sem] | simp [go_sem, *]); have bf12 := he.frozen (p := ⟨w.heap.size + 1, 0, none⟩) (by first | omega | (simp <;> omega)) (by first | simp [go_sem] | simp [go_sem, *]); have bc13 := he.cell (p := ⟨w.heap.size + 1, 1, none⟩) (u := .int .i64 be) (by first | simp [go_sem] | simp [go_sem, *]); have bf13 := he.frozen (p := ⟨w.heap.size + 1, 1, none⟩) (by first | omega | (simp <;> omega)) (by first | simp [go_sem] | simp [go_sem, *]); have bc14 := he.cell (p := ⟨w.heap.size + 1 + 1, 0, none⟩) (u := .slice none 0 0) (by first | simp [go_sem] | simp [go_sem, *]); have bf14 := he.frozen (p := ⟨w.heap.size + 1 + 1, 0, none⟩) (by first | omega | (simp <;> omega)) (by first | simp [go_sem] | simp [go_sem, *]); have bc15 := he.cell (p := ⟨w.heap.size + 1 + 1, 1, none⟩) (u := .int .i64 0) (by first | simp [go_sem] | simp [go_sem, *]); have bf15 := he.frozen (p := ⟨w.heap.size + 1 + 1, 1, none⟩) (by first | omega | (simp <;> omega)) (by first | simp [go_sem] | simp [go_sem, *])
  have d0 := hbx.cell 0 _ rfl
  have d1 := hbx.cell 1 _ rfl
  have e0 := hbx.frozen 0
  by_cases hlt : i < n
  · obtain ⟨ad, x, rfl, hx, gc0⟩ := h.at_ hlt
    have hc0 := hee.cell gc0
    have hvx := HX.out x (List.mem_of_getElem? hx.out)
    obtain ⟨bd', y, rfl, hy, gc1⟩ := k.at_ hlt
    have hc1 := hee.cell gc1
    have hvy := HY.out y (List.mem_of_getElem? hy.out)
    have hzip := hide (HF.out i x y hx hy).out
    have hs := he.size
    simp at hs
    have hbl := hbx.lt
    go_wp2
    have hea : Ext wr (wr.alloc (.cells #[.int .i64 (f x y)] 3)).drew := by (repeat (first | with_reducible exact Ext.refl _ | with_reducible assumption | ((with_reducible refine Ext.setCell ?_ ?_ _); rotate_left; focus (first | omega | (simp <;> omega))) | with_reducible refine Ext.alloc ?_ _ | with_reducible refine Ext.drewN ?_ _ | with_reducible refine Ext.drew ?_ | with_reducible refine Ext.trans ?_ (by with_reducible assumption)))
    have a0 := hea.cell (he.cell (p := ⟨w.heap.size + 1, 0, none⟩) (u := .slice (some bd') n d) (by simp [go_sem])); have a1 := hea.cell (hc0); have a2 := hea.cell (hc1)
    refine wp_region_held_drew (S := (fun w' => w'.cell? ⟨w.heap.size + 1, 0, none⟩ = some (.slice (some bd') n d) ∧ w'.cell? (ad.add i) = some (.int .i64 x) ∧ w'.cell? (bd'.add i) = some (.int .i64 y))) (by kernel_rfl) ?_ (fun hHeld => ?_)
    · ((try dsimp only); (refine ⟨?_, ?_, ?_⟩ <;> first | assumption | (simp [go_sem, *]; done)))
    refine heldTake 0 (v := ?_) rfl (by kernel_rfl) (by kernel_rfl) (by kernel_rfl) (fun _ _ _ h => h) (Or.inl ⟨by rfl, ?_⟩) (by assumption) ?_
    rotate_left 1
    focus (intro wS hSw; (try dsimp only at hSw); go_simp; (try with_reducible rfl))
    (try simp only [Act.put, List.setIfInBounds_toArray, List.set_cons_zero, List.set_cons_succ])
    refine heldTake 2 (v := ?_) rfl (by kernel_rfl) (by kernel_rfl) (by kernel_rfl) (fun _ _ _ h => h) (Or.inl ⟨by rfl, ?_⟩) (by assumption) ?_
    rotate_left 1
    focus (intro wS hSw; (try dsimp only at hSw); go_simp; (try with_reducible rfl))
    (try simp only [Act.put, List.setIfInBounds_toArray, List.set_cons_zero, List.set_cons_succ])
    refine heldTake 3 (v := ?_) rfl (by kernel_rfl) (by kernel_rfl) (by kernel_rfl) (fun _ _ _ h => h) (Or.inl ⟨by rfl, ?_⟩) (by assumption) ?_
    rotate_left 1
    focus (intro wS hSw; (try dsimp only at hSw); go_simp; (try with_reducible rfl))
    (try simp only [Act.put, List.setIfInBounds_toArray, List.set_cons_zero, List.set_cons_succ])
    refine heldTake 4 (v := ?_) rfl (by kernel_rfl) (by kernel_rfl) (by kernel_rfl) (fun _ _ _ h => h) (Or.inl ⟨by rfl, ?_⟩) (by assumption) ?_
    rotate_left 1
    focus (intro wS hSw; (try dsimp only at hSw); go_simp; (try with_reducible rfl))
    (try simp only [Act.put, List.setIfInBounds_toArray, List.set_cons_zero, List.set_cons_succ])
    refine heldTake 5 (v := ?_) rfl (by kernel_rfl) (by kernel_rfl) (by kernel_rfl) (fun _ _ _ h => h) (Or.inl ⟨by rfl, ?_⟩) (by assumption) ?_
    rotate_left 1
    focus (intro wS hSw; (try dsimp only at hSw); go_simp; (try with_reducible rfl))
    (try simp only [Act.put, List.setIfInBounds_toArray, List.set_cons_zero, List.set_cons_succ])
    refine heldTake 6 (v := ?_) rfl (by kernel_rfl) (by kernel_rfl) (by kernel_rfl) (fun _ _ _ h => h) (Or.inl ⟨by rfl, ?_⟩) (by assumption) ?_
    rotate_left 1
    focus (intro wS hSw; (try dsimp only at hSw); go_simp; (try with_reducible rfl))
    (try simp only [Act.put, List.setIfInBounds_toArray, List.set_cons_zero, List.set_cons_succ])
    refine heldTake 7 (v := ?_) rfl (by kernel_rfl) (by kernel_rfl) (by kernel_rfl) (fun _ _ _ h => h) (Or.inl ⟨by rfl, ?_⟩) (by assumption) ?_
    rotate_left 1
    focus (intro wS hSw; (try dsimp only at hSw); go_simp; (try with_reducible rfl))
    (try simp only [Act.put, List.setIfInBounds_toArray, List.set_cons_zero, List.set_cons_succ])
    refine heldTake 8 (v := ?_) rfl (by kernel_rfl) (by kernel_rfl) (by kernel_rfl) (fun _ _ _ h => h) (Or.inl ⟨by rfl, ?_⟩) (by assumption) ?_
    rotate_left 1
    focus (intro wS hSw; (try dsimp only at hSw); go_simp; (try with_reducible rfl))
    (try simp only [Act.put, List.setIfInBounds_toArray, List.set_cons_zero, List.set_cons_succ])
    refine wpAnyH_ready (rs := [1, 9]) (by kernel_rfl) (by simp) ?_
    refine (heldStep 1 rfl (fun K hK => ?_) (heldStep 9 rfl (fun K hK => ?_) AllReadyH.nil))
    · skip
      go_simp
      refine hK.out _ _ ?_ (fun hHeld => ?_)
      · ((try dsimp only); (refine ⟨?_, ?_, ?_⟩ <;> first | assumption | (simp [go_sem, *]; done)))
      clear hK K
      (try simp only [Act.put, List.setIfInBounds_toArray, List.set_cons_zero, List.set_cons_succ])
      refine wpAnyH_ready (rs := [9]) (by kernel_rfl) (by simp) ?_
      refine heldStep 9 rfl (fun K hK => ?_) AllReadyH.nil
      (go_simp; refine (HE.out _ _ _ (by omega) (by omega) (by (repeat (first | with_reducible exact Ext.refl _ | with_reducible assumption | ((with_reducible refine Ext.setCell ?_ ?_ _); rotate_left; focus (first | omega | (simp <;> omega))) | with_reducible refine Ext.alloc ?_ _ | with_reducible refine Ext.drewN ?_ _ | with_reducible refine Ext.drew ?_ | with_reducible refine Ext.trans ?_ (by with_reducible assumption))))).mono ?_; rintro e w1 ⟨rfl, rfl⟩; (try go_wp2_with fail))
      refine hK.out _ _ ?_ (fun hHeld => ?_)
      · ((try dsimp only); (refine ⟨?_, ?_, ?_⟩ <;> first | assumption | (simp [go_sem, *]; done)))
      clear hK K
      (try simp only [Act.put, List.setIfInBounds_toArray, List.set_cons_zero, List.set_cons_succ])
      refine wpAnyH_ready (rs := [10]) (by kernel_rfl) (by simp) ?_
      refine heldStep 10 rfl (fun K hK => ?_) AllReadyH.nil
      go_simp
      refine hK.out _ _ ?_ (fun hHeld => ?_)
      · ((try dsimp only); (refine ⟨?_, ?_, ?_⟩ <;> first | assumption | (simp [go_sem, *]; done)))
      clear hK K
      (try simp only [Act.put, List.setIfInBounds_toArray, List.set_cons_zero, List.set_cons_succ])
      refine wpAnyH_ready (rs := [11]) (by kernel_rfl) (by simp) ?_
      refine heldStep 11 rfl (fun K hK => ?_) AllReadyH.nil
      (refine step_app (by rfl) _ _ 22 _ (by rfl) Try.underlying22 _ 1 8 info_int rfl (by decide) (by rfl) (ho.ext hea) wr.heap.size 1 [.int .i64 (f x y)] (by rfl) (by rfl) (heap_alloc_new _ _) (by intro u hu; simp at hu; first | (subst hu; rfl) | (rcases hu with rfl | rfl <;> rfl) | (rcases hu with rfl | rfl | rfl <;> rfl)) (by omega) (by omega) (by first | omega | (simp <;> omega)) ?_; intro A' c' w' ho' hg'; obtain ⟨p1, p2, p3, p4, p5⟩ := pushedI (D := 26) (b := w.heap.size + 1 + 1 + 1) (he.trans hea) (hbx.ext hea) (ho.ext hea) (by decide) (by first | omega | (simp <;> omega)) (by first | omega | (simp <;> omega)) ho' hg'; have q0 := p2.cell 0 _ rfl; have q1 := p2.frozen 0; have q4 : Ext w w' := Ext.trans (by (repeat (first | with_reducible exact Ext.refl _ | with_reducible assumption | ((with_reducible refine Ext.setCell ?_ ?_ _); rotate_left; focus (first | omega | (simp <;> omega))) | with_reducible refine Ext.alloc ?_ _ | with_reducible refine Ext.drewN ?_ _ | with_reducible refine Ext.drew ?_ | with_reducible refine Ext.trans ?_ (by with_reducible assumption)))) p1; have r4 : Ext w (w'.setCell ⟨w.heap.size + 1 + 1 + 1, 0, none⟩ (.slice A' (i + 1) c')) := Ext.trans (by (repeat (first | with_reducible exact Ext.refl _ | with_reducible assumption | ((with_reducible refine Ext.setCell ?_ ?_ _); rotate_left; focus (first | omega | (simp <;> omega))) | with_reducible refine Ext.alloc ?_ _ | with_reducible refine Ext.drewN ?_ _ | with_reducible refine Ext.drew ?_ | with_reducible refine Ext.trans ?_ (by with_reducible assumption)))) p3; have s0 := p1.cell (p := ⟨w.heap.size + 1, 0, none⟩) (u := .slice (some bd') n d) (by simp [go_sem]); have s1 := q4.cell gc0; have t1 := r4.cell gc0; have s2 := q4.cell gc1; have t2 := r4.cell gc1)
      refine hK.out _ _ ?_ (fun hHeld => ?_)
      · ((try dsimp only); (refine ⟨?_, ?_, ?_⟩ <;> first | assumption | (simp [go_sem, *]; done)))
      clear hK K
      (try simp only [Act.put, List.setIfInBounds_toArray, List.set_cons_zero, List.set_cons_succ])
      refine heldTake 12 (v := ?_) rfl (by kernel_rfl) (by kernel_rfl) (by kernel_rfl) (fun _ _ _ h => h) (Or.inl ⟨by rfl, ?_⟩) (by assumption) ?_
      rotate_left 1
      focus (intro wS hSw; (try dsimp only at hSw); go_simp; (try with_reducible rfl))
      (try simp only [Act.put, List.setIfInBounds_toArray, List.set_cons_zero, List.set_cons_succ])
      refine wpAnyH_ready (rs := [13]) (by kernel_rfl) (by simp) ?_
      refine heldStep 13 rfl (fun K hK => ?_) AllReadyH.nil
      go_simp
      refine hK.out _ _ ?_ (fun hHeld => ?_)
      · ((try dsimp only); (refine ⟨?_, ?_, ?_⟩ <;> first | assumption | (simp [go_sem, *]; done)))
      clear hK K
      (try simp only [Act.put, List.setIfInBounds_toArray, List.set_cons_zero, List.set_cons_succ])
      refine wpAnyH_done (by kernel_rfl) ?_ _
      go_wp2
      exact ⟨⟨(by (repeat (first | exact trivial | refine ⟨rfl, ?_⟩))), p3, i + 1, by omega, by go_num, _, _, by simpa using p4, by rw [hzip.out]; simpa using p5⟩, (by simp [intOf] <;> omega)⟩
    · skip
      (go_simp; refine (HE.out _ _ _ (by omega) (by omega) (by (repeat (first | with_reducible exact Ext.refl _ | with_reducible assumption | ((with_reducible refine Ext.setCell ?_ ?_ _); rotate_left; focus (first | omega | (simp <;> omega))) | with_reducible refine Ext.alloc ?_ _ | with_reducible refine Ext.drewN ?_ _ | with_reducible refine Ext.drew ?_ | with_reducible refine Ext.trans ?_ (by with_reducible assumption))))).mono ?_; rintro e w1 ⟨rfl, rfl⟩; (try go_wp2_with fail))
      refine hK.out _ _ ?_ (fun hHeld => ?_)
      · ((try dsimp only); (refine ⟨?_, ?_, ?_⟩ <;> first | assumption | (simp [go_sem, *]; done)))
      clear hK K
      (try simp only [Act.put, List.setIfInBounds_toArray, List.set_cons_zero, List.set_cons_succ])
      refine wpAnyH_ready (rs := [1, 10]) (by kernel_rfl) (by simp) ?_
      refine (heldStep 1 rfl (fun K hK => ?_) (heldStep 10 rfl (fun K hK => ?_) AllReadyH.nil))
      · skip
        go_simp
        refine hK.out _ _ ?_ (fun hHeld => ?_)
        · ((try dsimp only); (refine ⟨?_, ?_, ?_⟩ <;> first | assumption | (simp [go_sem, *]; done)))
        clear hK K
        (try simp only [Act.put, List.setIfInBounds_toArray, List.set_cons_zero, List.set_cons_succ])
        refine wpAnyH_ready (rs := [10]) (by kernel_rfl) (by simp) ?_
        refine heldStep 10 rfl (fun K hK => ?_) AllReadyH.nil
        go_simp
        refine hK.out _ _ ?_ (fun hHeld => ?_)
        · ((try dsimp only); (refine ⟨?_, ?_, ?_⟩ <;> first | assumption | (simp [go_sem, *]; done)))
        clear hK K
        (try simp only [Act.put, List.setIfInBounds_toArray, List.set_cons_zero, List.set_cons_succ])
        refine wpAnyH_ready (rs := [11]) (by kernel_rfl) (by simp) ?_
        refine heldStep 11 rfl (fun K hK => ?_) AllReadyH.nil
        (refine step_app (by rfl) _ _ 22 _ (by rfl) Try.underlying22 _ 1 8 info_int rfl (by decide) (by rfl) (ho.ext hea) wr.heap.size 1 [.int .i64 (f x y)] (by rfl) (by rfl) (heap_alloc_new _ _) (by intro u hu; simp at hu; first | (subst hu; rfl) | (rcases hu with rfl | rfl <;> rfl) | (rcases hu with rfl | rfl | rfl <;> rfl)) (by omega) (by omega) (by first | omega | (simp <;> omega)) ?_; intro A' c' w' ho' hg'; obtain ⟨p1, p2, p3, p4, p5⟩ := pushedI (D := 26) (b := w.heap.size + 1 + 1 + 1) (he.trans hea) (hbx.ext hea) (ho.ext hea) (by decide) (by first | omega | (simp <;> omega)) (by first | omega | (simp <;> omega)) ho' hg'; have q0 := p2.cell 0 _ rfl; have q1 := p2.frozen 0; have q4 : Ext w w' := Ext.trans (by (repeat (first | with_reducible exact Ext.refl _ | with_reducible assumption | ((with_reducible refine Ext.setCell ?_ ?_ _); rotate_left; focus (first | omega | (simp <;> omega))) | with_reducible refine Ext.alloc ?_ _ | with_reducible refine Ext.drewN ?_ _ | with_reducible refine Ext.drew ?_ | with_reducible refine Ext.trans ?_ (by with_reducible assumption)))) p1; have r4 : Ext w (w'.setCell ⟨w.heap.size + 1 + 1 + 1, 0, none⟩ (.slice A' (i + 1) c')) := Ext.trans (by (repeat (first | with_reducible exact Ext.refl _ | with_reducible assumption | ((with_reducible refine Ext.setCell ?_ ?_ _); rotate_left; focus (first | omega | (simp <;> omega))) | with_reducible refine Ext.alloc ?_ _ | with_reducible refine Ext.drewN ?_ _ | with_reducible refine Ext.drew ?_ | with_reducible refine Ext.trans ?_ (by with_reducible assumption)))) p3; have s0 := p1.cell (p := ⟨w.heap.size + 1, 0, none⟩) (u := .slice (some bd') n d) (by simp [go_sem]); have s1 := q4.cell gc0; have t1 := r4.cell gc0; have s2 := q4.cell gc1; have t2 := r4.cell gc1)
        refine hK.out _ _ ?_ (fun hHeld => ?_)
        · ((try dsimp only); (refine ⟨?_, ?_, ?_⟩ <;> first | assumption | (simp [go_sem, *]; done)))
        clear hK K
        (try simp only [Act.put, List.setIfInBounds_toArray, List.set_cons_zero, List.set_cons_succ])
        refine heldTake 12 (v := ?_) rfl (by kernel_rfl) (by kernel_rfl) (by kernel_rfl) (fun _ _ _ h => h) (Or.inl ⟨by rfl, ?_⟩) (by assumption) ?_
        rotate_left 1
        focus (intro wS hSw; (try dsimp only at hSw); go_simp; (try with_reducible rfl))
        (try simp only [Act.put, List.setIfInBounds_toArray, List.set_cons_zero, List.set_cons_succ])
        refine wpAnyH_ready (rs := [13]) (by kernel_rfl) (by simp) ?_
        refine heldStep 13 rfl (fun K hK => ?_) AllReadyH.nil
        go_simp
        refine hK.out _ _ ?_ (fun hHeld => ?_)
        · ((try dsimp only); (refine ⟨?_, ?_, ?_⟩ <;> first | assumption | (simp [go_sem, *]; done)))
        clear hK K
        (try simp only [Act.put, List.setIfInBounds_toArray, List.set_cons_zero, List.set_cons_succ])
        refine wpAnyH_done (by kernel_rfl) ?_ _
        go_wp2
        exact ⟨⟨(by (repeat (first | exact trivial | refine ⟨rfl, ?_⟩))), p3, i + 1, by omega, by go_num, _, _, by simpa using p4, by rw [hzip.out]; simpa using p5⟩, (by simp [intOf] <;> omega)⟩
      · skip
        go_simp
        refine hK.out _ _ ?_ (fun hHeld => ?_)
        · ((try dsimp only); (refine ⟨?_, ?_, ?_⟩ <;> first | assumption | (simp [go_sem, *]; done)))
        clear hK K
        (try simp only [Act.put, List.setIfInBounds_toArray, List.set_cons_zero, List.set_cons_succ])
        refine wpAnyH_ready (rs := [1]) (by kernel_rfl) (by simp) ?_
        refine heldStep 1 rfl (fun K hK => ?_) AllReadyH.nil
        go_simp
        refine hK.out _ _ ?_ (fun hHeld => ?_)
        · ((try dsimp only); (refine ⟨?_, ?_, ?_⟩ <;> first | assumption | (simp [go_sem, *]; done)))
        clear hK K
        (try simp only [Act.put, List.setIfInBounds_toArray, List.set_cons_zero, List.set_cons_succ])
        refine wpAnyH_ready (rs := [11]) (by kernel_rfl) (by simp) ?_
        refine heldStep 11 rfl (fun K hK => ?_) AllReadyH.nil
        (refine step_app (by rfl) _ _ 22 _ (by rfl) Try.underlying22 _ 1 8 info_int rfl (by decide) (by rfl) (ho.ext hea) wr.heap.size 1 [.int .i64 (f x y)] (by rfl) (by rfl) (heap_alloc_new _ _) (by intro u hu; simp at hu; first | (subst hu; rfl) | (rcases hu with rfl | rfl <;> rfl) | (rcases hu with rfl | rfl | rfl <;> rfl)) (by omega) (by omega) (by first | omega | (simp <;> omega)) ?_; intro A' c' w' ho' hg'; obtain ⟨p1, p2, p3, p4, p5⟩ := pushedI (D := 26) (b := w.heap.size + 1 + 1 + 1) (he.trans hea) (hbx.ext hea) (ho.ext hea) (by decide) (by first | omega | (simp <;> omega)) (by first | omega | (simp <;> omega)) ho' hg'; have q0 := p2.cell 0 _ rfl; have q1 := p2.frozen 0; have q4 : Ext w w' := Ext.trans (by (repeat (first | with_reducible exact Ext.refl _ | with_reducible assumption | ((with_reducible refine Ext.setCell ?_ ?_ _); rotate_left; focus (first | omega | (simp <;> omega))) | with_reducible refine Ext.alloc ?_ _ | with_reducible refine Ext.drewN ?_ _ | with_reducible refine Ext.drew ?_ | with_reducible refine Ext.trans ?_ (by with_reducible assumption)))) p1; have r4 : Ext w (w'.setCell ⟨w.heap.size + 1 + 1 + 1, 0, none⟩ (.slice A' (i + 1) c')) := Ext.trans (by (repeat (first | with_reducible exact Ext.refl _ | with_reducible assumption | ((with_reducible refine Ext.setCell ?_ ?_ _); rotate_left; focus (first | omega | (simp <;> omega))) | with_reducible refine Ext.alloc ?_ _ | with_reducible refine Ext.drewN ?_ _ | with_reducible refine Ext.drew ?_ | with_reducible refine Ext.trans ?_ (by with_reducible assumption)))) p3; have s0 := p1.cell (p := ⟨w.heap.size + 1, 0, none⟩) (u := .slice (some bd') n d) (by simp [go_sem]); have s1 := q4.cell gc0; have t1 := r4.cell gc0; have s2 := q4.cell gc1; have t2 := r4.cell gc1)
        refine hK.out _ _ ?_ (fun hHeld => ?_)
        · ((try dsimp only); (refine ⟨?_, ?_, ?_⟩ <;> first | assumption | (simp [go_sem, *]; done)))
        clear hK K
        (try simp only [Act.put, List.setIfInBounds_toArray, List.set_cons_zero, List.set_cons_succ])
        refine heldTake 12 (v := ?_) rfl (by kernel_rfl) (by kernel_rfl) (by kernel_rfl) (fun _ _ _ h => h) (Or.inl ⟨by rfl, ?_⟩) (by assumption) ?_
        rotate_left 1
        focus (intro wS hSw; (try dsimp only at hSw); go_simp; (try with_reducible rfl))
        (try simp only [Act.put, List.setIfInBounds_toArray, List.set_cons_zero, List.set_cons_succ])
        refine wpAnyH_ready (rs := [13]) (by kernel_rfl) (by simp) ?_
        refine heldStep 13 rfl (fun K hK => ?_) AllReadyH.nil
        go_simp
        refine hK.out _ _ ?_ (fun hHeld => ?_)
        · ((try dsimp only); (refine ⟨?_, ?_, ?_⟩ <;> first | assumption | (simp [go_sem, *]; done)))
        clear hK K
        (try simp only [Act.put, List.setIfInBounds_toArray, List.set_cons_zero, List.set_cons_succ])
        refine wpAnyH_done (by kernel_rfl) ?_ _
        go_wp2
        exact ⟨⟨(by (repeat (first | exact trivial | refine ⟨rfl, ?_⟩))), p3, i + 1, by omega, by go_num, _, _, by simpa using p4, by rw [hzip.out]; simpa using p5⟩, (by simp [intOf] <;> omega)⟩
  · obtain rfl : i = n := by omega
    have hlen : F.take i = F := List.take_of_length_le (by have := HFl.out; omega)
    rw [hlen] at ho
    clear hlen
    go_wp2
    refine bodyPost_ret (v := .agg #[.slice X i z, .int .i64 (f bd be)]) (by simp [results, Try.results121, go_sem, *]) rfl ⟨_, _, rfl, ?_, ?_⟩
    · exact ((ho.setLow (by first | omega | (simp <;> omega)) _).setLow (by first | omega | (simp <;> omega)) _).lower (by first | omega | (simp <;> omega))
    · exact Ext.setCell (Ext.setCell hee (by first | omega | (simp <;> omega)) _) (by first | omega | (simp <;> omega)) _
end Go.Proofs.Ytebklankehkmhaa
