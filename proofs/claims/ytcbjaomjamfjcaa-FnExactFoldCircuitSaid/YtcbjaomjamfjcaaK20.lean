/-
  Folding: the program's keep; no condition. (Under way.)
-/
import Derived.Test.YtcbjaomjamfjcaaK19
namespace Go.Proofs.Ytcbjaomjamfjcaa
set_option linter.unusedSimpArgs false
set_option linter.unusedVariables false
open Go.RowKit

/-- The folder's box, and what it keeps. -/
structure Folder (w : World) (X base : Nat) (A : Option Addr) (n c : Nat) (gs : List Gt) : Prop where
  box : BoxAt w X 144 #[.slice A n c]
  own : Own w base 86 3 A n c ((fl gs).map (Value.int .i64))
  len : gs.length = n
theorem Folder.ext {w w' : World} {X base : Nat} {A : Option Addr} {n c : Nat} {gs : List Gt} (h : Folder w X base A n c gs) (he : Ext w w') : Folder w' X base A n c gs := ⟨h.box.ext he, h.own.ext he, h.len⟩
theorem Folder.gates {w : World} {X base : Nat} {A : Option Addr} {n c : Nat} {gs : List Gt} (h : Folder w X base A n c gs) (hn : n ≤ 200) : Gates w A n gs := (ObF.of (e := 86) (sz := 3) h.own (by omega)).gates
theorem folder_push {w1 wr w' : World} {X base b : Nat} {A A' : Option Addr} {n c c' : Nat} {gs : List Gt} {g : Gt} {cs : Array Value} (h : Folder w1 X base A n c gs) (he : Ext w1 wr) (hb : BoxAt wr b 86 cs) (hbX : b ≠ X)
    (hbo : (Value.slice A n c).ownBlock ≠ some b) (ho' : Own w' base 86 3 A' (n + 1) c' ((fl (gs ++ [g])).map (Value.int .i64))) (hg' : wr.grownBy w' (Value.slice A n c).ownBlock) :
    BoxAt w' X 144 #[.slice A n c] ∧ BoxAt w' b 86 cs ∧ BoxAt (w'.setCell ⟨X, 0, none⟩ (.slice A' (n + 1) c')) b 86 cs ∧ Folder (w'.setCell ⟨X, 0, none⟩ (.slice A' (n + 1) c')) X base A' (n + 1) c' (gs ++ [g]) ∧
      w1.grownBy w' (Value.slice A n c).ownBlock ∧ w'.grownBy (w'.setCell ⟨X, 0, none⟩ (.slice A' (n + 1) c')) (some X) := by
  have h1 := (h.box.ext he).grown (h.own.ext he) (by decide) hg'
  have h2 : BoxAt w' b 86 cs := (hg'.block b hb.lt (fun e => hbo e.symm)).trans hb
  exact ⟨h1, h2, h2.setOther (p := ⟨X, 0, none⟩) hbX _, ⟨h1.set 0 _, ho'.storeOther (p := ⟨X, 0, none⟩) _ (fun e => h1.ne ho' (by decide) e), by have := h.len; simp [this]⟩, (he.grownBy _).trans hg', grownBy_setCell' _ _ _⟩
set_option maxRecDepth 100000 in
set_option maxHeartbeats 3200000 in
theorem keep_o (X base : Nat) (A : Option Addr) (n c : Nat) (x y z : Int) (gs : List Gt) (w : World) (h : Folder w X base A n c gs) (hn : n ≤ 200) (hbase : base ≤ w.heap.size) :
    Calls Try.prog 159 #[.pointer (some ⟨X, 0, none⟩), .agg #[.int .i64 x, .int .i64 y, .int .i64 z]] w fun e w' =>
      e = .returned (.int .i64 (keepG gs (x, y, z)).1) ∧ ∃ A' n' c', Folder w' X base A' n' c' (keepG gs (x, y, z)).2 ∧ ∃ wm, w.grownBy wm (Value.slice A n c).ownBlock ∧ wm.grownBy w' (some X) := by
  obtain ⟨W1, hW1⟩ : ∃ W1, W1 = w.alloc (.cells #[.int .i64 x, .int .i64 y, .int .i64 z] 86) := ⟨_, rfl⟩
  have eW : Ext w W1 := by rw [hW1]; exact (Ext.refl _).alloc _
  have hbx : BoxAt W1 w.heap.size 86 #[.int .i64 x, .int .i64 y, .int .i64 z] := by rw [hW1]; exact BoxAt.made w _ _
  have k0 : W1.cell? ⟨w.heap.size, 0, none⟩ = some (.int .i64 x) := hbx.cell 0 _ rfl
  have k1 : W1.cell? ⟨w.heap.size, 1, none⟩ = some (.int .i64 y) := hbx.cell 1 _ rfl
  have k2 : W1.cell? ⟨w.heap.size, 2, none⟩ = some (.int .i64 z) := hbx.cell 2 _ rfl
  have k3 : W1.cell? ⟨X, 0, none⟩ = some (.slice A n c) := eW.cell (h.box.cell 0 _ rfl)
  have HC := hide (fun W (E : Ext w W) => Index_gate_c A n c x y z gs W ((h.gates hn).ext E))
  rcases idxOf_range (p := (· == (x, y, z))) gs 0 with hq | ⟨hq1, hq2⟩
  rotate_left
  · obtain ⟨i, hq⟩ : ∃ i : Nat, idxOf (· == (x, y, z)) gs 0 = (i : Int) := ⟨(idxOf (· == (x, y, z)) gs 0).toNat, by omega⟩
    have hk := hide (keepG_hit (gs := gs) hq)
    rw [hq] at HC
    rw [hk.out]
    have HF := hide h
    clear hq hq1 hq2 hk h
    go_enter Try.func159, Try.ntmps159
    go_wp2_with fail
    rw [← hW1]
    have hed := (Ext.refl W1).drew
    clear hW1
    go_region_held3 (fun w' => w'.cell? ⟨X, 0, none⟩ = some (.slice A n c) ∧ w'.cell? ⟨w.heap.size, 0, none⟩ = some (.int .i64 x) ∧ w'.cell? ⟨w.heap.size, 1, none⟩ = some (.int .i64 y) ∧ w'.cell? ⟨w.heap.size, 2, none⟩ = some (.int .i64 z)) (exact ⟨(show Ext W1 _ by (repeat (first | with_reducible exact Ext.refl _ | with_reducible assumption | ((with_reducible refine Ext.setCell ?_ ?_ _); rotate_left; focus (first | omega | (simp <;> omega))) | with_reducible refine Ext.alloc ?_ _ | with_reducible refine Ext.drewN ?_ _ | with_reducible refine Ext.drew ?_ | with_reducible refine Ext.trans ?_ (by with_reducible assumption)))).cell k3, (show Ext W1 _ by (repeat (first | with_reducible exact Ext.refl _ | with_reducible assumption | ((with_reducible refine Ext.setCell ?_ ?_ _); rotate_left; focus (first | omega | (simp <;> omega))) | with_reducible refine Ext.alloc ?_ _ | with_reducible refine Ext.drewN ?_ _ | with_reducible refine Ext.drew ?_ | with_reducible refine Ext.trans ?_ (by with_reducible assumption)))).cell k0, (show Ext W1 _ by (repeat (first | with_reducible exact Ext.refl _ | with_reducible assumption | ((with_reducible refine Ext.setCell ?_ ?_ _); rotate_left; focus (first | omega | (simp <;> omega))) | with_reducible refine Ext.alloc ?_ _ | with_reducible refine Ext.drewN ?_ _ | with_reducible refine Ext.drew ?_ | with_reducible refine Ext.trans ?_ (by with_reducible assumption)))).cell k1, (show Ext W1 _ by (repeat (first | with_reducible exact Ext.refl _ | with_reducible assumption | ((with_reducible refine Ext.setCell ?_ ?_ _); rotate_left; focus (first | omega | (simp <;> omega))) | with_reducible refine Ext.alloc ?_ _ | with_reducible refine Ext.drewN ?_ _ | with_reducible refine Ext.drew ?_ | with_reducible refine Ext.trans ?_ (by with_reducible assumption)))).cell k2⟩) (first | (go_at_call 168; (with_reducible refine (HC.out _ (eW.trans (by (repeat (first | with_reducible exact Ext.refl _ | with_reducible assumption | ((with_reducible refine Ext.setCell ?_ ?_ _); rotate_left; focus (first | omega | (simp <;> omega))) | with_reducible refine Ext.alloc ?_ _ | with_reducible refine Ext.drewN ?_ _ | with_reducible refine Ext.drew ?_ | with_reducible refine Ext.trans ?_ (by with_reducible assumption)))))).mono ?_); rintro e w1 ⟨rfl, he1⟩; have ew1 : Ext W1 w1 := (by (repeat (first | with_reducible exact Ext.refl _ | with_reducible assumption | ((with_reducible refine Ext.setCell ?_ ?_ _); rotate_left; focus (first | omega | (simp <;> omega))) | with_reducible refine Ext.alloc ?_ _ | with_reducible refine Ext.drewN ?_ _ | with_reducible refine Ext.drew ?_ | with_reducible refine Ext.trans ?_ (by with_reducible assumption))))))
    have e1 := eW.trans ew1
    go_wp2_with fail
    go_ret
    exact ⟨rfl, _, _, _, HF.out.ext e1, _, e1.grownBy _, (Ext.refl _).grownBy _⟩
  · have hk := hide (keepG_miss (gs := gs) hq)
    rw [hq] at HC
    rw [hk.out, h.len]
    have HF := hide h
    clear hq hk h
    go_enter Try.func159, Try.ntmps159
    go_wp2_with fail
    rw [← hW1]
    have hed := (Ext.refl W1).drew
    clear hW1
    go_region_held3 (fun w' => w'.cell? ⟨X, 0, none⟩ = some (.slice A n c) ∧ w'.cell? ⟨w.heap.size, 0, none⟩ = some (.int .i64 x) ∧ w'.cell? ⟨w.heap.size, 1, none⟩ = some (.int .i64 y) ∧ w'.cell? ⟨w.heap.size, 2, none⟩ = some (.int .i64 z)) (exact ⟨(show Ext W1 _ by (repeat (first | with_reducible exact Ext.refl _ | with_reducible assumption | ((with_reducible refine Ext.setCell ?_ ?_ _); rotate_left; focus (first | omega | (simp <;> omega))) | with_reducible refine Ext.alloc ?_ _ | with_reducible refine Ext.drewN ?_ _ | with_reducible refine Ext.drew ?_ | with_reducible refine Ext.trans ?_ (by with_reducible assumption)))).cell k3, (show Ext W1 _ by (repeat (first | with_reducible exact Ext.refl _ | with_reducible assumption | ((with_reducible refine Ext.setCell ?_ ?_ _); rotate_left; focus (first | omega | (simp <;> omega))) | with_reducible refine Ext.alloc ?_ _ | with_reducible refine Ext.drewN ?_ _ | with_reducible refine Ext.drew ?_ | with_reducible refine Ext.trans ?_ (by with_reducible assumption)))).cell k0, (show Ext W1 _ by (repeat (first | with_reducible exact Ext.refl _ | with_reducible assumption | ((with_reducible refine Ext.setCell ?_ ?_ _); rotate_left; focus (first | omega | (simp <;> omega))) | with_reducible refine Ext.alloc ?_ _ | with_reducible refine Ext.drewN ?_ _ | with_reducible refine Ext.drew ?_ | with_reducible refine Ext.trans ?_ (by with_reducible assumption)))).cell k1, (show Ext W1 _ by (repeat (first | with_reducible exact Ext.refl _ | with_reducible assumption | ((with_reducible refine Ext.setCell ?_ ?_ _); rotate_left; focus (first | omega | (simp <;> omega))) | with_reducible refine Ext.alloc ?_ _ | with_reducible refine Ext.drewN ?_ _ | with_reducible refine Ext.drew ?_ | with_reducible refine Ext.trans ?_ (by with_reducible assumption)))).cell k2⟩) (first | (go_at_call 168; (with_reducible refine (HC.out _ (eW.trans (by (repeat (first | with_reducible exact Ext.refl _ | with_reducible assumption | ((with_reducible refine Ext.setCell ?_ ?_ _); rotate_left; focus (first | omega | (simp <;> omega))) | with_reducible refine Ext.alloc ?_ _ | with_reducible refine Ext.drewN ?_ _ | with_reducible refine Ext.drew ?_ | with_reducible refine Ext.trans ?_ (by with_reducible assumption)))))).mono ?_); rintro e w1 ⟨rfl, he1⟩; have ew1 : Ext W1 w1 := (by (repeat (first | with_reducible exact Ext.refl _ | with_reducible assumption | ((with_reducible refine Ext.setCell ?_ ?_ _); rotate_left; focus (first | omega | (simp <;> omega))) | with_reducible refine Ext.alloc ?_ _ | with_reducible refine Ext.drewN ?_ _ | with_reducible refine Ext.drew ?_ | with_reducible refine Ext.trans ?_ (by with_reducible assumption))))))
    have e1 := eW.trans ew1
    have hb1 := hbx.ext ew1
    have hXlt := HF.out.box.lt
    have hlt1 := hb1.lt
    have hrow : Hid ((Value.slice A n c).ownBlock ≠ some w.heap.size) := hide (fun hk => by have := (HF.out.own.lt _ hk).2; omega)
    have HX := hide (HF.out.ext e1)
    have hz1 := e1.size
    have hea : Ext w1 (w1.alloc (.cells #[.int .i64 x, .int .i64 y, .int .i64 z] 86)).drew := by (repeat (first | with_reducible exact Ext.refl _ | with_reducible assumption | ((with_reducible refine Ext.setCell ?_ ?_ _); rotate_left; focus (first | omega | (simp <;> omega))) | with_reducible refine Ext.alloc ?_ _ | with_reducible refine Ext.drewN ?_ _ | with_reducible refine Ext.drew ?_ | with_reducible refine Ext.trans ?_ (by with_reducible assumption)))
    have j0 : w1.cell? ⟨w.heap.size, 0, none⟩ = some (.int .i64 x) := hb1.cell 0 _ rfl
    have j1 : w1.cell? ⟨w.heap.size, 1, none⟩ = some (.int .i64 y) := hb1.cell 1 _ rfl
    have j2 : w1.cell? ⟨w.heap.size, 2, none⟩ = some (.int .i64 z) := hb1.cell 2 _ rfl
    have j3 : w1.cell? ⟨X, 0, none⟩ = some (.slice A n c) := HX.out.box.cell 0 _ rfl
    have hd1 : Ext w1 w1.drew := (Ext.refl w1).drew
    have b0 := hd1.cell j0
    have b1 := hd1.cell j1
    have b2 := hd1.cell j2
    have b3 := hd1.cell j3
    have a0 := hea.cell j0
    have a1 := hea.cell j1
    have a2 := hea.cell j2
    have a3 := hea.cell j3
    clear HF HC k0 k1 k2 k3 hed hbx
    go_wp2_with fail
    refine wp_region_held_drew (S := (fun w' => w'.cell? ⟨w.heap.size, 0, none⟩ = some (.int .i64 x) ∧ w'.cell? ⟨w.heap.size, 1, none⟩ = some (.int .i64 y) ∧ w'.cell? ⟨w.heap.size, 2, none⟩ = some (.int .i64 z))) (by kernel_rfl) ?_ (fun hHeld => ?_)
    · ((try dsimp only); (refine ⟨?_, ?_, ?_⟩ <;> first | assumption | (simp [go_sem, *]; done)))
    refine heldTake 0 (v := ?_) rfl (by kernel_rfl) (by kernel_rfl) (by kernel_rfl) (fun _ _ _ h => h) (Or.inl ⟨by rfl, ?_⟩) (by assumption) ?_
    rotate_left 1
    focus (intro wS hSw; (try dsimp only at hSw); go_simp; (try with_reducible rfl))
    (try simp only [Act.put, List.setIfInBounds_toArray, List.set_cons_zero, List.set_cons_succ])
    refine heldTake 1 (v := ?_) rfl (by kernel_rfl) (by kernel_rfl) (by kernel_rfl) (fun _ _ _ h => h) (Or.inl ⟨by rfl, ?_⟩) (by assumption) ?_
    rotate_left 1
    focus (intro wS hSw; (try dsimp only at hSw); go_simp; (try with_reducible rfl))
    (try simp only [Act.put, List.setIfInBounds_toArray, List.set_cons_zero, List.set_cons_succ])
    refine heldTake 2 (v := ?_) rfl (by kernel_rfl) (by kernel_rfl) (by kernel_rfl) (fun _ _ _ h => h) (Or.inl ⟨by rfl, ?_⟩) (by assumption) ?_
    rotate_left 1
    focus (intro wS hSw; (try dsimp only at hSw); go_simp; (try with_reducible rfl))
    (try simp only [Act.put, List.setIfInBounds_toArray, List.set_cons_zero, List.set_cons_succ])
    refine heldTake 3 (v := ?_) rfl (by kernel_rfl) (by kernel_rfl) (by kernel_rfl) (fun _ _ _ h => h) (Or.inl ⟨by rfl, ?_⟩) (by assumption) ?_
    rotate_left 1
    focus (intro wS hSw; (try dsimp only at hSw); go_simp; (try with_reducible rfl))
    (try simp only [Act.put, List.setIfInBounds_toArray, List.set_cons_zero, List.set_cons_succ])
    refine heldTake 5 (v := ?_) rfl (by kernel_rfl) (by kernel_rfl) (by kernel_rfl) (fun _ _ _ h => h) (Or.inl ⟨by rfl, ?_⟩) (by assumption) ?_
    rotate_left 1
    focus (intro wS hSw; (try dsimp only at hSw); go_simp; (try with_reducible rfl))
    (try simp only [Act.put, List.setIfInBounds_toArray, List.set_cons_zero, List.set_cons_succ])
    refine wpAnyH_ready (rs := [4, 6]) (by kernel_rfl) (by simp) ?_
    refine (heldStep 4 rfl (fun K hK => ?_) (heldStep 6 rfl (fun K hK => ?_) AllReadyH.nil))
    · skip
      go_simp
      refine hK.out _ _ ?_ (fun hHeld => ?_)
      · ((try dsimp only); (refine ⟨?_, ?_, ?_⟩ <;> first | assumption | (simp [go_sem, *]; done)))
      clear hK K
      (try simp only [Act.put, List.setIfInBounds_toArray, List.set_cons_zero, List.set_cons_succ])
      refine wpAnyH_ready (rs := [6]) (by kernel_rfl) (by simp) ?_
      refine heldStep 6 rfl (fun K hK => ?_) AllReadyH.nil
      go_simp
      refine hK.out _ _ ?_ (fun hHeld => ?_)
      · ((try dsimp only); (refine ⟨?_, ?_, ?_⟩ <;> first | assumption | (simp [go_sem, *]; done)))
      clear hK K
      (try simp only [Act.put, List.setIfInBounds_toArray, List.set_cons_zero, List.set_cons_succ])
      refine wpAnyH_ready (rs := [7]) (by kernel_rfl) (by simp) ?_
      refine heldStep 7 rfl (fun K hK => ?_) AllReadyH.nil
      (refine step_app (by rfl) _ _ 24 _ (by rfl) Try.underlying24 _ 3 24 info_gate rfl (by decide) (by rfl) (HX.out.own.ext hea) w1.heap.size 1 [.int .i64 x, .int .i64 y, .int .i64 z] (by rfl) (by rfl) (heap_alloc_new _ _) (by intro u hu; simp at hu; first | (subst hu; rfl) | (rcases hu with rfl | rfl <;> rfl) | (rcases hu with rfl | rfl | rfl <;> rfl)) (by omega) (by omega) (by first | omega | (simp <;> omega)) ?_; intro A' c' w' ho' hg'; obtain ⟨p1, p2, p3, p4, p5, p6⟩ := folder_push (g := (x, y, z)) HX.out hea (hb1.ext hea) (by omega) hrow.out (gate_snoc ho') hg'; have q0 : w'.cell? ⟨X, 0, none⟩ = some (.slice A n c) := p1.cell 0 _ rfl; have q1 := p1.frozen 0; have s0 : w'.cell? ⟨w.heap.size, 0, none⟩ = some (.int .i64 x) := p2.cell 0 _ rfl; have s1 : w'.cell? ⟨w.heap.size, 1, none⟩ = some (.int .i64 y) := p2.cell 1 _ rfl; have s2 : w'.cell? ⟨w.heap.size, 2, none⟩ = some (.int .i64 z) := p2.cell 2 _ rfl; have t0 := p3.cell 0 (.int .i64 x) rfl; have t1 := p3.cell 1 (.int .i64 y) rfl; have t2 := p3.cell 2 (.int .i64 z) rfl; have PF := hide p4; have PA := hide ((e1.grownBy (Value.slice A n c).ownBlock).trans p5); have PB := hide p6; clear p1 p2 p3 p4 p5 p6 hg' ho')
      refine hK.out _ _ ?_ (fun hHeld => ?_)
      · ((try dsimp only); (refine ⟨?_, ?_, ?_⟩ <;> first | assumption | (simp [go_sem, *]; done)))
      clear hK K
      (try simp only [Act.put, List.setIfInBounds_toArray, List.set_cons_zero, List.set_cons_succ])
      refine heldTake 8 (v := ?_) rfl (by kernel_rfl) (by kernel_rfl) (by kernel_rfl) (fun _ _ _ h => h) (Or.inl ⟨by rfl, ?_⟩) (by assumption) ?_
      rotate_left 1
      focus (intro wS hSw; (try dsimp only at hSw); go_simp; (try with_reducible rfl))
      (try simp only [Act.put, List.setIfInBounds_toArray, List.set_cons_zero, List.set_cons_succ])
      refine heldTake 9 (v := ?_) rfl (by kernel_rfl) (by kernel_rfl) (by kernel_rfl) (fun _ _ _ h => h) (Or.inl ⟨by rfl, ?_⟩) (by assumption) ?_
      rotate_left 1
      focus (intro wS hSw; (try dsimp only at hSw); go_simp; (try with_reducible rfl))
      (try simp only [Act.put, List.setIfInBounds_toArray, List.set_cons_zero, List.set_cons_succ])
      refine wpAnyH_ready (rs := [10]) (by kernel_rfl) (by simp) ?_
      refine heldStep 10 rfl (fun K hK => ?_) AllReadyH.nil
      go_simp
      refine hK.out _ _ ?_ (fun hHeld => ?_)
      · ((try dsimp only); (refine ⟨?_, ?_, ?_⟩ <;> first | assumption | (simp [go_sem, *]; done)))
      clear hK K
      (try simp only [Act.put, List.setIfInBounds_toArray, List.set_cons_zero, List.set_cons_succ])
      refine wpAnyH_done (by kernel_rfl) ?_ _
      go_wp2_with fail
      go_ret
      exact ⟨rfl, _, _, _, PF.out, _, PA.out, PB.out⟩
    · skip
      go_simp
      refine hK.out _ _ ?_ (fun hHeld => ?_)
      · ((try dsimp only); (refine ⟨?_, ?_, ?_⟩ <;> first | assumption | (simp [go_sem, *]; done)))
      clear hK K
      (try simp only [Act.put, List.setIfInBounds_toArray, List.set_cons_zero, List.set_cons_succ])
      refine wpAnyH_ready (rs := [4]) (by kernel_rfl) (by simp) ?_
      refine heldStep 4 rfl (fun K hK => ?_) AllReadyH.nil
      go_simp
      refine hK.out _ _ ?_ (fun hHeld => ?_)
      · ((try dsimp only); (refine ⟨?_, ?_, ?_⟩ <;> first | assumption | (simp [go_sem, *]; done)))
      clear hK K
      (try simp only [Act.put, List.setIfInBounds_toArray, List.set_cons_zero, List.set_cons_succ])
      refine wpAnyH_ready (rs := [7]) (by kernel_rfl) (by simp) ?_
      refine heldStep 7 rfl (fun K hK => ?_) AllReadyH.nil
      (refine step_app (by rfl) _ _ 24 _ (by rfl) Try.underlying24 _ 3 24 info_gate rfl (by decide) (by rfl) (HX.out.own.ext hea) w1.heap.size 1 [.int .i64 x, .int .i64 y, .int .i64 z] (by rfl) (by rfl) (heap_alloc_new _ _) (by intro u hu; simp at hu; first | (subst hu; rfl) | (rcases hu with rfl | rfl <;> rfl) | (rcases hu with rfl | rfl | rfl <;> rfl)) (by omega) (by omega) (by first | omega | (simp <;> omega)) ?_; intro A' c' w' ho' hg'; obtain ⟨p1, p2, p3, p4, p5, p6⟩ := folder_push (g := (x, y, z)) HX.out hea (hb1.ext hea) (by omega) hrow.out (gate_snoc ho') hg'; have q0 : w'.cell? ⟨X, 0, none⟩ = some (.slice A n c) := p1.cell 0 _ rfl; have q1 := p1.frozen 0; have s0 : w'.cell? ⟨w.heap.size, 0, none⟩ = some (.int .i64 x) := p2.cell 0 _ rfl; have s1 : w'.cell? ⟨w.heap.size, 1, none⟩ = some (.int .i64 y) := p2.cell 1 _ rfl; have s2 : w'.cell? ⟨w.heap.size, 2, none⟩ = some (.int .i64 z) := p2.cell 2 _ rfl; have t0 := p3.cell 0 (.int .i64 x) rfl; have t1 := p3.cell 1 (.int .i64 y) rfl; have t2 := p3.cell 2 (.int .i64 z) rfl; have PF := hide p4; have PA := hide ((e1.grownBy (Value.slice A n c).ownBlock).trans p5); have PB := hide p6; clear p1 p2 p3 p4 p5 p6 hg' ho')
      refine hK.out _ _ ?_ (fun hHeld => ?_)
      · ((try dsimp only); (refine ⟨?_, ?_, ?_⟩ <;> first | assumption | (simp [go_sem, *]; done)))
      clear hK K
      (try simp only [Act.put, List.setIfInBounds_toArray, List.set_cons_zero, List.set_cons_succ])
      refine heldTake 8 (v := ?_) rfl (by kernel_rfl) (by kernel_rfl) (by kernel_rfl) (fun _ _ _ h => h) (Or.inl ⟨by rfl, ?_⟩) (by assumption) ?_
      rotate_left 1
      focus (intro wS hSw; (try dsimp only at hSw); go_simp; (try with_reducible rfl))
      (try simp only [Act.put, List.setIfInBounds_toArray, List.set_cons_zero, List.set_cons_succ])
      refine heldTake 9 (v := ?_) rfl (by kernel_rfl) (by kernel_rfl) (by kernel_rfl) (fun _ _ _ h => h) (Or.inl ⟨by rfl, ?_⟩) (by assumption) ?_
      rotate_left 1
      focus (intro wS hSw; (try dsimp only at hSw); go_simp; (try with_reducible rfl))
      (try simp only [Act.put, List.setIfInBounds_toArray, List.set_cons_zero, List.set_cons_succ])
      refine wpAnyH_ready (rs := [10]) (by kernel_rfl) (by simp) ?_
      refine heldStep 10 rfl (fun K hK => ?_) AllReadyH.nil
      go_simp
      refine hK.out _ _ ?_ (fun hHeld => ?_)
      · ((try dsimp only); (refine ⟨?_, ?_, ?_⟩ <;> first | assumption | (simp [go_sem, *]; done)))
      clear hK K
      (try simp only [Act.put, List.setIfInBounds_toArray, List.set_cons_zero, List.set_cons_succ])
      refine wpAnyH_done (by kernel_rfl) ?_ _
      go_wp2_with fail
      go_ret
      exact ⟨rfl, _, _, _, PF.out, _, PA.out, PB.out⟩
end Go.Proofs.Ytcbjaomjamfjcaa
