/-
  IsPlaneProof on both sides; no condition.
-/
import Derived.Test.YtebklankehkmhaaP10
namespace Go.Proofs.Ytebklankehkmhaa
set_option linter.unusedSimpArgs false
set_option linter.unusedVariables false
open Go.RowKit
theorem spec_IsPlaneProof_l (v : Int) (C : Option Addr) (nc dc : Nat) (cls : List (List Int)) (A : Option Addr) (n c : Nat) (ss : List Ps) (w : World) (h : Steps w A n ss) (hcl : Intss w C nc cls) :
    Calls Try.prog 32 #[.agg #[.int .i64 v, .slice C nc dc], .slice A n c] w fun e w' => e = .returned (.tuple #[.bool (goodB v cls ss), .bool (takesB v cls ss.length)]) ∧ Ext w w' := by
  have := spec_IsPlaneProof_c v C nc dc cls A n c ss w h hcl
  rw [h.len] at this ⊢
  exact this
set_option maxRecDepth 100000 in
set_option maxHeartbeats 3200000 in
theorem impl_IsPlaneProof_l (v : Int) (C : Option Addr) (nc dc : Nat) (cls : List (List Int)) (A : Option Addr) (n c : Nat) (ss : List Ps) (w : World) (h : Steps w A n ss) (hcl : Intss w C nc cls) :
    Calls Try.prog 33 #[.agg #[.int .i64 v, .slice C nc dc], .slice A n c] w fun e w' => e = .returned (.tuple #[.bool (goodB v cls ss), .bool (takesB v cls ss.length)]) ∧ Ext w w' := by
  have hb := h.bound
  have HP := hide (fun W (E : Ext w W) => planeProof_c v C nc dc cls A n c ss W (h.ext E) (hcl.ext E))
  have HG := hide (fun W (E : Ext w W) => IsCnf_c v C nc dc cls W (hcl.ext E))
  rw [← h.len]
  unfold takesB
  generalize goodB v cls ss = r at HP ⊢
  obtain ⟨W1, hW1⟩ : ∃ W1, W1 = w.alloc (.cells #[.int .i64 v, .slice C nc dc] 41) := ⟨_, rfl⟩
  have hbx : BoxAt W1 w.heap.size 41 #[.int .i64 v, .slice C nc dc] := by rw [hW1]; exact BoxAt.made _ _ _
  have ew : Ext w W1 := by rw [hW1]; exact (Ext.refl _).alloc _
  have eD := ew.drew
  have d0 := (hbx.ext (Ext.refl W1).drew).cell 0 _ rfl
  have d1 := (hbx.ext (Ext.refl W1).drew).cell 1 _ rfl
  cases hg : cnfOk v cls
  · rw [hg] at HG; clear hg
    go_enter Try.func33, Try.ntmps33
    go_wp2_with fail
    rw [← hW1]
    clear hW1
    refine wp_region_held_drew (S := (fun w' => w'.cell? ⟨w.heap.size, 0, none⟩ = some (.int .i64 v) ∧ w'.cell? ⟨w.heap.size, 1, none⟩ = some (.slice C nc dc))) (by kernel_rfl) ?_ (fun hHeld => ?_)
    · ((try dsimp only); (refine ⟨?_, ?_⟩ <;> assumption))
    refine heldTake 0 (v := ?_) rfl (by kernel_rfl) (by kernel_rfl) (by kernel_rfl) (fun _ _ _ h => h) (Or.inl ⟨by rfl, ?_⟩) (by assumption) ?_
    rotate_left 1
    focus (intro wS hSw; (try dsimp only at hSw); go_simp; (try with_reducible rfl))
    (try simp only [Act.put, List.setIfInBounds_toArray, List.set_cons_zero, List.set_cons_succ])
    refine heldTake 1 (v := ?_) rfl (by kernel_rfl) (by kernel_rfl) (by kernel_rfl) (fun _ _ _ h => h) (Or.inl ⟨by rfl, ?_⟩) (by assumption) ?_
    rotate_left 1
    focus (intro wS hSw; (try dsimp only at hSw); go_simp; (try with_reducible rfl))
    (try simp only [Act.put, List.setIfInBounds_toArray, List.set_cons_zero, List.set_cons_succ])
    refine heldTake 3 (v := ?_) rfl (by kernel_rfl) (by kernel_rfl) (by kernel_rfl) (fun _ _ _ h => h) (Or.inl ⟨by rfl, ?_⟩) (by assumption) ?_
    rotate_left 1
    focus (intro wS hSw; (try dsimp only at hSw); go_simp; (try with_reducible rfl))
    (try simp only [Act.put, List.setIfInBounds_toArray, List.set_cons_zero, List.set_cons_succ])
    refine wpAnyH_ready (rs := [2]) (by kernel_rfl) (by simp) ?_
    refine heldStep 2 rfl (fun K hK => ?_) AllReadyH.nil
    (go_wp2_with (first | (go_at_call 79; (with_reducible refine (HP.out _ eD).mono ?_); rintro e2 w2 ⟨rfl, he2⟩; have ew2 := eD.trans he2; have y0 := he2.cell d0; have y1 := he2.cell d1) | (go_at_call 72; (with_reducible refine (HG.out _ ew2).mono ?_); rintro e3 w3 ⟨rfl, he3⟩; have ew3 := ew2.trans he3; have x0 := he3.cell y0; have x1 := he3.cell y1)))
    refine hK.out _ _ ?_ (fun hHeld => ?_)
    · ((try dsimp only); (refine ⟨?_, ?_⟩ <;> assumption))
    clear hK K
    (try simp only [Act.put, List.setIfInBounds_toArray, List.set_cons_zero, List.set_cons_succ])
    refine wpAnyH_ready (rs := [4]) (by kernel_rfl) (by simp) ?_
    refine heldStep 4 rfl (fun K hK => ?_) AllReadyH.nil
    (go_wp2_with (first | (go_at_call 79; (with_reducible refine (HP.out _ eD).mono ?_); rintro e2 w2 ⟨rfl, he2⟩; have ew2 := eD.trans he2; have y0 := he2.cell d0; have y1 := he2.cell d1) | (go_at_call 72; (with_reducible refine (HG.out _ ew2).mono ?_); rintro e3 w3 ⟨rfl, he3⟩; have ew3 := ew2.trans he3; have x0 := he3.cell y0; have x1 := he3.cell y1)))
    refine hK.out _ _ ?_ (fun hHeld => ?_)
    · ((try dsimp only); (refine ⟨?_, ?_⟩ <;> assumption))
    clear hK K
    (try simp only [Act.put, List.setIfInBounds_toArray, List.set_cons_zero, List.set_cons_succ])
    refine heldTake 5 (v := ?_) rfl (by kernel_rfl) (by kernel_rfl) (by kernel_rfl) (fun _ _ _ h => h) (Or.inl ⟨by rfl, ?_⟩) (by assumption) ?_
    rotate_left 1
    focus (intro wS hSw; (try dsimp only at hSw); go_simp; (try with_reducible rfl))
    (try simp only [Act.put, List.setIfInBounds_toArray, List.set_cons_zero, List.set_cons_succ])
    refine heldTake 6 (v := undef) rfl (by kernel_rfl) (by kernel_rfl) (by kernel_rfl) (fun _ _ _ h => h) (Or.inr ⟨by rfl, rfl⟩) (by assumption) ?_
    (try simp only [Act.put, List.setIfInBounds_toArray, List.set_cons_zero, List.set_cons_succ])
    refine heldTake 7 (v := undef) rfl (by kernel_rfl) (by kernel_rfl) (by kernel_rfl) (fun _ _ _ h => h) (Or.inr ⟨by rfl, rfl⟩) (by assumption) ?_
    (try simp only [Act.put, List.setIfInBounds_toArray, List.set_cons_zero, List.set_cons_succ])
    refine heldTake 8 (v := undef) rfl (by kernel_rfl) (by kernel_rfl) (by kernel_rfl) (fun _ _ _ h => h) (Or.inr ⟨by rfl, rfl⟩) (by assumption) ?_
    (try simp only [Act.put, List.setIfInBounds_toArray, List.set_cons_zero, List.set_cons_succ])
    refine heldTake 9 (v := ?_) rfl (by kernel_rfl) (by kernel_rfl) (by kernel_rfl) (fun _ _ _ h => h) (Or.inl ⟨by rfl, ?_⟩) (by assumption) ?_
    rotate_left 1
    focus (intro wS hSw; (try dsimp only at hSw); go_simp; (try with_reducible rfl))
    (try simp only [Act.put, List.setIfInBounds_toArray, List.set_cons_zero, List.set_cons_succ])
    refine heldTake 10 (v := ?_) rfl (by kernel_rfl) (by kernel_rfl) (by kernel_rfl) (fun _ _ _ h => h) (Or.inl ⟨by rfl, ?_⟩) (by assumption) ?_
    rotate_left 1
    focus (intro wS hSw; (try dsimp only at hSw); go_simp; (try with_reducible rfl))
    (try simp only [Act.put, List.setIfInBounds_toArray, List.set_cons_zero, List.set_cons_succ])
    refine heldTake 11 (v := ?_) rfl (by kernel_rfl) (by kernel_rfl) (by kernel_rfl) (fun _ _ _ h => h) (Or.inl ⟨by rfl, ?_⟩) (by assumption) ?_
    rotate_left 1
    focus (intro wS hSw; (try dsimp only at hSw); go_simp; (try with_reducible rfl))
    (try simp only [Act.put, List.setIfInBounds_toArray, List.set_cons_zero, List.set_cons_succ])
    refine wpAnyH_done (by kernel_rfl) ?_ _
    go_wp2_with fail
    go_ret2
    exact ⟨rfl, ew3⟩
  · rw [hg] at HG; clear hg
    go_enter Try.func33, Try.ntmps33
    go_wp2_with fail
    rw [← hW1]
    clear hW1
    refine wp_region_held_drew (S := (fun w' => w'.cell? ⟨w.heap.size, 0, none⟩ = some (.int .i64 v) ∧ w'.cell? ⟨w.heap.size, 1, none⟩ = some (.slice C nc dc))) (by kernel_rfl) ?_ (fun hHeld => ?_)
    · ((try dsimp only); (refine ⟨?_, ?_⟩ <;> assumption))
    refine heldTake 0 (v := ?_) rfl (by kernel_rfl) (by kernel_rfl) (by kernel_rfl) (fun _ _ _ h => h) (Or.inl ⟨by rfl, ?_⟩) (by assumption) ?_
    rotate_left 1
    focus (intro wS hSw; (try dsimp only at hSw); go_simp; (try with_reducible rfl))
    (try simp only [Act.put, List.setIfInBounds_toArray, List.set_cons_zero, List.set_cons_succ])
    refine heldTake 1 (v := ?_) rfl (by kernel_rfl) (by kernel_rfl) (by kernel_rfl) (fun _ _ _ h => h) (Or.inl ⟨by rfl, ?_⟩) (by assumption) ?_
    rotate_left 1
    focus (intro wS hSw; (try dsimp only at hSw); go_simp; (try with_reducible rfl))
    (try simp only [Act.put, List.setIfInBounds_toArray, List.set_cons_zero, List.set_cons_succ])
    refine heldTake 3 (v := ?_) rfl (by kernel_rfl) (by kernel_rfl) (by kernel_rfl) (fun _ _ _ h => h) (Or.inl ⟨by rfl, ?_⟩) (by assumption) ?_
    rotate_left 1
    focus (intro wS hSw; (try dsimp only at hSw); go_simp; (try with_reducible rfl))
    (try simp only [Act.put, List.setIfInBounds_toArray, List.set_cons_zero, List.set_cons_succ])
    refine wpAnyH_ready (rs := [2]) (by kernel_rfl) (by simp) ?_
    refine heldStep 2 rfl (fun K hK => ?_) AllReadyH.nil
    (go_wp2_with (first | (go_at_call 79; (with_reducible refine (HP.out _ eD).mono ?_); rintro e2 w2 ⟨rfl, he2⟩; have ew2 := eD.trans he2; have y0 := he2.cell d0; have y1 := he2.cell d1) | (go_at_call 72; (with_reducible refine (HG.out _ ew2).mono ?_); rintro e3 w3 ⟨rfl, he3⟩; have ew3 := ew2.trans he3; have x0 := he3.cell y0; have x1 := he3.cell y1)))
    refine hK.out _ _ ?_ (fun hHeld => ?_)
    · ((try dsimp only); (refine ⟨?_, ?_⟩ <;> assumption))
    clear hK K
    (try simp only [Act.put, List.setIfInBounds_toArray, List.set_cons_zero, List.set_cons_succ])
    refine wpAnyH_ready (rs := [4]) (by kernel_rfl) (by simp) ?_
    refine heldStep 4 rfl (fun K hK => ?_) AllReadyH.nil
    (go_wp2_with (first | (go_at_call 79; (with_reducible refine (HP.out _ eD).mono ?_); rintro e2 w2 ⟨rfl, he2⟩; have ew2 := eD.trans he2; have y0 := he2.cell d0; have y1 := he2.cell d1) | (go_at_call 72; (with_reducible refine (HG.out _ ew2).mono ?_); rintro e3 w3 ⟨rfl, he3⟩; have ew3 := ew2.trans he3; have x0 := he3.cell y0; have x1 := he3.cell y1)))
    refine hK.out _ _ ?_ (fun hHeld => ?_)
    · ((try dsimp only); (refine ⟨?_, ?_⟩ <;> assumption))
    clear hK K
    (try simp only [Act.put, List.setIfInBounds_toArray, List.set_cons_zero, List.set_cons_succ])
    refine heldTake 5 (v := ?_) rfl (by kernel_rfl) (by kernel_rfl) (by kernel_rfl) (fun _ _ _ h => h) (Or.inl ⟨by rfl, ?_⟩) (by assumption) ?_
    rotate_left 1
    focus (intro wS hSw; (try dsimp only at hSw); go_simp; (try with_reducible rfl))
    (try simp only [Act.put, List.setIfInBounds_toArray, List.set_cons_zero, List.set_cons_succ])
    refine heldTake 6 (v := ?_) rfl (by kernel_rfl) (by kernel_rfl) (by kernel_rfl) (fun _ _ _ h => h) (Or.inl ⟨by rfl, ?_⟩) (by assumption) ?_
    rotate_left 1
    focus (intro wS hSw; (try dsimp only at hSw); go_simp; (try with_reducible rfl))
    (try simp only [Act.put, List.setIfInBounds_toArray, List.set_cons_zero, List.set_cons_succ])
    refine heldTake 7 (v := ?_) rfl (by kernel_rfl) (by kernel_rfl) (by kernel_rfl) (fun _ _ _ h => h) (Or.inl ⟨by rfl, ?_⟩) (by assumption) ?_
    rotate_left 1
    focus (intro wS hSw; (try dsimp only at hSw); go_simp; (try with_reducible rfl))
    (try simp only [Act.put, List.setIfInBounds_toArray, List.set_cons_zero, List.set_cons_succ])
    refine heldTake 8 (v := ?_) rfl (by kernel_rfl) (by kernel_rfl) (by kernel_rfl) (fun _ _ _ h => h) (Or.inl ⟨by rfl, ?_⟩) (by assumption) ?_
    rotate_left 1
    focus (intro wS hSw; (try dsimp only at hSw); go_simp; (try with_reducible rfl))
    (try simp only [Act.put, List.setIfInBounds_toArray, List.set_cons_zero, List.set_cons_succ])
    refine heldTake 9 (v := ?_) rfl (by kernel_rfl) (by kernel_rfl) (by kernel_rfl) (fun _ _ _ h => h) (Or.inl ⟨by rfl, ?_⟩) (by assumption) ?_
    rotate_left 1
    focus (intro wS hSw; (try dsimp only at hSw); go_simp; (try with_reducible rfl))
    (try simp only [Act.put, List.setIfInBounds_toArray, List.set_cons_zero, List.set_cons_succ])
    refine heldTake 10 (v := ?_) rfl (by kernel_rfl) (by kernel_rfl) (by kernel_rfl) (fun _ _ _ h => h) (Or.inl ⟨by rfl, ?_⟩) (by assumption) ?_
    rotate_left 1
    focus (intro wS hSw; (try dsimp only at hSw); go_simp; (try with_reducible rfl))
    (try simp only [Act.put, List.setIfInBounds_toArray, List.set_cons_zero, List.set_cons_succ])
    refine heldTake 11 (v := ?_) rfl (by kernel_rfl) (by kernel_rfl) (by kernel_rfl) (fun _ _ _ h => h) (Or.inl ⟨by rfl, ?_⟩) (by assumption) ?_
    rotate_left 1
    focus (intro wS hSw; (try dsimp only at hSw); go_simp; (try with_reducible rfl))
    (try simp only [Act.put, List.setIfInBounds_toArray, List.set_cons_zero, List.set_cons_succ])
    refine wpAnyH_done (by kernel_rfl) ?_ _
    go_wp2_with fail
    go_ret2
    exact ⟨by simp; omega, ew3⟩
end Go.Proofs.Ytebklankehkmhaa
