/-
  The program's planeBefore and planeDue; no condition.
-/
import Derived.Test.YtebklankehkmhaaP3
import Derived.Test.YtebklankehkmhaaC20
import Derived.Test.YtebklankehkmhaaC32
import Derived.Deep.RegionWith
namespace Go.Proofs.Ytebklankehkmhaa
set_option linter.unusedSimpArgs false
set_option linter.unusedVariables false
open Go.RowKit

/-- What a function that hands back an inequality and whether there is one leaves. -/
def GivesP (e : Ending) (w' : World) (r : Option (List Int × Int)) : Prop :=
  ∃ A m c bd, e = .returned (.tuple #[.agg #[.slice A m c, .int .i64 bd], .bool r.isSome]) ∧ ∀ p, r = some p → Ints w' A m p.1 ∧ bd = p.2
def befP (v : Int) (ss : List Ps) (k : Nat) (i : Int) : Option (List Int × Int) := if befB v ss k i then some ((ss.getD i.toNat ps0).1, (ss.getD i.toNat ps0).2.1) else none
theorem befP_no {v : Int} {ss : List Ps} {k : Nat} {i : Int} (h : befB v ss k i = false) : befP v ss k i = none := by simp [befP, h]
theorem befP_yes {v : Int} {ss : List Ps} {k : Nat} {i : Int} (h : befB v ss k i = true) : befP v ss k i = some ((ss.getD i.toNat ps0).1, (ss.getD i.toNat ps0).2.1) ∧ ineqOk v (ss.getD i.toNat ps0).2.1 (ss.getD i.toNat ps0).1 = true :=
  ⟨by simp [befP, h], (and2_true h).2⟩
set_option maxRecDepth 100000 in
set_option maxHeartbeats 1600000 in
theorem planeBefore_c (v : Int) (C : Option Addr) (nc dc : Nat) (A : Option Addr) (n c k : Nat) (i : Int) (ss : List Ps) (w : World) (h : Steps w A n ss) (hk : k ≤ n) (hn : n ≤ 400) :
    Calls Try.prog 161 #[.agg #[.int .i64 v, .slice C nc dc], .slice A n c, .int .i64 k, .int .i64 i] w fun e w' => GivesP e w' (befP v ss k i) ∧ Ext w w' := by
  have hw1 : IntKind.i64.wrap ((k : Int) - 1) = (k : Int) - 1 := IntWalk.i64_in _ (by omega)
  cases h1 : within i 0 ((k : Int) - 1)
  · have hb : befP v ss k i = none := by simp [befP, befB, h1]
    rw [hb]
    have HW := hide (fun W => within_c i 0 ((k : Int) - 1) W)
    rw [h1] at HW
    clear h1 hb
    obtain ⟨W1, hW1⟩ : ∃ W1, W1 = (w.alloc (.cells #[.int .i64 v, .slice C nc dc] 41)).alloc (.cells #[.slice none 0 0, .int .i64 0] 26) := ⟨_, rfl⟩
    have e1 : Ext w W1 := by rw [hW1]; exact ((Ext.refl _).alloc _).alloc _
    have hb0 : BoxAt W1 w.heap.size 41 #[.int .i64 v, .slice C nc dc] := by rw [hW1]; exact (BoxAt.made _ _ _).ext ((Ext.refl _).alloc _)
    have hbx : BoxAt W1 (w.heap.size + 1) 26 #[.slice none 0 0, .int .i64 0] := by
      rw [hW1]
      have := BoxAt.made (w.alloc (.cells #[.int .i64 v, .slice C nc dc] 41)) #[.slice none 0 0, .int .i64 0] 26
      simpa using this
    go_enter Try.func161, Try.ntmps161
    go_wp2_with fail
    rw [← hW1]
    clear hW1
    refine wp_region_held_drew (S := (fun w' => True)) (by kernel_rfl) ?_ (fun hHeld => ?_)
    · ((try dsimp only); all_goals trivial)
    refine heldTake 0 (v := ?_) rfl (by kernel_rfl) (by kernel_rfl) (by kernel_rfl) (fun _ _ _ h => h) (Or.inl ⟨by rfl, ?_⟩) (by assumption) ?_
    rotate_left 1
    focus (intro wS hSw; (try dsimp only at hSw); go_simp; (try with_reducible rfl))
    (try simp only [Act.put, List.setIfInBounds_toArray, List.set_cons_zero, List.set_cons_succ])
    refine heldTake 1 (v := ?_) rfl (by kernel_rfl) (by kernel_rfl) (by kernel_rfl) (fun _ _ _ h => h) (Or.inl ⟨by rfl, ?_⟩) (by assumption) ?_
    rotate_left 1
    focus (intro wS hSw; (try dsimp only at hSw); go_simp; (try with_reducible rfl))
    (try simp only [Act.put, List.setIfInBounds_toArray, List.set_cons_zero, List.set_cons_succ])
    refine heldTake 2 (v := ?_) rfl (by kernel_rfl) (by kernel_rfl) (by kernel_rfl) (fun _ _ _ h => h) (Or.inl ⟨by rfl, ?_⟩) (by assumption) ?_
    rotate_left 1
    focus (intro wS hSw; (try dsimp only at hSw); go_simp; (try with_reducible rfl))
    (try simp only [Act.put, List.setIfInBounds_toArray, List.set_cons_zero, List.set_cons_succ])
    refine wpAnyH_ready (rs := [3]) (by kernel_rfl) (by simp) ?_
    refine heldStep 3 rfl (fun K hK => ?_) AllReadyH.nil
    (go_wp2_with (go_at_call 73; (with_reducible refine (HW.out _).mono ?_); rintro e w2 ⟨rfl, rfl⟩))
    refine hK.out _ _ ?_ (fun hHeld => ?_)
    · ((try dsimp only); all_goals trivial)
    clear hK K
    (try simp only [Act.put, List.setIfInBounds_toArray, List.set_cons_zero, List.set_cons_succ])
    refine heldTake 4 (v := ?_) rfl (by kernel_rfl) (by kernel_rfl) (by kernel_rfl) (fun _ _ _ h => h) (Or.inl ⟨by rfl, ?_⟩) (by assumption) ?_
    rotate_left 1
    focus (intro wS hSw; (try dsimp only at hSw); go_simp; (try with_reducible rfl))
    (try simp only [Act.put, List.setIfInBounds_toArray, List.set_cons_zero, List.set_cons_succ])
    refine heldTake 5 (v := ?_) rfl (by kernel_rfl) (by kernel_rfl) (by kernel_rfl) (fun _ _ _ h => h) (Or.inl ⟨by rfl, ?_⟩) (by assumption) ?_
    rotate_left 1
    focus (intro wS hSw; (try dsimp only at hSw); go_simp; (try with_reducible rfl))
    (try simp only [Act.put, List.setIfInBounds_toArray, List.set_cons_zero, List.set_cons_succ])
    refine heldTake 6 (v := undef) rfl (by kernel_rfl) (by kernel_rfl) (by kernel_rfl) (fun _ _ _ h => h) (Or.inr ⟨by rfl, rfl⟩) (by assumption) ?_
    (try simp only [Act.put, List.setIfInBounds_toArray, List.set_cons_zero, List.set_cons_succ])
    refine heldTake 7 (v := undef) rfl (by kernel_rfl) (by kernel_rfl) (by kernel_rfl) (fun _ _ _ h => h) (Or.inr ⟨by rfl, rfl⟩) (by assumption) ?_
    (try simp only [Act.put, List.setIfInBounds_toArray, List.set_cons_zero, List.set_cons_succ])
    refine heldTake 8 (v := undef) rfl (by kernel_rfl) (by kernel_rfl) (by kernel_rfl) (fun _ _ _ h => h) (Or.inr ⟨by rfl, rfl⟩) (by assumption) ?_
    (try simp only [Act.put, List.setIfInBounds_toArray, List.set_cons_zero, List.set_cons_succ])
    refine heldTake 9 (v := undef) rfl (by kernel_rfl) (by kernel_rfl) (by kernel_rfl) (fun _ _ _ h => h) (Or.inr ⟨by rfl, rfl⟩) (by assumption) ?_
    (try simp only [Act.put, List.setIfInBounds_toArray, List.set_cons_zero, List.set_cons_succ])
    refine heldTake 10 (v := undef) rfl (by kernel_rfl) (by kernel_rfl) (by kernel_rfl) (fun _ _ _ h => h) (Or.inr ⟨by rfl, rfl⟩) (by assumption) ?_
    (try simp only [Act.put, List.setIfInBounds_toArray, List.set_cons_zero, List.set_cons_succ])
    refine heldTake 11 (v := undef) rfl (by kernel_rfl) (by kernel_rfl) (by kernel_rfl) (fun _ _ _ h => h) (Or.inr ⟨by rfl, rfl⟩) (by assumption) ?_
    (try simp only [Act.put, List.setIfInBounds_toArray, List.set_cons_zero, List.set_cons_succ])
    refine heldTake 12 (v := undef) rfl (by kernel_rfl) (by kernel_rfl) (by kernel_rfl) (fun _ _ _ h => h) (Or.inr ⟨by rfl, rfl⟩) (by assumption) ?_
    (try simp only [Act.put, List.setIfInBounds_toArray, List.set_cons_zero, List.set_cons_succ])
    refine heldTake 13 (v := undef) rfl (by kernel_rfl) (by kernel_rfl) (by kernel_rfl) (fun _ _ _ h => h) (Or.inr ⟨by rfl, rfl⟩) (by assumption) ?_
    (try simp only [Act.put, List.setIfInBounds_toArray, List.set_cons_zero, List.set_cons_succ])
    refine heldTake 14 (v := undef) rfl (by kernel_rfl) (by kernel_rfl) (by kernel_rfl) (fun _ _ _ h => h) (Or.inr ⟨by rfl, rfl⟩) (by assumption) ?_
    (try simp only [Act.put, List.setIfInBounds_toArray, List.set_cons_zero, List.set_cons_succ])
    refine heldTake 15 (v := ?_) rfl (by kernel_rfl) (by kernel_rfl) (by kernel_rfl) (fun _ _ _ h => h) (Or.inl ⟨by rfl, ?_⟩) (by assumption) ?_
    rotate_left 1
    focus (intro wS hSw; (try dsimp only at hSw); go_simp; (try with_reducible rfl))
    (try simp only [Act.put, List.setIfInBounds_toArray, List.set_cons_zero, List.set_cons_succ])
    refine wpAnyH_done (by kernel_rfl) ?_ _
    have q0 := hbx.cell 0 (.slice none 0 0) rfl
    have q1 := hbx.cell 1 (.int .i64 0) rfl
    have q2 := hbx.frozen 0
    have q3 := hbx.frozen 1
    go_wp2_with fail
    refine (?main1 : ∀ WW : World, BoxAt WW (w.heap.size + 1) 26 #[.slice none 0 0, .int .i64 0] → Ext w WW → bodyPost _ _ _ _ _ WW) _ ?_ ?_
    case main1 =>
      intro WW hbw hew
      have r0 := hbw.cell 0 (.slice none 0 0) rfl
      have r1 := hbw.cell 1 (.int .i64 0) rfl
      refine bodyPost_ret (v := .tuple #[.agg #[.slice none 0 0, .int .i64 0], .bool false]) (by simp only [results, Try.results161]; simp [go_sem, r0, r1]) rfl ⟨by exact ⟨_, _, _, _, rfl, fun p hp => by cases hp⟩, hew⟩
    · exact ((hbx.set 0 _).set 1 _).ext (Ext.refl _).drew
    · exact ((e1.setCell (p := ⟨w.heap.size + 1, 0, none⟩) (by simp) _).setCell (p := ⟨w.heap.size + 1, 1, none⟩) (by simp) _).drew
  · obtain ⟨hi0, hi1⟩ := within_true h1
    obtain ⟨j, rfl⟩ := int_nat hi0
    have hjn : j < n := by omega
    obtain ⟨g, xs, m, B, e, bd, kd, a, b, q, rfl, hx, c0, hin, c1, -, -, -, -⟩ := h.at_ hjn
    have hD : ss.getD j ps0 = (xs, bd, kd, a, b, q) := getD_of hx
    have HW := hide (fun W => within_c (j : Int) 0 ((k : Int) - 1) W)
    rw [h1] at HW
    have HI := hide (fun W (E : Ext w W) => impl_IsInequality_c v bd B m e xs W (hin.ext E))
    have hbf : befP v ss k (j : Int) = if ineqOk v bd xs then some (xs, bd) else none := by
      unfold befP befB okP
      rw [h1, Int.toNat_natCast, hD]
      simp
    rw [hbf]
    clear hbf hD hx h1 hi0 hi1
    obtain ⟨W1, hW1⟩ : ∃ W1, W1 = (w.alloc (.cells #[.int .i64 v, .slice C nc dc] 41)).alloc (.cells #[.slice none 0 0, .int .i64 0] 26) := ⟨_, rfl⟩
    have e1 : Ext w W1 := by rw [hW1]; exact ((Ext.refl _).alloc _).alloc _
    have hb0 : BoxAt W1 w.heap.size 41 #[.int .i64 v, .slice C nc dc] := by rw [hW1]; exact (BoxAt.made _ _ _).ext ((Ext.refl _).alloc _)
    have hbx : BoxAt W1 (w.heap.size + 1) 26 #[.slice none 0 0, .int .i64 0] := by
      rw [hW1]
      have := BoxAt.made (w.alloc (.cells #[.int .i64 v, .slice C nc dc] 41)) #[.slice none 0 0, .int .i64 0] 26
      simpa using this
    have d0 := (hb0.ext (Ext.refl W1).drew).cell 0 (.int .i64 v) rfl
    have d1 := e1.drew.cell c0
    have d2 := e1.drew.cell c1
    have eD := e1.drew
    have hbD := hbx.ext (Ext.refl W1).drew
    cases hok : ineqOk v bd xs
    · rw [hok] at HI
      simp only [Bool.false_eq_true, if_false]
      go_enter Try.func161, Try.ntmps161
      go_wp2_with fail
      rw [← hW1]
      clear hW1
      refine wp_region_held_drew (S := (fun w' => w'.cell? ⟨w.heap.size, 0, none⟩ = some (.int .i64 v) ∧ w'.cell? ⟨g, j * 6, none⟩ = some (.slice B m e) ∧ w'.cell? ⟨g, j * 6 + 1, none⟩ = some (.int .i64 bd))) (by kernel_rfl) ?_ (fun hHeld => ?_)
      · ((try dsimp only); (refine ⟨?_, ?_, ?_⟩ <;> assumption))
      refine heldTake 0 (v := ?_) rfl (by kernel_rfl) (by kernel_rfl) (by kernel_rfl) (fun _ _ _ h => h) (Or.inl ⟨by rfl, ?_⟩) (by assumption) ?_
      rotate_left 1
      focus (intro wS hSw; (try dsimp only at hSw); go_simp; (try with_reducible rfl))
      (try simp only [Act.put, List.setIfInBounds_toArray, List.set_cons_zero, List.set_cons_succ])
      refine heldTake 1 (v := ?_) rfl (by kernel_rfl) (by kernel_rfl) (by kernel_rfl) (fun _ _ _ h => h) (Or.inl ⟨by rfl, ?_⟩) (by assumption) ?_
      rotate_left 1
      focus (intro wS hSw; (try dsimp only at hSw); go_simp; (try with_reducible rfl))
      (try simp only [Act.put, List.setIfInBounds_toArray, List.set_cons_zero, List.set_cons_succ])
      refine heldTake 2 (v := ?_) rfl (by kernel_rfl) (by kernel_rfl) (by kernel_rfl) (fun _ _ _ h => h) (Or.inl ⟨by rfl, ?_⟩) (by assumption) ?_
      rotate_left 1
      focus (intro wS hSw; (try dsimp only at hSw); go_simp; (try with_reducible rfl))
      (try simp only [Act.put, List.setIfInBounds_toArray, List.set_cons_zero, List.set_cons_succ])
      refine wpAnyH_ready (rs := [3]) (by kernel_rfl) (by simp) ?_
      refine heldStep 3 rfl (fun K hK => ?_) AllReadyH.nil
      (go_wp2_with (first | (go_at_call 73; (with_reducible refine (HW.out _).mono ?_); rintro e' w2 ⟨rfl, rfl⟩) | (go_at_call 64; (with_reducible refine (HI.out _ eD).mono ?_); rintro e' w2 ⟨rfl, he2⟩; have z0 := he2.cell d0; have z1 := he2.cell d1; have z2 := he2.cell d2; have ew := eD.trans he2; have hq := hbD.ext he2; have q0 := hq.cell 0 (.slice none 0 0) rfl; have q1 := hq.cell 1 (.int .i64 0) rfl; have q2 := hq.frozen 0; have q3 := hq.frozen 1; have hql := hq.lt)))
      refine hK.out _ _ ?_ (fun hHeld => ?_)
      · ((try dsimp only); (refine ⟨?_, ?_, ?_⟩ <;> assumption))
      clear hK K
      (try simp only [Act.put, List.setIfInBounds_toArray, List.set_cons_zero, List.set_cons_succ])
      refine heldTake 4 (v := ?_) rfl (by kernel_rfl) (by kernel_rfl) (by kernel_rfl) (fun _ _ _ h => h) (Or.inl ⟨by rfl, ?_⟩) (by assumption) ?_
      rotate_left 1
      focus (intro wS hSw; (try dsimp only at hSw); go_simp; (try with_reducible rfl))
      (try simp only [Act.put, List.setIfInBounds_toArray, List.set_cons_zero, List.set_cons_succ])
      refine heldTake 5 (v := ?_) rfl (by kernel_rfl) (by kernel_rfl) (by kernel_rfl) (fun _ _ _ h => h) (Or.inl ⟨by rfl, ?_⟩) (by assumption) ?_
      rotate_left 1
      focus (intro wS hSw; (try dsimp only at hSw); go_simp; (try with_reducible rfl))
      (try simp only [Act.put, List.setIfInBounds_toArray, List.set_cons_zero, List.set_cons_succ])
      refine heldTake 6 (v := ?_) rfl (by kernel_rfl) (by kernel_rfl) (by kernel_rfl) (fun _ _ _ h => h) (Or.inl ⟨by rfl, ?_⟩) (by assumption) ?_
      rotate_left 1
      focus (intro wS hSw; (try dsimp only at hSw); go_simp; (try with_reducible rfl))
      (try simp only [Act.put, List.setIfInBounds_toArray, List.set_cons_zero, List.set_cons_succ])
      refine heldTake 7 (v := ?_) rfl (by kernel_rfl) (by kernel_rfl) (by kernel_rfl) (fun _ _ _ h => h) (Or.inl ⟨by rfl, ?_⟩) (by assumption) ?_
      rotate_left 1
      focus (intro wS hSw; (try dsimp only at hSw); go_simp; (try with_reducible rfl))
      (try simp only [Act.put, List.setIfInBounds_toArray, List.set_cons_zero, List.set_cons_succ])
      refine heldTake 8 (v := ?_) rfl (by kernel_rfl) (by kernel_rfl) (by kernel_rfl) (fun _ _ _ h => h) (Or.inl ⟨by rfl, ?_⟩) (by assumption) ?_
      rotate_left 1
      focus (intro wS hSw; (try dsimp only at hSw); go_simp; (try with_reducible rfl))
      (try simp only [Act.put, List.setIfInBounds_toArray, List.set_cons_zero, List.set_cons_succ])
      refine heldTake 9 (v := ?_) rfl (by kernel_rfl) (by kernel_rfl) (by kernel_rfl) (fun _ _ _ h => h) (Or.inl ⟨by rfl, ?_⟩) (by assumption) ?_
      rotate_left 1
      focus (intro wS hSw; (try dsimp only at hSw); go_simp; (try with_reducible rfl))
      (try simp only [Act.put, List.setIfInBounds_toArray, List.set_cons_zero, List.set_cons_succ])
      refine heldTake 10 (v := ?_) rfl (by kernel_rfl) (by kernel_rfl) (by kernel_rfl) (fun _ _ _ h => h) (Or.inl ⟨by rfl, ?_⟩) (by assumption) ?_
      rotate_left 1
      focus (intro wS hSw; (try dsimp only at hSw); go_simp; (try with_reducible rfl))
      (try simp only [Act.put, List.setIfInBounds_toArray, List.set_cons_zero, List.set_cons_succ])
      refine heldTake 11 (v := ?_) rfl (by kernel_rfl) (by kernel_rfl) (by kernel_rfl) (fun _ _ _ h => h) (Or.inl ⟨by rfl, ?_⟩) (by assumption) ?_
      rotate_left 1
      focus (intro wS hSw; (try dsimp only at hSw); go_simp; (try with_reducible rfl))
      (try simp only [Act.put, List.setIfInBounds_toArray, List.set_cons_zero, List.set_cons_succ])
      refine heldTake 12 (v := ?_) rfl (by kernel_rfl) (by kernel_rfl) (by kernel_rfl) (fun _ _ _ h => h) (Or.inl ⟨by rfl, ?_⟩) (by assumption) ?_
      rotate_left 1
      focus (intro wS hSw; (try dsimp only at hSw); go_simp; (try with_reducible rfl))
      (try simp only [Act.put, List.setIfInBounds_toArray, List.set_cons_zero, List.set_cons_succ])
      refine wpAnyH_ready (rs := [13]) (by kernel_rfl) (by simp) ?_
      refine heldStep 13 rfl (fun K hK => ?_) AllReadyH.nil
      rw [if_pos (by kernel_rfl)]
      (go_wp2_with (first | (go_at_call 73; (with_reducible refine (HW.out _).mono ?_); rintro e' w2 ⟨rfl, rfl⟩) | (go_at_call 64; (with_reducible refine (HI.out _ eD).mono ?_); rintro e' w2 ⟨rfl, he2⟩; have z0 := he2.cell d0; have z1 := he2.cell d1; have z2 := he2.cell d2; have ew := eD.trans he2; have hq := hbD.ext he2; have q0 := hq.cell 0 (.slice none 0 0) rfl; have q1 := hq.cell 1 (.int .i64 0) rfl; have q2 := hq.frozen 0; have q3 := hq.frozen 1; have hql := hq.lt)))
      refine hK.out _ _ ?_ (fun hHeld => ?_)
      · ((try dsimp only); (refine ⟨?_, ?_, ?_⟩ <;> assumption))
      clear hK K
      (try simp only [Act.put, List.setIfInBounds_toArray, List.set_cons_zero, List.set_cons_succ])
      refine heldTake 14 (v := ?_) rfl (by kernel_rfl) (by kernel_rfl) (by kernel_rfl) (fun _ _ _ h => h) (Or.inl ⟨by rfl, ?_⟩) (by assumption) ?_
      rotate_left 1
      focus (intro wS hSw; (try dsimp only at hSw); go_simp; (try with_reducible rfl))
      (try simp only [Act.put, List.setIfInBounds_toArray, List.set_cons_zero, List.set_cons_succ])
      refine heldTake 15 (v := ?_) rfl (by kernel_rfl) (by kernel_rfl) (by kernel_rfl) (fun _ _ _ h => h) (Or.inl ⟨by rfl, ?_⟩) (by assumption) ?_
      rotate_left 1
      focus (intro wS hSw; (try dsimp only at hSw); go_simp; (try with_reducible rfl))
      (try simp only [Act.put, List.setIfInBounds_toArray, List.set_cons_zero, List.set_cons_succ])
      refine wpAnyH_done (by kernel_rfl) ?_ _
      go_wp2_with fail
      refine (?main2 : ∀ WW : World, BoxAt WW (w.heap.size + 1) 26 #[.slice none 0 0, .int .i64 0] → Ext w WW → bodyPost _ _ _ _ _ WW) _ ?_ ?_
      case main2 =>
        intro WW hbw hew
        have r0 := hbw.cell 0 (.slice none 0 0) rfl
        have r1 := hbw.cell 1 (.int .i64 0) rfl
        refine bodyPost_ret (v := .tuple #[.agg #[.slice none 0 0, .int .i64 0], .bool false]) (by simp only [results, Try.results161]; simp [go_sem, r0, r1]) rfl ⟨by exact ⟨_, _, _, _, rfl, fun p hp => by cases hp⟩, hew⟩
      · exact (hq.set 0 _).set 1 _
      · exact (ew.setCell (p := ⟨w.heap.size + 1, 0, none⟩) (by simp) _).setCell (p := ⟨w.heap.size + 1, 1, none⟩) (by simp) _
    · rw [hok] at HI
      simp only [if_true]
      go_enter Try.func161, Try.ntmps161
      go_wp2_with fail
      rw [← hW1]
      clear hW1
      refine wp_region_held_drew (S := (fun w' => w'.cell? ⟨w.heap.size, 0, none⟩ = some (.int .i64 v) ∧ w'.cell? ⟨g, j * 6, none⟩ = some (.slice B m e) ∧ w'.cell? ⟨g, j * 6 + 1, none⟩ = some (.int .i64 bd))) (by kernel_rfl) ?_ (fun hHeld => ?_)
      · ((try dsimp only); (refine ⟨?_, ?_, ?_⟩ <;> assumption))
      refine heldTake 0 (v := ?_) rfl (by kernel_rfl) (by kernel_rfl) (by kernel_rfl) (fun _ _ _ h => h) (Or.inl ⟨by rfl, ?_⟩) (by assumption) ?_
      rotate_left 1
      focus (intro wS hSw; (try dsimp only at hSw); go_simp; (try with_reducible rfl))
      (try simp only [Act.put, List.setIfInBounds_toArray, List.set_cons_zero, List.set_cons_succ])
      refine heldTake 1 (v := ?_) rfl (by kernel_rfl) (by kernel_rfl) (by kernel_rfl) (fun _ _ _ h => h) (Or.inl ⟨by rfl, ?_⟩) (by assumption) ?_
      rotate_left 1
      focus (intro wS hSw; (try dsimp only at hSw); go_simp; (try with_reducible rfl))
      (try simp only [Act.put, List.setIfInBounds_toArray, List.set_cons_zero, List.set_cons_succ])
      refine heldTake 2 (v := ?_) rfl (by kernel_rfl) (by kernel_rfl) (by kernel_rfl) (fun _ _ _ h => h) (Or.inl ⟨by rfl, ?_⟩) (by assumption) ?_
      rotate_left 1
      focus (intro wS hSw; (try dsimp only at hSw); go_simp; (try with_reducible rfl))
      (try simp only [Act.put, List.setIfInBounds_toArray, List.set_cons_zero, List.set_cons_succ])
      refine wpAnyH_ready (rs := [3]) (by kernel_rfl) (by simp) ?_
      refine heldStep 3 rfl (fun K hK => ?_) AllReadyH.nil
      (go_wp2_with (first | (go_at_call 73; (with_reducible refine (HW.out _).mono ?_); rintro e' w2 ⟨rfl, rfl⟩) | (go_at_call 64; (with_reducible refine (HI.out _ eD).mono ?_); rintro e' w2 ⟨rfl, he2⟩; have z0 := he2.cell d0; have z1 := he2.cell d1; have z2 := he2.cell d2; have ew := eD.trans he2; have hq := hbD.ext he2; have q0 := hq.cell 0 (.slice none 0 0) rfl; have q1 := hq.cell 1 (.int .i64 0) rfl; have q2 := hq.frozen 0; have q3 := hq.frozen 1; have hql := hq.lt)))
      refine hK.out _ _ ?_ (fun hHeld => ?_)
      · ((try dsimp only); (refine ⟨?_, ?_, ?_⟩ <;> assumption))
      clear hK K
      (try simp only [Act.put, List.setIfInBounds_toArray, List.set_cons_zero, List.set_cons_succ])
      refine heldTake 4 (v := ?_) rfl (by kernel_rfl) (by kernel_rfl) (by kernel_rfl) (fun _ _ _ h => h) (Or.inl ⟨by rfl, ?_⟩) (by assumption) ?_
      rotate_left 1
      focus (intro wS hSw; (try dsimp only at hSw); go_simp; (try with_reducible rfl))
      (try simp only [Act.put, List.setIfInBounds_toArray, List.set_cons_zero, List.set_cons_succ])
      refine heldTake 5 (v := ?_) rfl (by kernel_rfl) (by kernel_rfl) (by kernel_rfl) (fun _ _ _ h => h) (Or.inl ⟨by rfl, ?_⟩) (by assumption) ?_
      rotate_left 1
      focus (intro wS hSw; (try dsimp only at hSw); go_simp; (try with_reducible rfl))
      (try simp only [Act.put, List.setIfInBounds_toArray, List.set_cons_zero, List.set_cons_succ])
      refine heldTake 6 (v := ?_) rfl (by kernel_rfl) (by kernel_rfl) (by kernel_rfl) (fun _ _ _ h => h) (Or.inl ⟨by rfl, ?_⟩) (by assumption) ?_
      rotate_left 1
      focus (intro wS hSw; (try dsimp only at hSw); go_simp; (try with_reducible rfl))
      (try simp only [Act.put, List.setIfInBounds_toArray, List.set_cons_zero, List.set_cons_succ])
      refine heldTake 7 (v := ?_) rfl (by kernel_rfl) (by kernel_rfl) (by kernel_rfl) (fun _ _ _ h => h) (Or.inl ⟨by rfl, ?_⟩) (by assumption) ?_
      rotate_left 1
      focus (intro wS hSw; (try dsimp only at hSw); go_simp; (try with_reducible rfl))
      (try simp only [Act.put, List.setIfInBounds_toArray, List.set_cons_zero, List.set_cons_succ])
      refine heldTake 8 (v := ?_) rfl (by kernel_rfl) (by kernel_rfl) (by kernel_rfl) (fun _ _ _ h => h) (Or.inl ⟨by rfl, ?_⟩) (by assumption) ?_
      rotate_left 1
      focus (intro wS hSw; (try dsimp only at hSw); go_simp; (try with_reducible rfl))
      (try simp only [Act.put, List.setIfInBounds_toArray, List.set_cons_zero, List.set_cons_succ])
      refine heldTake 9 (v := ?_) rfl (by kernel_rfl) (by kernel_rfl) (by kernel_rfl) (fun _ _ _ h => h) (Or.inl ⟨by rfl, ?_⟩) (by assumption) ?_
      rotate_left 1
      focus (intro wS hSw; (try dsimp only at hSw); go_simp; (try with_reducible rfl))
      (try simp only [Act.put, List.setIfInBounds_toArray, List.set_cons_zero, List.set_cons_succ])
      refine heldTake 10 (v := ?_) rfl (by kernel_rfl) (by kernel_rfl) (by kernel_rfl) (fun _ _ _ h => h) (Or.inl ⟨by rfl, ?_⟩) (by assumption) ?_
      rotate_left 1
      focus (intro wS hSw; (try dsimp only at hSw); go_simp; (try with_reducible rfl))
      (try simp only [Act.put, List.setIfInBounds_toArray, List.set_cons_zero, List.set_cons_succ])
      refine heldTake 11 (v := ?_) rfl (by kernel_rfl) (by kernel_rfl) (by kernel_rfl) (fun _ _ _ h => h) (Or.inl ⟨by rfl, ?_⟩) (by assumption) ?_
      rotate_left 1
      focus (intro wS hSw; (try dsimp only at hSw); go_simp; (try with_reducible rfl))
      (try simp only [Act.put, List.setIfInBounds_toArray, List.set_cons_zero, List.set_cons_succ])
      refine heldTake 12 (v := ?_) rfl (by kernel_rfl) (by kernel_rfl) (by kernel_rfl) (fun _ _ _ h => h) (Or.inl ⟨by rfl, ?_⟩) (by assumption) ?_
      rotate_left 1
      focus (intro wS hSw; (try dsimp only at hSw); go_simp; (try with_reducible rfl))
      (try simp only [Act.put, List.setIfInBounds_toArray, List.set_cons_zero, List.set_cons_succ])
      refine wpAnyH_ready (rs := [13]) (by kernel_rfl) (by simp) ?_
      refine heldStep 13 rfl (fun K hK => ?_) AllReadyH.nil
      rw [if_pos (by kernel_rfl)]
      (go_wp2_with (first | (go_at_call 73; (with_reducible refine (HW.out _).mono ?_); rintro e' w2 ⟨rfl, rfl⟩) | (go_at_call 64; (with_reducible refine (HI.out _ eD).mono ?_); rintro e' w2 ⟨rfl, he2⟩; have z0 := he2.cell d0; have z1 := he2.cell d1; have z2 := he2.cell d2; have ew := eD.trans he2; have hq := hbD.ext he2; have q0 := hq.cell 0 (.slice none 0 0) rfl; have q1 := hq.cell 1 (.int .i64 0) rfl; have q2 := hq.frozen 0; have q3 := hq.frozen 1; have hql := hq.lt)))
      refine hK.out _ _ ?_ (fun hHeld => ?_)
      · ((try dsimp only); (refine ⟨?_, ?_, ?_⟩ <;> assumption))
      clear hK K
      (try simp only [Act.put, List.setIfInBounds_toArray, List.set_cons_zero, List.set_cons_succ])
      refine heldTake 14 (v := ?_) rfl (by kernel_rfl) (by kernel_rfl) (by kernel_rfl) (fun _ _ _ h => h) (Or.inl ⟨by rfl, ?_⟩) (by assumption) ?_
      rotate_left 1
      focus (intro wS hSw; (try dsimp only at hSw); go_simp; (try with_reducible rfl))
      (try simp only [Act.put, List.setIfInBounds_toArray, List.set_cons_zero, List.set_cons_succ])
      refine heldTake 15 (v := ?_) rfl (by kernel_rfl) (by kernel_rfl) (by kernel_rfl) (fun _ _ _ h => h) (Or.inl ⟨by rfl, ?_⟩) (by assumption) ?_
      rotate_left 1
      focus (intro wS hSw; (try dsimp only at hSw); go_simp; (try with_reducible rfl))
      (try simp only [Act.put, List.setIfInBounds_toArray, List.set_cons_zero, List.set_cons_succ])
      refine wpAnyH_done (by kernel_rfl) ?_ _
      go_wp2_with fail
      refine (?main3 : ∀ WW : World, BoxAt WW (w.heap.size + 1) 26 #[.slice B m e, .int .i64 bd] → Ext w WW → bodyPost _ _ _ _ _ WW) _ ?_ ?_
      case main3 =>
        intro WW hbw hew
        have r0 := hbw.cell 0 (.slice B m e) rfl
        have r1 := hbw.cell 1 (.int .i64 bd) rfl
        refine bodyPost_ret (v := .tuple #[.agg #[.slice B m e, .int .i64 bd], .bool true]) (by simp only [results, Try.results161]; simp [go_sem, r0, r1]) rfl ⟨by exact ⟨_, _, _, _, rfl, fun p hp => by injection hp with hp; subst hp; exact ⟨hin.ext hew, rfl⟩⟩, hew⟩
      · exact (hq.set 0 _).set 1 _
      · exact (ew.setCell (p := ⟨w.heap.size + 1, 0, none⟩) (by simp) _).setCell (p := ⟨w.heap.size + 1, 1, none⟩) (by simp) _
end Go.Proofs.Ytebklankehkmhaa
