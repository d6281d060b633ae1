/-
  Lists of clauses that go with a formula: the reference's and the program's test; no condition.
-/
import Derived.Test.YtaigjmbhgpcalaaDoorC30
import Derived.Test.YtaigjmbhgpcalaaDoorC15
namespace Go.Proofs.YtaigjmbhgpcalaaDoor
set_option linter.unusedSimpArgs false
set_option linter.unusedVariables false
open Go.RowKit
def lstOk (v : Int) (cls l : List (List Int)) : Bool := cnfOk v cls && (decide (l.length ≤ 60) && l.all (clauseOk v))
set_option maxRecDepth 100000 in
set_option maxHeartbeats 3200000 in
theorem l11Takes_c (v : Int) (C : Option Addr) (nc dc : Nat) (cls : List (List Int)) (A : Option Addr) (n d : Nat) (l : List (List Int)) (w : World) (hcl : Intss w C nc cls) (h : Intss w A n l) :
    Calls Tryd.prog 26 #[.agg #[.int .i64 v, .slice C nc dc], .slice A n d] w fun e w' => e = .returned (.bool (lstOk v cls l)) ∧ Ext w w' := by
  have HN := hide (fun Wd (E : Ext w Wd) => l2Good_c v C nc dc cls Wd (hcl.ext E))
  have E0 : Hid (Ext w (w.alloc (.cells #[.int .i64 v, .slice C nc dc] 38))) := hide ((Ext.refl w).alloc _)
  have hb := h.bound
  have HL := hide h.len
  unfold lstOk
  cases hn : cnfOk v cls
  · rw [hn] at HN; clear hn
    simp only [Bool.false_and]
    go_enter Tryd.func26, Tryd.ntmps26
    go_wp2_with fail
    refine (HN.out _ E0.out).mono ?_
    rintro e1 w1 ⟨rfl, he1⟩
    go_wp2_with fail
    go_ret
    exact ⟨rfl, E0.out.trans he1⟩
  rw [hn] at HN
  clear hn
  rw [← HL.out, Bool.true_and]
  by_cases hn60 : n ≤ 60
  rotate_left
  · rw [decide_eq_false hn60]
    have hgt : (60 : Int) < (n : Int) := by omega
    simp only [Bool.false_and]
    go_enter Tryd.func26, Tryd.ntmps26
    go_wp2_with fail
    refine (HN.out _ E0.out).mono ?_
    rintro e1 w1 ⟨rfl, he1⟩
    go_wp2_with fail
    go_ret
    exact ⟨rfl, E0.out.trans he1⟩
  rw [decide_eq_true hn60, Bool.true_and]
  have hgt : ¬ (60 : Int) < (n : Int) := by omega
  obtain ⟨r, hr⟩ : ∃ r, r = l.all (clauseOk v) := ⟨_, rfl⟩
  rw [← hr]
  have HR := hide hr
  clear hr
  go_enter Tryd.func26, Tryd.ntmps26
  go_wp2_with fail
  refine (HN.out _ E0.out).mono ?_
  rintro e1 w1 ⟨rfl, he1⟩
  have ew1 := hide (E0.out.trans he1)
  have HB1 : Hid (BoxAt w1 w.heap.size 38 #[.int .i64 v, .slice C nc dc]) := hide ((BoxAt.made w _ _).ext he1)
  clear he1
  go_wp2_with fail
  refine wp_loopF 28 _ rfl rfl [1, 2] rfl (fun fr wr => Ext w1 wr ∧ ∃ i : Nat, i ≤ n ∧ (fr 5) = .int .i64 i ∧ Hid ((l.take i).all (clauseOk v) = true)) (fun fr wr => n - (intOf (fr 5)).toNat) ?_ ?_
  · (exact ⟨Ext.refl _, 0, by omega, rfl, by simp [Hid]⟩)
  intro ks fr wr hkept hrel; (try dsimp only at hrel)
  change Code.wp _ _ _ ⟨#[fr 0, ks 1, ks 2, fr 3, fr 4, fr 5, fr 6, fr 7, fr 8, fr 9, fr 10, fr 11, fr 12, fr 13, fr 14, fr 15, fr 16, fr 17, fr 18, fr 19, fr 20, fr 21, fr 22, fr 23, fr 24, fr 25, fr 26, fr 27], []⟩ wr
  simp only [KeptV, List.getD_cons_zero, List.getD_cons_succ] at hkept; obtain ⟨hk1, hk2, -⟩ := hkept
  generalize ks 1 = k1 at hk1 ⊢; subst hk1
  generalize ks 2 = k2 at hk2 ⊢; subst hk2
  generalize fr 5 = s5 at hrel ⊢
  obtain ⟨he, i, hi, hs1, hq⟩ := hrel
  subst hs1
  have HE := hide he
  have ewr := hide (ew1.out.trans he)
  have b0 := (HB1.out.ext he).cell 0 (.int .i64 v) rfl
  by_cases hlt : i < n
  · obtain ⟨ad, xs, X, y, z, rfl, hx, gx, hin⟩ := (h.ext ewr.out).at_ hlt
    have e0 := (Ext.refl wr).drew
    have d0 := e0.cell b0
    have d1 := e0.cell gx
    have HC := hide (fun (Wd : World) (E : Ext wr Wd) => l2Clause_c v X y z xs Wd (hin.ext E))
    cases hcl2 : clauseOk v xs
    · have hRF : Hid (r = false) := hide (by rw [HR.out]; exact all_false_of hx hcl2)
      rw [hcl2] at HC
      clear hcl2 hx he
      go_wp2_with fail
      refine wp_region_held_drew (S := (fun w' => w'.cell? ⟨w.heap.size, 0, none⟩ = some (.int .i64 v) ∧ w'.cell? (ad.add i) = some (.slice X y z))) (by kernel_rfl) ?_ (fun hHeld => ?_)
      · ((try dsimp only); (first | exact ⟨d0, d1⟩ | exact ⟨E4.out.cell b0, E4.out.cell gx⟩))
      refine heldTake 0 (v := ?_) rfl (by kernel_rfl) (by kernel_rfl) (by kernel_rfl) (fun _ _ _ h => h) (Or.inl ⟨by rfl, ?_⟩) (by assumption) ?_
      rotate_left 1
      focus (intro wS hSw; (try dsimp only at hSw); go_simp; (try with_reducible rfl))
      (try simp only [Act.put, List.setIfInBounds_toArray, List.set_cons_zero, List.set_cons_succ])
      refine heldTake 1 (v := ?_) rfl (by kernel_rfl) (by kernel_rfl) (by kernel_rfl) (fun _ _ _ h => h) (Or.inl ⟨by rfl, ?_⟩) (by assumption) ?_
      rotate_left 1
      focus (intro wS hSw; (try dsimp only at hSw); go_simp; (try with_reducible rfl))
      (try simp only [Act.put, List.setIfInBounds_toArray, List.set_cons_zero, List.set_cons_succ])
      refine heldTake 2 (v := ?_) rfl (by kernel_rfl) (by kernel_rfl) (by kernel_rfl) (fun _ _ _ h => h) (Or.inl ⟨by rfl, ?_⟩) (by assumption) ?_
      rotate_left 1
      focus (intro wS hSw; (try dsimp only at hSw); go_simp; (try with_reducible rfl))
      (try simp only [Act.put, List.setIfInBounds_toArray, List.set_cons_zero, List.set_cons_succ])
      refine heldTake 3 (v := ?_) rfl (by kernel_rfl) (by kernel_rfl) (by kernel_rfl) (fun _ _ _ h => h) (Or.inl ⟨by rfl, ?_⟩) (by assumption) ?_
      rotate_left 1
      focus (intro wS hSw; (try dsimp only at hSw); go_simp; (try with_reducible rfl))
      (try simp only [Act.put, List.setIfInBounds_toArray, List.set_cons_zero, List.set_cons_succ])
      refine heldTake 4 (v := ?_) rfl (by kernel_rfl) (by kernel_rfl) (by kernel_rfl) (fun _ _ _ h => h) (Or.inl ⟨by rfl, ?_⟩) (by assumption) ?_
      rotate_left 1
      focus (intro wS hSw; (try dsimp only at hSw); go_simp; (try with_reducible rfl))
      (try simp only [Act.put, List.setIfInBounds_toArray, List.set_cons_zero, List.set_cons_succ])
      refine heldTake 5 (v := ?_) rfl (by kernel_rfl) (by kernel_rfl) (by kernel_rfl) (fun _ _ _ h => h) (Or.inl ⟨by rfl, ?_⟩) (by assumption) ?_
      rotate_left 1
      focus (intro wS hSw; (try dsimp only at hSw); go_simp; (try with_reducible rfl))
      (try simp only [Act.put, List.setIfInBounds_toArray, List.set_cons_zero, List.set_cons_succ])
      refine wpAnyH_ready (rs := [6]) (by kernel_rfl) (by simp) ?_
      refine heldStep 6 rfl (fun K hK => ?_) AllReadyH.nil
      rw [if_pos (by kernel_rfl)]
      (go_wp2_with (go_at_call 41; (with_reducible refine (HC.out _ e0).mono ?_); rintro e w4 ⟨rfl, he4⟩; have E4 : Hid (Ext wr w4) := hide (e0.trans he4)))
      refine hK.out _ _ ?_ (fun hHeld => ?_)
      · ((try dsimp only); (first | exact ⟨d0, d1⟩ | exact ⟨E4.out.cell b0, E4.out.cell gx⟩))
      clear hK K
      (try simp only [Act.put, List.setIfInBounds_toArray, List.set_cons_zero, List.set_cons_succ])
      refine heldTake 7 (v := ?_) rfl (by kernel_rfl) (by kernel_rfl) (by kernel_rfl) (fun _ _ _ h => h) (Or.inl ⟨by rfl, ?_⟩) (by assumption) ?_
      rotate_left 1
      focus (intro wS hSw; (try dsimp only at hSw); go_simp; (try with_reducible rfl))
      (try simp only [Act.put, List.setIfInBounds_toArray, List.set_cons_zero, List.set_cons_succ])
      refine wpAnyH_done (by kernel_rfl) ?_ _
      go_wp2_with fail
      go_ret
      exact ⟨by rw [hRF.out]; rfl, ewr.out.trans E4.out⟩
    · have hq2 := all_take_succ hx hq hcl2
      rw [hcl2] at HC
      clear hcl2 hx he hq
      go_wp2_with fail
      refine wp_region_held_drew (S := (fun w' => w'.cell? ⟨w.heap.size, 0, none⟩ = some (.int .i64 v) ∧ w'.cell? (ad.add i) = some (.slice X y z))) (by kernel_rfl) ?_ (fun hHeld => ?_)
      · ((try dsimp only); (first | exact ⟨d0, d1⟩ | exact ⟨E4.out.cell b0, E4.out.cell gx⟩))
      refine heldTake 0 (v := ?_) rfl (by kernel_rfl) (by kernel_rfl) (by kernel_rfl) (fun _ _ _ h => h) (Or.inl ⟨by rfl, ?_⟩) (by assumption) ?_
      rotate_left 1
      focus (intro wS hSw; (try dsimp only at hSw); go_simp; (try with_reducible rfl))
      (try simp only [Act.put, List.setIfInBounds_toArray, List.set_cons_zero, List.set_cons_succ])
      refine heldTake 1 (v := ?_) rfl (by kernel_rfl) (by kernel_rfl) (by kernel_rfl) (fun _ _ _ h => h) (Or.inl ⟨by rfl, ?_⟩) (by assumption) ?_
      rotate_left 1
      focus (intro wS hSw; (try dsimp only at hSw); go_simp; (try with_reducible rfl))
      (try simp only [Act.put, List.setIfInBounds_toArray, List.set_cons_zero, List.set_cons_succ])
      refine heldTake 2 (v := ?_) rfl (by kernel_rfl) (by kernel_rfl) (by kernel_rfl) (fun _ _ _ h => h) (Or.inl ⟨by rfl, ?_⟩) (by assumption) ?_
      rotate_left 1
      focus (intro wS hSw; (try dsimp only at hSw); go_simp; (try with_reducible rfl))
      (try simp only [Act.put, List.setIfInBounds_toArray, List.set_cons_zero, List.set_cons_succ])
      refine heldTake 3 (v := ?_) rfl (by kernel_rfl) (by kernel_rfl) (by kernel_rfl) (fun _ _ _ h => h) (Or.inl ⟨by rfl, ?_⟩) (by assumption) ?_
      rotate_left 1
      focus (intro wS hSw; (try dsimp only at hSw); go_simp; (try with_reducible rfl))
      (try simp only [Act.put, List.setIfInBounds_toArray, List.set_cons_zero, List.set_cons_succ])
      refine heldTake 4 (v := ?_) rfl (by kernel_rfl) (by kernel_rfl) (by kernel_rfl) (fun _ _ _ h => h) (Or.inl ⟨by rfl, ?_⟩) (by assumption) ?_
      rotate_left 1
      focus (intro wS hSw; (try dsimp only at hSw); go_simp; (try with_reducible rfl))
      (try simp only [Act.put, List.setIfInBounds_toArray, List.set_cons_zero, List.set_cons_succ])
      refine heldTake 5 (v := ?_) rfl (by kernel_rfl) (by kernel_rfl) (by kernel_rfl) (fun _ _ _ h => h) (Or.inl ⟨by rfl, ?_⟩) (by assumption) ?_
      rotate_left 1
      focus (intro wS hSw; (try dsimp only at hSw); go_simp; (try with_reducible rfl))
      (try simp only [Act.put, List.setIfInBounds_toArray, List.set_cons_zero, List.set_cons_succ])
      refine wpAnyH_ready (rs := [6]) (by kernel_rfl) (by simp) ?_
      refine heldStep 6 rfl (fun K hK => ?_) AllReadyH.nil
      rw [if_pos (by kernel_rfl)]
      (go_wp2_with (go_at_call 41; (with_reducible refine (HC.out _ e0).mono ?_); rintro e w4 ⟨rfl, he4⟩; have E4 : Hid (Ext wr w4) := hide (e0.trans he4)))
      refine hK.out _ _ ?_ (fun hHeld => ?_)
      · ((try dsimp only); (first | exact ⟨d0, d1⟩ | exact ⟨E4.out.cell b0, E4.out.cell gx⟩))
      clear hK K
      (try simp only [Act.put, List.setIfInBounds_toArray, List.set_cons_zero, List.set_cons_succ])
      refine heldTake 7 (v := ?_) rfl (by kernel_rfl) (by kernel_rfl) (by kernel_rfl) (fun _ _ _ h => h) (Or.inl ⟨by rfl, ?_⟩) (by assumption) ?_
      rotate_left 1
      focus (intro wS hSw; (try dsimp only at hSw); go_simp; (try with_reducible rfl))
      (try simp only [Act.put, List.setIfInBounds_toArray, List.set_cons_zero, List.set_cons_succ])
      refine wpAnyH_done (by kernel_rfl) ?_ _
      go_wp2_with fail
      exact ⟨⟨(by (repeat (first | exact trivial | refine ⟨rfl, ?_⟩))), HE.out.trans E4.out, i + 1, by omega, by go_num, hq2⟩, (by simp [intOf] <;> omega)⟩
  · obtain rfl : i = n := by omega
    have hRT : Hid (r = true) := hide (by rw [HR.out]; exact all_take_all hq (by rw [HL.out]; exact Nat.le_refl _))
    clear hq he
    go_wp2_with fail
    go_ret
    exact ⟨by rw [hRT.out]; rfl, ewr.out⟩
theorem listOk_lit_enters : Enters Tryd.prog 45 := enters_of Tryd.func45 (by kernel_rfl) (by kernel_rfl)
theorem listOk_lit_c (v : Int) (b : Nat) (X : Option Addr) (y z : Nat) (xs : List Int) (w : World) (hx : Ints w X y xs) (hb : w.cell? ⟨b, 0, none⟩ = some (.int .i64 v)) :
    Calls Tryd.prog 45 #[.slice X y z, .pointer (some ⟨b, 0, none⟩)] w fun e w' => e = .returned (.bool (!clauseOk v xs)) ∧ Ext w w' := by
  have HC := hide (IsClause_c v X y z xs w hx)
  generalize clauseOk v xs = r at HC ⊢
  go_enter Tryd.func45, Tryd.ntmps45
  go_wp2_with fail
  refine HC.out.mono ?_
  rintro e w1 ⟨rfl, he1⟩
  go_wp2_with fail
  go_ret
  exact ⟨rfl, he1⟩
set_option maxRecDepth 100000 in
set_option maxHeartbeats 3200000 in
theorem listOk_c (v : Int) (C : Option Addr) (nc dc : Nat) (cls : List (List Int)) (A : Option Addr) (n d : Nat) (l : List (List Int)) (w : World) (hcl : Intss w C nc cls) (h : Intss w A n l) :
    Calls Tryd.prog 28 #[.agg #[.int .i64 v, .slice C nc dc], .slice A n d] w fun e w' => e = .returned (.bool (lstOk v cls l)) ∧ Ext w w' := by
  have HN := hide (fun Wd (E : Ext w Wd) => IsCnf_c v C nc dc cls Wd (hcl.ext E))
  have E0 : Hid (Ext w (w.alloc (.cells #[.int .i64 v, .slice C nc dc] 38))) := hide ((Ext.refl w).alloc _)
  have hb := h.bound
  have HL := hide h.len
  unfold lstOk
  cases hn : cnfOk v cls
  · rw [hn] at HN; clear hn
    simp only [Bool.false_and]
    go_enter Tryd.func28, Tryd.ntmps28
    go_wp2_with fail
    refine (HN.out _ E0.out).mono ?_
    rintro e1 w1 ⟨rfl, he1⟩
    go_wp2_with fail
    go_ret
    exact ⟨rfl, E0.out.trans he1⟩
  rw [hn] at HN
  clear hn
  rw [← HL.out, Bool.true_and]
  by_cases hn60 : n ≤ 60
  rotate_left
  · rw [decide_eq_false hn60]
    have hgt : ¬ (n : Int) ≤ (60 : Int) := by omega
    simp only [Bool.false_and]
    go_enter Tryd.func28, Tryd.ntmps28
    go_wp2_with fail
    refine (HN.out _ E0.out).mono ?_
    rintro e1 w1 ⟨rfl, he1⟩
    go_wp2_with fail
    go_ret
    exact ⟨rfl, E0.out.trans he1⟩
  rw [decide_eq_true hn60, Bool.true_and]
  have hgt : (n : Int) ≤ (60 : Int) := by omega
  have hall : l.all (clauseOk v) = !(l.any fun x => !clauseOk v x) := by rw [List.not_any_eq_all_not]; simp
  have HCF := hide (fun (Wc : World) (E : Ext w Wc) (hbx : Wc.cell? ⟨w.heap.size, 0, none⟩ = some (.int .i64 v)) => ContainsFunc_rows_c 45 #[.pointer (some ⟨w.heap.size, 0, none⟩)] (fun x => !clauseOk v x) A n d l Wc (h.ext E) listOk_lit_enters (fun xs B m c wr hx E2 => listOk_lit_c v w.heap.size B m c xs wr hx (E2.cell hbx)))
  rw [hall]
  generalize (l.any fun x => !clauseOk v x) = r at HCF ⊢
  clear hall
  go_enter Tryd.func28, Tryd.ntmps28
  go_wp2_with fail
  refine (HN.out _ E0.out).mono ?_
  rintro e1 w1 ⟨rfl, he1⟩
  have ew1 := hide (E0.out.trans he1)
  have HB1 : Hid (BoxAt w1 w.heap.size 38 #[.int .i64 v, .slice C nc dc]) := hide ((BoxAt.made w _ _).ext he1)
  clear he1
  go_wp2_with fail
  refine (HCF.out _ ew1.out (HB1.out.cell 0 _ rfl)).mono ?_
  rintro e w2 ⟨rfl, he2⟩
  go_wp2_with fail
  go_ret
  exact ⟨rfl, ew1.out.trans he2⟩
end Go.Proofs.YtaigjmbhgpcalaaDoor
