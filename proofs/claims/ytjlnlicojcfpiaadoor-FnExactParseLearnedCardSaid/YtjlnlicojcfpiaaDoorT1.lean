/-
  The reference's numeral of a number; no condition.
-/
import Derived.Lib.ItoaNum
import Derived.Test.YtjlnlicojcfpiaaDoorC3
namespace Go.Proofs.YtjlnlicojcfpiaaDoor
set_option linter.unusedSimpArgs false
set_option linter.unusedVariables false
open Go.RowKit
set_option maxRecDepth 100000 in
set_option maxHeartbeats 3200000 in
theorem l1Num_small (n : Nat) (hn : n < 10) (w : World) :
    Calls Tryd.prog 38 #[.int .i64 (n : Int)] w fun e w' => e = .returned (.string ⟨(Lib.decDigits n).toArray⟩) ∧ w' = w := by
  rw [show Lib.decDigits n = [UInt8.ofNat (48 + n)] by rw [Lib.decDigits, dif_pos hn]]
  have h : n = 0 ∨ n = 1 ∨ n = 2 ∨ n = 3 ∨ n = 4 ∨ n = 5 ∨ n = 6 ∨ n = 7 ∨ n = 8 ∨ n = 9 := by omega
  rcases h with rfl | rfl | rfl | rfl | rfl | rfl | rfl | rfl | rfl | rfl
  all_goals
    go_enter Tryd.func38, Tryd.ntmps38
    go_wp2_with fail
    go_ret
    exact ⟨by first | rfl | kernel_rfl, rfl⟩
theorem digits_step {n q d : Nat} (h : n = 10 * q + d) (hd : d < 10) (hq : 0 < q) : Lib.decDigits n = Lib.decDigits q ++ [UInt8.ofNat (48 + d)] := by
  rw [Lib.decDigits, dif_neg (by omega), show n / 10 = q by omega, show n % 10 = d by omega]
theorem decDigits_len (n : Nat) : (Lib.decDigits n).length ≤ n + 1 := by
  induction n using Nat.strongRecOn with
  | ind n ih =>
    by_cases h : n < 10
    · rw [Lib.decDigits, dif_pos h]; simp
    · have h1 := ih (n / 10) (by omega)
      rw [Lib.decDigits, dif_neg h, List.length_append]
      simp only [List.length_cons, List.length_nil]; omega
set_option maxRecDepth 100000 in
set_option maxHeartbeats 6400000 in
theorem l1Num_nat : ∀ (n : Nat), n ≤ 1000000 → ∀ (w : World),
    Calls Tryd.prog 38 #[.int .i64 (n : Int)] w fun e w' => e = .returned (.string ⟨(Lib.decDigits n).toArray⟩) ∧ Ext w w' := by
  intro n
  induction n using Nat.strongRecOn with
  | ind n ih =>
  intro hn w
  by_cases hs : n < 10
  · refine (l1Num_small n hs w).mono ?_
    rintro e w' ⟨rfl, rfl⟩
    exact ⟨rfl, Ext.refl _⟩
  · obtain ⟨q, hq⟩ : ∃ q, q = n / 10 := ⟨_, rfl⟩
    obtain ⟨d, hd⟩ : ∃ d, d = n % 10 := ⟨_, rfl⟩
    have hd9 : d < 10 := by omega
    rw [digits_step (n := n) (q := q) (d := d) (by omega) hd9 (by omega)]
    have HR := hide (fun W => ih q (by omega) (by omega) W)
    have h1 : ¬ (n : Int) < 0 := by omega
    have h2 : ¬ (n : Int) < 10 := by omega
    have h3 : (n : Int).tdiv 10 = (q : Int) := by rw [hq]; rfl
    have h4 : (n : Int).tmod 10 = (d : Int) := by rw [hd]; rfl
    have hwq : IntKind.i64.wrap (q : Int) = (q : Int) := IntWalk.i64_in _ (by omega)
    have hwq2 : wrap64 (q : Int) = (q : Int) := by unfold wrap64; omega
    have hlen : ¬ 9223372036854775807 < (Lib.decDigits q).length + 1 := by have := decDigits_len q; omega
    have hw1 : IntKind.i64.wrap 1 = 1 := rfl
    have hw2 : IntKind.i64.wrap 2 = 2 := rfl
    have hw3 : IntKind.i64.wrap 3 = 3 := rfl
    have hw4 : IntKind.i64.wrap 4 = 4 := rfl
    have hw5 : IntKind.i64.wrap 5 = 5 := rfl
    have hw6 : IntKind.i64.wrap 6 = 6 := rfl
    have hw7 : IntKind.i64.wrap 7 = 7 := rfl
    have hw8 : IntKind.i64.wrap 8 = 8 := rfl
    have hw9 : IntKind.i64.wrap 9 = 9 := rfl
    have hw10 : IntKind.i64.wrap 10 = 10 := rfl
    clear hq hd ih
    have h : d = 0 ∨ d = 1 ∨ d = 2 ∨ d = 3 ∨ d = 4 ∨ d = 5 ∨ d = 6 ∨ d = 7 ∨ d = 8 ∨ d = 9 := by omega
    rcases h with rfl | rfl | rfl | rfl | rfl | rfl | rfl | rfl | rfl | rfl
    all_goals
      simp only [Int.natCast_zero, Int.natCast_one, Int.cast_ofNat_Int] at h4
      go_enter Tryd.func38, Tryd.ntmps38
      go_wp2_with fail
      refine wp_region_held_drew (S := (fun w' => True)) (by kernel_rfl) ?_ (fun hHeld => ?_)
      · ((try dsimp only); (try trivial))
      refine heldTake 0 (v := ?_) rfl (by kernel_rfl) (by kernel_rfl) (by kernel_rfl) (fun _ _ _ h => h) (Or.inl ⟨by rfl, ?_⟩) (by assumption) ?_
      rotate_left 1
      focus (intro wS hSw; (try dsimp only at hSw); go_simp; (try with_reducible rfl))
      (try simp only [Act.put, List.setIfInBounds_toArray, List.set_cons_zero, List.set_cons_succ])
      refine heldTake 1 (v := ?_) rfl (by kernel_rfl) (by kernel_rfl) (by kernel_rfl) (fun _ _ _ h => h) (Or.inl ⟨by rfl, ?_⟩) (by assumption) ?_
      rotate_left 1
      focus (intro wS hSw; (try dsimp only at hSw); go_simp; (try with_reducible rfl))
      (try simp only [Act.put, List.setIfInBounds_toArray, List.set_cons_zero, List.set_cons_succ])
      refine heldTake 3 (v := ?_) rfl (by kernel_rfl) (by kernel_rfl) (by kernel_rfl) (fun _ _ _ h => h) (Or.inl ⟨by rfl, ?_⟩) (by assumption) ?_
      rotate_left 1
      focus (intro wS hSw; (try dsimp only at hSw); go_simp; (try with_reducible rfl))
      (try simp only [Act.put, List.setIfInBounds_toArray, List.set_cons_zero, List.set_cons_succ])
      refine heldTake 4 (v := ?_) rfl (by kernel_rfl) (by kernel_rfl) (by kernel_rfl) (fun _ _ _ h => h) (Or.inl ⟨by rfl, ?_⟩) (by assumption) ?_
      rotate_left 1
      focus (intro wS hSw; (try dsimp only at hSw); go_simp; (try with_reducible rfl))
      (try simp only [Act.put, List.setIfInBounds_toArray, List.set_cons_zero, List.set_cons_succ])
      refine heldTake 5 (v := ?_) rfl (by kernel_rfl) (by kernel_rfl) (by kernel_rfl) (fun _ _ _ h => h) (Or.inl ⟨by rfl, ?_⟩) (by assumption) ?_
      rotate_left 1
      focus (intro wS hSw; (try dsimp only at hSw); go_simp; (try with_reducible rfl))
      (try simp only [Act.put, List.setIfInBounds_toArray, List.set_cons_zero, List.set_cons_succ])
      refine heldTake 6 (v := ?_) rfl (by kernel_rfl) (by kernel_rfl) (by kernel_rfl) (fun _ _ _ h => h) (Or.inl ⟨by rfl, ?_⟩) (by assumption) ?_
      rotate_left 1
      focus (intro wS hSw; (try dsimp only at hSw); go_simp; (try with_reducible rfl))
      (try simp only [Act.put, List.setIfInBounds_toArray, List.set_cons_zero, List.set_cons_succ])
      refine heldTake 7 (v := ?_) rfl (by kernel_rfl) (by kernel_rfl) (by kernel_rfl) (fun _ _ _ h => h) (Or.inl ⟨by rfl, ?_⟩) (by assumption) ?_
      rotate_left 1
      focus (intro wS hSw; (try dsimp only at hSw); go_simp; (try with_reducible rfl))
      (try simp only [Act.put, List.setIfInBounds_toArray, List.set_cons_zero, List.set_cons_succ])
      refine heldTake 8 (v := ?_) rfl (by kernel_rfl) (by kernel_rfl) (by kernel_rfl) (fun _ _ _ h => h) (Or.inl ⟨by rfl, ?_⟩) (by assumption) ?_
      rotate_left 1
      focus (intro wS hSw; (try dsimp only at hSw); go_simp; (try with_reducible rfl))
      (try simp only [Act.put, List.setIfInBounds_toArray, List.set_cons_zero, List.set_cons_succ])
      refine wpAnyH_ready (rs := [2]) (by kernel_rfl) (by simp) ?_
      refine heldStep 2 rfl (fun K hK => ?_) AllReadyH.nil
      (go_wp2_with (go_at_call 38; (with_reducible refine (HR.out _).mono ?_); rintro e w1 ⟨rfl, he1⟩))
      refine hK.out _ _ ?_ (fun hHeld => ?_)
      · ((try dsimp only); (try trivial))
      clear hK K
      (try simp only [Act.put, List.setIfInBounds_toArray, List.set_cons_zero, List.set_cons_succ])
      refine heldTake 9 (v := ?_) rfl (by kernel_rfl) (by kernel_rfl) (by kernel_rfl) (fun _ _ _ h => h) (Or.inl ⟨by rfl, ?_⟩) (by assumption) ?_
      rotate_left 1
      focus (intro wS hSw; (try dsimp only at hSw); go_simp; (try with_reducible rfl))
      (try simp only [Act.put, List.setIfInBounds_toArray, List.set_cons_zero, List.set_cons_succ])
      refine heldTake 10 (v := ?_) rfl (by kernel_rfl) (by kernel_rfl) (by kernel_rfl) (fun _ _ _ h => h) (Or.inl ⟨by rfl, ?_⟩) (by assumption) ?_
      rotate_left 1
      focus (intro wS hSw; (try dsimp only at hSw); go_simp; (try with_reducible rfl))
      (try simp only [Act.put, List.setIfInBounds_toArray, List.set_cons_zero, List.set_cons_succ])
      refine wpAnyH_done (by kernel_rfl) ?_ _
      go_wp2_with fail
      go_ret
      exact ⟨by first | rfl | kernel_rfl | (simp; done), (Ext.refl _).drew.trans he1⟩
theorem itoa_len (n : Int) : (Lib.itoa n).length ≤ n.natAbs + 2 := by
  unfold Lib.itoa
  have h1 := decDigits_len n.natAbs
  have h2 := decDigits_len n.toNat
  split
  · simp only [List.length_cons]; omega
  · omega
theorem itoa_ne (n : Int) : Lib.itoa n ≠ [] := by
  have h : ∀ u, Lib.decDigits u ≠ [] := fun u => by rw [Lib.decDigits]; split <;> simp
  unfold Lib.itoa
  split
  · simp
  · exact h _
theorem bytes_app (a b : List UInt8) : (⟨a.toArray⟩ : ByteArray) ++ ⟨b.toArray⟩ = ⟨(a ++ b).toArray⟩ := by
  apply ByteArray.ext
  simp
set_option maxRecDepth 100000 in
set_option maxHeartbeats 3200000 in
theorem l1Num_c (n : Int) (h : -1000000 ≤ n ∧ n ≤ 1000000) (w : World) :
    Calls Tryd.prog 38 #[.int .i64 n] w fun e w' => e = .returned (.string ⟨(Lib.itoa n).toArray⟩) ∧ Ext w w' := by
  unfold Lib.itoa
  by_cases hn : n < 0
  · rw [if_pos hn]
    have hw : IntKind.i64.wrap (-n) = (n.natAbs : Int) := by rw [IntWalk.i64_in _ (by omega)]; omega
    have hw2 : wrap64 (-n) = (n.natAbs : Int) := by unfold wrap64; omega
    have HR := hide (fun W => l1Num_nat n.natAbs (by omega) W)
    have hlen : ¬ 9223372036854775807 < 1 + (Lib.decDigits n.natAbs).length := by have := decDigits_len n.natAbs; omega
    have hlen2 : ¬ 9223372036854775807 < (Lib.decDigits n.natAbs).length + 1 := by have := decDigits_len n.natAbs; omega
    go_enter Tryd.func38, Tryd.ntmps38
    go_wp2_with fail
    refine (HR.out _).mono ?_
    rintro e w1 ⟨rfl, he1⟩
    go_wp2_with fail
    go_ret
    exact ⟨congrArg (fun x => Ending.returned (Value.string x)) (bytes_app [45] (Lib.decDigits n.natAbs)), he1⟩
  · rw [if_neg hn]
    obtain ⟨k, rfl⟩ := int_nat (show 0 ≤ n by omega)
    rw [Int.toNat_natCast]
    exact l1Num_nat k (by omega) w
end Go.Proofs.YtjlnlicojcfpiaaDoor
