/-
  The program's sets of nodes: walks.
-/
import Derived.Test.YtialpmmdomhobaaD0
import Derived.Test.YtialpmmdomhobaaC8
namespace Go.Proofs.Ytialpmmdomhobaa
set_option linter.unusedSimpArgs false
set_option linter.unusedVariables false
open Go.RowKit

theorem or_u64 (a b : Nat) (ha : a < 1048576) (hb : b < 1048576) : bits .or .u64 (a : Int) (b : Int) = ((a ||| b : Nat) : Int) := by
  show IntKind.u64.wrap ((BitVec.ofInt 64 (a : Int) ||| BitVec.ofInt 64 (b : Int)).toNat : Int) = _
  rw [BitVec.toNat_or, ofInt_nat64 a (by omega), ofInt_nat64 b (by omega)]
  have : a ||| b < 1048576 := Nat.or_lt_two_pow (n := 20) ha hb
  exact IntWalk.u64_in _ (by omega)
theorem and_u64 (a b : Nat) (ha : a < 1048576) (hb : b < 1048576) : bits .and .u64 (a : Int) (b : Int) = ((a &&& b : Nat) : Int) := by
  show IntKind.u64.wrap ((BitVec.ofInt 64 (a : Int) &&& BitVec.ofInt 64 (b : Int)).toNat : Int) = _
  rw [BitVec.toNat_and, ofInt_nat64 a (by omega), ofInt_nat64 b (by omega)]
  have : a &&& b ≤ a := Nat.and_le_left
  exact IntWalk.u64_in _ (by omega)
theorem pow_u64 {k : Nat} (h : k ≤ 9) : IntKind.u64.wrap ((2 : Int) ^ k) = (2 : Int) ^ k := by
  have : ∀ k < 10, (0 : Int) ≤ 2 ^ k ∧ (2 : Int) ^ k < 1024 := by decide
  have := this k (by omega)
  exact IntWalk.u64_in _ (by omega)
set_option maxHeartbeats 800000 in
theorem nodesOf_c (A : Option Addr) (n d : Nat) (xs : List Int) (w : World) (h : Ints w A n xs) (hx : ∀ x ∈ xs, 0 ≤ x ∧ x ≤ 9) :
    Calls Try.prog 40 #[.slice A n d] w fun e w' => e = .returned (.int .u64 (bitsOf xs : Nat)) ∧ bitsOf xs < 1024 ∧ Ext w w' := by
  have HX := hide hx
  have hl := hide h.len
  have hn := h.bound
  clear hx
  go_enter Try.func40, Try.ntmps40
  go_wp2_with fail
  refine wp_loopF 18 _ rfl rfl [6, 7, 17] rfl (fun fr wr => Ext w wr ∧ ∃ i s : Nat, i ≤ n ∧ (fr 8) = .int .i64 i ∧ (fr 3) = .int .u64 (s : Nat) ∧ s < 1024 ∧ Hid (s = bitsOf (xs.take i))) (fun fr wr => n - (intOf (fr 8)).toNat) ?_ ?_
  · (exact ⟨Ext.refl _, 0, 0, by omega, rfl, rfl, by omega, rfl⟩)
  intro ks fr wr hkept hrel; (try dsimp only at hrel)
  change Code.wp _ _ _ ⟨#[fr 0, fr 1, fr 2, fr 3, fr 4, fr 5, ks 6, ks 7, fr 8, fr 9, fr 10, fr 11, fr 12, fr 13, fr 14, fr 15, fr 16, ks 17], []⟩ wr
  simp only [KeptV, List.getD_cons_zero, List.getD_cons_succ] at hkept; obtain ⟨hk6, hk7, hk17, -⟩ := hkept
  generalize ks 6 = k6 at hk6 ⊢; subst hk6
  generalize ks 7 = k7 at hk7 ⊢; subst hk7
  generalize ks 17 = k17 at hk17 ⊢; subst hk17
  generalize fr 3 = s3 at hrel ⊢
  generalize fr 8 = s8 at hrel ⊢
  obtain ⟨he, i, s, hi, hs1, hs2, hsm, hs⟩ := hrel
  subst hs1; subst hs2
  by_cases hlt : i < n
  · obtain ⟨ad, x, rfl, hx, hc⟩ := (h.ext he).at_ hlt
    have hx9 := HX.out x (List.mem_of_getElem? hx.out)
    obtain ⟨k, rfl⟩ : ∃ k : Nat, x = (k : Int) := ⟨x.toNat, by omega⟩
    have hk : k ≤ 9 := by omega
    have hp := pow_small10 hk
    have hw := pow_u64 hk
    obtain ⟨t, ht⟩ : ∃ t : Nat, t = s ||| 2 ^ k := ⟨_, rfl⟩
    have hor : bits .or .u64 (s : Int) ((2 : Int) ^ k) = (t : Int) := by rw [ht]; have := or_u64 s (2 ^ k) (by omega) (by omega); simpa using this
    have ht2 : t < 1024 := by rw [ht]; exact or_small hsm hp
    have hs3 : Hid (t = bitsOf (xs.take (i + 1))) := hide (by rw [take_succ_of hx, bitsOf_snoc, ← hs.out, ht]; rfl)
    clear ht
    go_wp2_with fail
    exact ⟨⟨(by (repeat (first | exact trivial | refine ⟨rfl, ?_⟩))), he, i + 1, t, by omega, by go_num, rfl, ht2, hs3⟩, (by simp [intOf] <;> omega)⟩
  · obtain rfl : i = n := by omega
    have hF : Hid (s = bitsOf xs) := hide (by rw [hs.out, List.take_of_length_le (by rw [hl.out]; exact Nat.le_refl _)])
    go_wp2_with fail
    go_ret
    exact ⟨by rw [hF.out]; rfl, by rw [← hF.out]; exact hsm, he⟩
set_option maxHeartbeats 800000 in
theorem list_c (s : Nat) (w : World) (hs : s < 1024) :
    Calls Try.prog 26 #[.int .u64 (s : Nat)] w fun e w' => ∃ A n c, e = .returned (.slice A n c) ∧ n ≤ 10 ∧ Own w' w.heap.size 3 1 A n c ((pickAll s.testBit 10).map (Value.int .i64)) ∧ Ext w w' := by
  go_enter Try.func26, Try.ntmps26
  go_wp2_with fail
  refine wp_loopF 19 _ rfl rfl [0, 18] rfl (fun fr wr => Ext w wr ∧ ∃ k : Nat, k ≤ 10 ∧ (fr 5) = .int .i64 k ∧ ∃ X N y, (fr 3) = .slice X N y ∧ N ≤ k ∧ Own wr w.heap.size 3 1 X N y ((pickAll s.testBit k).map (Value.int .i64))) (fun fr wr => 10 - (intOf (fr 5)).toNat) ?_ ?_
  · (exact ⟨Ext.refl _, 0, by omega, rfl, _, _, _, rfl, by omega, Own.nil _ _ _ _⟩)
  intro ks fr wr hkept hrel; (try dsimp only at hrel)
  change Code.wp _ _ _ ⟨#[ks 0, fr 1, fr 2, fr 3, fr 4, fr 5, fr 6, fr 7, fr 8, fr 9, fr 10, fr 11, fr 12, fr 13, fr 14, fr 15, fr 16, fr 17, ks 18], []⟩ wr
  simp only [KeptV, List.getD_cons_zero, List.getD_cons_succ] at hkept; obtain ⟨hk0, hk18, -⟩ := hkept
  generalize ks 0 = k0 at hk0 ⊢; subst hk0
  generalize ks 18 = k18 at hk18 ⊢; subst hk18
  generalize fr 3 = s3 at hrel ⊢
  generalize fr 5 = s5 at hrel ⊢
  obtain ⟨he, k, hk, hs1, X, N, y, hs2, hN, ho⟩ := hrel
  subst hs1; subst hs2
  have hsz := he.size
  by_cases hlt : k < 10
  · have hlt' : (k : Int) < 10 := by omega
    have h2 : s / 2 ^ k < 1024 := by have := Nat.div_le_self s (2 ^ k); omega
    have hb : (bits .and .u64 ((s : Int) / 2 ^ k) 1 == 1) = s.testBit k := by
      have h1 : ((s : Int) / 2 ^ k) = ((s / 2 ^ k : Nat) : Int) := by simp
      have h3 := and_u64 (s / 2 ^ k) 1 (by omega) (by omega)
      rw [h1]
      rw [show ((1 : Nat) : Int) = 1 from rfl] at h3
      rw [h3, Nat.and_one_is_mod, Nat.testBit_eq_decide_div_mod_eq, Bool.eq_iff_iff]
      simp only [beq_iff_eq, decide_eq_true_eq]
      omega
    cases hc : s.testBit k
    · have HH := hide (pickAll_miss hc)
      rw [hc] at hb
      clear hc
      go_wp2_with fail
      exact ⟨⟨(by (repeat (first | exact trivial | refine ⟨rfl, ?_⟩))), he, k + 1, by omega, by go_num, _, _, _, rfl, by omega, by rw [HH.out]; exact ho⟩, (by simp [intOf] <;> omega)⟩
    · have HH := hide (pickAll_hit hc)
      rw [hc] at hb
      clear hc
      go_wp2_with (at_builtin; refine wpList_app rfl _ _ _ _ rfl Try.underlying28 _ 1 8 info_int rfl (by decide) rfl ho 1 [.int .i64 (k : Int)] (by first | rfl | simp [go_sem]) rfl ?_ ?_ ?_ ?_ ?_; (intro u hu; simp at hu; first | (subst hu; rfl) | (rcases hu with rfl | rfl <;> rfl) | (rcases hu with rfl | rfl | rfl <;> rfl) | (rcases hu with rfl | rfl | rfl | rfl <;> rfl) | (rcases hu with rfl | rfl | rfl | rfl | rfl <;> rfl) | (rcases hu with rfl | rfl | rfl | rfl | rfl | rfl <;> rfl)); omega; omega; (first | omega | (simp; omega)); intro A' c' w' ho' hg' hb')
      exact ⟨⟨(by (repeat (first | exact trivial | refine ⟨rfl, ?_⟩))), he.trans_own (Nat.le_refl _) ho hg', k + 1, by omega, by go_num, _, _, _, rfl, by omega, by rw [HH.out]; simpa using ho'⟩, (by simp [intOf] <;> omega)⟩
  · obtain rfl : k = 10 := by omega
    go_wp2_with fail
    go_ret
    exact ⟨_, _, _, rfl, hN, ho, he⟩
end Go.Proofs.Ytialpmmdomhobaa
