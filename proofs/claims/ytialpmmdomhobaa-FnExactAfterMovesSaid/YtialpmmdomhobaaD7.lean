/-
  Pebbling: counts, targets; the reference's play.
-/
import Derived.Test.YtialpmmdomhobaaD6
namespace Go.Proofs.Ytialpmmdomhobaa
set_option linter.unusedSimpArgs false
set_option linter.unusedVariables false
open Go.RowKit

/-- The bits below place i, counted. -/
def cntTo (s i : Nat) : Nat := (List.range i).foldl (fun c i => c + s / 2 ^ i % 2) 0
theorem cntTo_succ (s i : Nat) : cntTo s (i + 1) = cntTo s i + s / 2 ^ i % 2 := by simp [cntTo, List.range_succ]
theorem cntB_eq (s : Nat) : cntB s = cntTo s 10 := rfl
theorem cntTo_le (s i : Nat) : cntTo s i ≤ i := by
  induction i with
  | zero => simp [cntTo]
  | succ i ih => rw [cntTo_succ]; have := Nat.mod_lt (s / 2 ^ i) (show 0 < 2 by omega); omega
theorem cntTo_done {s i : Nat} (h : s / 2 ^ i = 0) : ∀ j, i ≤ j → cntTo s j = cntTo s i := by
  intro j
  induction j with
  | zero => intro hj; obtain rfl : i = 0 := by omega
            rfl
  | succ j ih =>
    intro hj
    by_cases hij : i ≤ j
    · rw [cntTo_succ, ih hij]
      have : s / 2 ^ j = 0 := by
        rw [Nat.div_eq_zero_iff] at h ⊢
        have h2 : 2 ^ i ≤ 2 ^ j := Nat.pow_le_pow_right (by omega) hij
        have := Nat.one_le_two_pow (n := i)
        right; omega
      rw [this]; rfl
    · obtain rfl : i = j + 1 := by omega
      rfl
theorem small_done {s : Nat} (hs : s < 1024) : s / 2 ^ 10 = 0 := by
  rw [Nat.div_eq_zero_iff]; right; omega
set_option maxHeartbeats 800000 in
theorem l14Count_c (s : Nat) (w : World) (hs : s < 1024) :
    Calls Try.prog 35 #[.int .i64 (s : Nat)] w fun e w' => e = .returned (.int .i64 (cntB s : Nat)) ∧ Ext w w' := by
  go_enter Try.func35, Try.ntmps35
  go_wp2_with fail
  refine wp_loopF 13 _ rfl rfl [12] rfl (fun fr wr => Ext w wr ∧ ∃ i q c : Nat, i ≤ 10 ∧ (fr 0) = .int .i64 (q : Nat) ∧ (fr 3) = .int .i64 (c : Nat) ∧ q < 1024 ∧ c ≤ 10 ∧ Hid (q = s / 2 ^ i ∧ c = cntTo s i)) (fun fr wr => (intOf (fr 0)).toNat) ?_ ?_
  · (exact ⟨Ext.refl _, 0, s, 0, by omega, rfl, rfl, hs, by omega, hide ⟨by simp, rfl⟩⟩)
  intro ks fr wr hkept hrel; (try dsimp only at hrel)
  change Code.wp _ _ _ ⟨#[fr 0, fr 1, fr 2, fr 3, fr 4, fr 5, fr 6, fr 7, fr 8, fr 9, fr 10, fr 11, ks 12], []⟩ wr
  simp only [KeptV, List.getD_cons_zero, List.getD_cons_succ] at hkept; obtain ⟨hk12, -⟩ := hkept
  generalize ks 12 = k12 at hk12 ⊢; subst hk12
  generalize fr 0 = s0 at hrel ⊢
  generalize fr 3 = s3 at hrel ⊢
  obtain ⟨he, i, q, c, hi, hs1, hs2, hq, hc, hr⟩ := hrel
  subst hs1; subst hs2
  rcases Nat.eq_zero_or_pos q with hz | hz
  · subst hz
    have hF : Hid (c = cntB s) := hide (by rw [hr.out.2, cntB_eq, cntTo_done hr.out.1.symm 10 hi])
    go_wp2_with fail
    go_ret
    exact ⟨by rw [hF.out]; rfl, he⟩
  · have hi9 : i < 10 := by
      rcases Nat.lt_or_ge i 10 with h | h
      · exact h
      · obtain rfl : i = 10 := by omega
        have := hr.out.1; rw [small_done hs] at this; omega
    have hr2 : Hid (q / 2 = s / 2 ^ (i + 1) ∧ c + q % 2 = cntTo s (i + 1)) := hide (by
      obtain ⟨h1, h2⟩ := hr.out
      refine ⟨?_, by rw [cntTo_succ, ← h2, ← h1]⟩
      rw [h1, Nat.pow_succ, Nat.div_div_eq_div_mul])
    have hc2 : c + q % 2 ≤ 10 := by rw [hr2.out.2]; exact Nat.le_trans (cntTo_le s (i + 1)) (by omega)
    clear hr
    go_wp2_with fail
    exact ⟨⟨(by (repeat (first | exact trivial | refine ⟨rfl, ?_⟩))), he, i + 1, q / 2, c + q % 2, by omega, by first | rfl | (simp; done) | go_num, by first | rfl | (simp; done) | go_num, by omega, hc2, hr2⟩, by simp [intOf] <;> omega⟩
/-- May a pebbling end here? -/
def goalB (n : Nat) (rev : Bool) (s : Nat) : Bool := if rev then decide (s = 2 ^ (n - 1)) else s.testBit (n - 1)
end Go.Proofs.Ytialpmmdomhobaa
