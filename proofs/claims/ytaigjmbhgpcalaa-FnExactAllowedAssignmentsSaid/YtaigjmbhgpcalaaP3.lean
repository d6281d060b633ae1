/-
  Steps of plane proofs copied and compared by the laws; no condition.
-/
import Derived.Test.YtaigjmbhgpcalaaP1

namespace Go.Proofs.Ytaigjmbhgpcalaa
set_option linter.unusedSimpArgs false
set_option linter.unusedVariables false
open Go.RowKit

end Go.Proofs.Ytaigjmbhgpcalaa

/-
  Equality of lists and of inequalities, in both texts; an earlier step; no condition.
-/
namespace Go.Proofs.Ytaigjmbhgpcalaa
set_option linter.unusedSimpArgs false
set_option linter.unusedVariables false
open Go.RowKit

theorem take_ne {xs ys : List Int} {i : Nat} {x y : Int} (hx : Hid (xs[i]? = some x)) (hy : Hid (ys[i]? = some y)) (hxy : x ≠ y) : decide (xs = ys) = false := by
  simp only [decide_eq_false_iff_not]
  rintro rfl
  have := hx.out
  rw [hy.out] at this
  injection this with this
  exact hxy this.symm
theorem len_ne {xs ys : List Int} (h : xs.length ≠ ys.length) : decide (xs = ys) = false := by
  simp only [decide_eq_false_iff_not]
  rintro rfl
  exact h rfl
set_option maxHeartbeats 800000 in
theorem l1Same_c (A : Option Addr) (n c : Nat) (xs : List Int) (B : Option Addr) (m d : Nat) (ys : List Int) (w : World) (h : Ints w A n xs) (k : Ints w B m ys) :
    Calls Try.prog 65 #[.slice A n c, .slice B m d] w fun e w' => e = .returned (.bool (decide (xs = ys))) ∧ Ext w w' := by
  have hbn := h.bound
  have hbm := k.bound
  by_cases hnm : n = m
  rotate_left
  · rw [len_ne (xs := xs) (ys := ys) (by rw [← h.len, ← k.len]; exact hnm)]
    have h1 : ((n : Int) != (m : Int)) = true := by simp; omega
    go_enter Try.func65, Try.ntmps65
    go_wp2_with fail
    go_ret
    exact ⟨rfl, by (repeat (first | with_reducible exact Ext.refl _ | with_reducible assumption | ((with_reducible refine Ext.setCell ?_ ?_ _); rotate_left; focus (first | omega | (simp <;> omega))) | with_reducible refine Ext.alloc ?_ _ | with_reducible refine Ext.drewN ?_ _ | with_reducible refine Ext.drew ?_ | with_reducible refine Ext.trans ?_ (by with_reducible assumption)))⟩
  subst hnm
  obtain ⟨r, hr⟩ : ∃ r, r = decide (xs = ys) := ⟨_, rfl⟩
  rw [← hr]
  have HR := hide hr
  clear hr
  have h1 : ((n : Int) != (n : Int)) = false := by simp
  go_enter Try.func65, Try.ntmps65
  go_wp2_with fail
  refine wp_loopF 26 _ rfl rfl [0, 1] rfl (fun fr wr => Ext w wr ∧ ∃ i : Nat, i ≤ n ∧ (fr 5) = .int .i64 i ∧ Hid (xs.take i = ys.take i)) (fun fr wr => n - (intOf (fr 5)).toNat) ?_ ?_
  · (exact ⟨Ext.refl _, 0, by omega, rfl, by simp [Hid]⟩)
  intro ks fr wr hkept hrel; (try dsimp only at hrel)
  change Code.wp _ _ _ ⟨#[ks 0, ks 1, fr 2, fr 3, fr 4, fr 5, fr 6, fr 7, fr 8, fr 9, fr 10, fr 11, fr 12, fr 13, fr 14, fr 15, fr 16, fr 17, fr 18, fr 19, fr 20, fr 21, fr 22, fr 23, fr 24, fr 25], []⟩ wr
  simp only [KeptV, List.getD_cons_zero, List.getD_cons_succ] at hkept; obtain ⟨hk0, hk1, -⟩ := hkept
  generalize ks 0 = k0 at hk0 ⊢; subst hk0
  generalize ks 1 = k1 at hk1 ⊢; subst hk1
  generalize fr 5 = s5 at hrel ⊢
  obtain ⟨he, i, hi, hs1, hq⟩ := hrel
  subst hs1
  by_cases hlt : i < n
  · obtain ⟨ad, x, rfl, hx, c0⟩ := (h.ext he).at_ hlt
    obtain ⟨ad2, y, rfl, hy, d0⟩ := (k.ext he).at_ hlt
    by_cases hxy : x = y
    · subst hxy
      have hq2 : Hid (xs.take (i + 1) = ys.take (i + 1)) := by unfold Hid; rw [take_succ_of hx, take_succ_of hy, hq.out]
      have HE := hide he
      clear hx hy hq he
      go_wp2_with fail
      go_quiet (fail)
      go_wp2_with fail
      exact ⟨⟨(by (repeat (first | exact trivial | refine ⟨rfl, ?_⟩))), HE.out.drewN _, i + 1, by omega, by go_num, hq2⟩, (by simp [intOf] <;> omega)⟩
    · have hF := HR.out.trans (take_ne hx hy hxy)
      have hF := hide hF
      have hxy' : (x != y) = true := by simpa using hxy
      have HE := hide he
      clear hx hy hq he hxy HR
      go_wp2_with fail
      go_quiet (fail)
      go_wp2_with fail
      go_ret
      exact ⟨ret_bool hF.out.symm, HE.out.drewN _⟩
  · obtain rfl : i = n := by omega
    have hT : Hid (r = true) := hide (by
      rw [HR.out]
      have := hq.out
      rw [List.take_of_length_le (by rw [h.len]; exact Nat.le_refl _), List.take_of_length_le (by rw [k.len]; exact Nat.le_refl _)] at this
      simpa using this)
    go_wp2_with fail
    go_ret
    exact ⟨ret_bool hT.out.symm, he⟩
/-- Are two inequalities the same? -/
def sameB (xs : List Int) (bd : Int) (ys : List Int) (be : Int) : Bool := decide (xs = ys) && decide (bd = be)
end Go.Proofs.Ytaigjmbhgpcalaa
