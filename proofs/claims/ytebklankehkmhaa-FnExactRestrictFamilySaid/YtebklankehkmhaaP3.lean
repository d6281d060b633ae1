/-
  Equality of lists and of inequalities, in both texts; an earlier step; no condition.
-/
import Derived.Test.YtebklankehkmhaaP2
namespace Go.Proofs.Ytebklankehkmhaa
set_option linter.unusedSimpArgs false
set_option linter.unusedVariables false
open Go.RowKit

theorem take_ne {xs ys : List Int} {i : Nat} {x y : Int} (hx : Hid (xs[i]? = some x)) (hy : Hid (ys[i]? = some y)) (hxy : x ≠ y) : decide (xs = ys) = false := by
  simp only [decide_eq_false_iff_not]
  rintro rfl
  have := hx.out
  rw [hy.out] at this
  injection this with this
  exact hxy this.symm
theorem len_ne {xs ys : List Int} (h : xs.length ≠ ys.length) : decide (xs = ys) = false := by
  simp only [decide_eq_false_iff_not]
  rintro rfl
  exact h rfl
set_option maxHeartbeats 800000 in
theorem l1Same_c (A : Option Addr) (n c : Nat) (xs : List Int) (B : Option Addr) (m d : Nat) (ys : List Int) (w : World) (h : Ints w A n xs) (k : Ints w B m ys) :
    Calls Try.prog 131 #[.slice A n c, .slice B m d] w fun e w' => e = .returned (.bool (decide (xs = ys))) ∧ Ext w w' := by
  have hbn := h.bound
  have hbm := k.bound
  by_cases hnm : n = m
  rotate_left
  · rw [len_ne (xs := xs) (ys := ys) (by rw [← h.len, ← k.len]; exact hnm)]
    have h1 : ((n : Int) != (m : Int)) = true := by simp; omega
    go_enter Try.func131, Try.ntmps131
    go_wp2_with fail
    go_ret
    exact ⟨rfl, by (repeat (first | with_reducible exact Ext.refl _ | with_reducible assumption | ((with_reducible refine Ext.setCell ?_ ?_ _); rotate_left; focus (first | omega | (simp <;> omega))) | with_reducible refine Ext.alloc ?_ _ | with_reducible refine Ext.drewN ?_ _ | with_reducible refine Ext.drew ?_ | with_reducible refine Ext.trans ?_ (by with_reducible assumption)))⟩
  subst hnm
  obtain ⟨r, hr⟩ : ∃ r, r = decide (xs = ys) := ⟨_, rfl⟩
  rw [← hr]
  have HR := hide hr
  clear hr
  have h1 : ((n : Int) != (n : Int)) = false := by simp
  go_enter Try.func131, Try.ntmps131
  go_wp2_with fail
  refine wp_loopF 26 _ rfl rfl [0, 1] rfl (fun fr wr => Ext w wr ∧ ∃ i : Nat, i ≤ n ∧ (fr 5) = .int .i64 i ∧ Hid (xs.take i = ys.take i)) (fun fr wr => n - (intOf (fr 5)).toNat) ?_ ?_
  · (exact ⟨Ext.refl _, 0, by omega, rfl, by simp [Hid]⟩)
  intro ks fr wr hkept hrel; (try dsimp only at hrel)
  change Code.wp _ _ _ ⟨#[ks 0, ks 1, fr 2, fr 3, fr 4, fr 5, fr 6, fr 7, fr 8, fr 9, fr 10, fr 11, fr 12, fr 13, fr 14, fr 15, fr 16, fr 17, fr 18, fr 19, fr 20, fr 21, fr 22, fr 23, fr 24, fr 25], []⟩ wr
  simp only [KeptV, List.getD_cons_zero, List.getD_cons_succ] at hkept; obtain ⟨hk0, hk1, -⟩ := hkept
  generalize ks 0 = k0 at hk0 ⊢; subst hk0
  generalize ks 1 = k1 at hk1 ⊢; subst hk1
  generalize fr 5 = s5 at hrel ⊢
  obtain ⟨he, i, hi, hs1, hq⟩ := hrel
  subst hs1
  by_cases hlt : i < n
  · obtain ⟨ad, x, rfl, hx, c0⟩ := (h.ext he).at_ hlt
    obtain ⟨ad2, y, rfl, hy, d0⟩ := (k.ext he).at_ hlt
    by_cases hxy : x = y
    · subst hxy
      have hq2 : Hid (xs.take (i + 1) = ys.take (i + 1)) := by unfold Hid; rw [take_succ_of hx, take_succ_of hy, hq.out]
      have HE := hide he
      clear hx hy hq he
      go_wp2_with fail
      go_quiet (fail)
      go_wp2_with fail
      exact ⟨⟨(by (repeat (first | exact trivial | refine ⟨rfl, ?_⟩))), HE.out.drewN _, i + 1, by omega, by go_num, hq2⟩, (by simp [intOf] <;> omega)⟩
    · have hF := HR.out.trans (take_ne hx hy hxy)
      have hF := hide hF
      have hxy' : (x != y) = true := by simpa using hxy
      have HE := hide he
      clear hx hy hq he hxy HR
      go_wp2_with fail
      go_quiet (fail)
      go_wp2_with fail
      go_ret
      exact ⟨ret_bool hF.out.symm, HE.out.drewN _⟩
  · obtain rfl : i = n := by omega
    have hT : Hid (r = true) := hide (by
      rw [HR.out]
      have := hq.out
      rw [List.take_of_length_le (by rw [h.len]; exact Nat.le_refl _), List.take_of_length_le (by rw [k.len]; exact Nat.le_refl _)] at this
      simpa using this)
    go_wp2_with fail
    go_ret
    exact ⟨ret_bool hT.out.symm, he⟩
set_option maxHeartbeats 800000 in
theorem Equal_c (A : Option Addr) (n c : Nat) (xs : List Int) (B : Option Addr) (m d : Nat) (ys : List Int) (w : World) (h : Ints w A n xs) (k : Ints w B m ys) :
    Calls Try.prog 166 #[.slice A n c, .slice B m d] w fun e w' => e = .returned (.bool (decide (xs = ys))) ∧ Ext w w' := by
  have hbn := h.bound
  have hbm := k.bound
  by_cases hnm : n = m
  rotate_left
  · rw [len_ne (xs := xs) (ys := ys) (by rw [← h.len, ← k.len]; exact hnm)]
    have h1 : ((n : Int) != (m : Int)) = true := by simp; omega
    go_enter Try.func166, Try.ntmps166
    go_wp2_with fail
    go_ret
    exact ⟨rfl, by (repeat (first | with_reducible exact Ext.refl _ | with_reducible assumption | ((with_reducible refine Ext.setCell ?_ ?_ _); rotate_left; focus (first | omega | (simp <;> omega))) | with_reducible refine Ext.alloc ?_ _ | with_reducible refine Ext.drewN ?_ _ | with_reducible refine Ext.drew ?_ | with_reducible refine Ext.trans ?_ (by with_reducible assumption)))⟩
  subst hnm
  obtain ⟨r, hr⟩ : ∃ r, r = decide (xs = ys) := ⟨_, rfl⟩
  rw [← hr]
  have HR := hide hr
  clear hr
  have h1 : ((n : Int) != (n : Int)) = false := by simp
  go_enter Try.func166, Try.ntmps166
  go_wp2_with fail
  refine wp_loopF 26 _ rfl rfl [0, 1, 12] rfl (fun fr wr => Ext w wr ∧ ∃ i : Nat, i ≤ n ∧ (fr 13) = .int .i64 i ∧ Hid (xs.take i = ys.take i)) (fun fr wr => n - (intOf (fr 13)).toNat) ?_ ?_
  · (exact ⟨Ext.refl _, 0, by omega, rfl, by simp [Hid]⟩)
  intro ks fr wr hkept hrel; (try dsimp only at hrel)
  change Code.wp _ _ _ ⟨#[ks 0, ks 1, fr 2, fr 3, fr 4, fr 5, fr 6, fr 7, fr 8, fr 9, fr 10, fr 11, ks 12, fr 13, fr 14, fr 15, fr 16, fr 17, fr 18, fr 19, fr 20, fr 21, fr 22, fr 23, fr 24, fr 25], []⟩ wr
  simp only [KeptV, List.getD_cons_zero, List.getD_cons_succ] at hkept; obtain ⟨hk0, hk1, hk12, -⟩ := hkept
  generalize ks 0 = k0 at hk0 ⊢; subst hk0
  generalize ks 1 = k1 at hk1 ⊢; subst hk1
  generalize ks 12 = k12 at hk12 ⊢; subst hk12
  generalize fr 13 = s13 at hrel ⊢
  obtain ⟨he, i, hi, hs1, hq⟩ := hrel
  subst hs1
  by_cases hlt : i < n
  · obtain ⟨ad, x, rfl, hx, c0⟩ := (h.ext he).at_ hlt
    obtain ⟨ad2, y, rfl, hy, d0⟩ := (k.ext he).at_ hlt
    by_cases hxy : x = y
    · subst hxy
      have hq2 : Hid (xs.take (i + 1) = ys.take (i + 1)) := by unfold Hid; rw [take_succ_of hx, take_succ_of hy, hq.out]
      have HE := hide he
      clear hx hy hq he
      go_wp2_with fail
      go_quiet (fail)
      go_wp2_with fail
      exact ⟨⟨(by (repeat (first | exact trivial | refine ⟨rfl, ?_⟩))), HE.out.drewN _, i + 1, by omega, by go_num, hq2⟩, (by simp [intOf] <;> omega)⟩
    · have hF := HR.out.trans (take_ne hx hy hxy)
      have hF := hide hF
      have hxy' : (x != y) = true := by simpa using hxy
      have HE := hide he
      clear hx hy hq he hxy HR
      go_wp2_with fail
      go_quiet (fail)
      go_wp2_with fail
      go_ret
      exact ⟨ret_bool hF.out.symm, HE.out.drewN _⟩
  · obtain rfl : i = n := by omega
    have hT : Hid (r = true) := hide (by
      rw [HR.out]
      have := hq.out
      rw [List.take_of_length_le (by rw [h.len]; exact Nat.le_refl _), List.take_of_length_le (by rw [k.len]; exact Nat.le_refl _)] at this
      simpa using this)
    go_wp2_with fail
    go_ret
    exact ⟨ret_bool hT.out.symm, he⟩
/-- Are two inequalities the same? -/
def sameB (xs : List Int) (bd : Int) (ys : List Int) (be : Int) : Bool := decide (xs = ys) && decide (bd = be)
theorem samePlane_c (A : Option Addr) (n c : Nat) (bd : Int) (xs : List Int) (B : Option Addr) (m d : Nat) (be : Int) (ys : List Int) (w : World) (h : Ints w A n xs) (k : Ints w B m ys) :
    Calls Try.prog 130 #[.agg #[.slice A n c, .int .i64 bd], .agg #[.slice B m d, .int .i64 be]] w fun e w' => e = .returned (.bool (sameB xs bd ys be)) ∧ Ext w w' := by
  by_cases hb : bd = be
  · subst hb
    rw [show sameB xs bd ys bd = decide (xs = ys) by simp [sameB]]
    have HC := hide (fun W (E : Ext w W) => Equal_c A n c xs B m d ys W (h.ext E) (k.ext E))
    generalize decide (xs = ys) = r at HC ⊢
    go_enter Try.func130, Try.ntmps130
    go_wp2_with (go_at_call 166; (with_reducible refine (HC.out _ (by (repeat (first | with_reducible exact Ext.refl _ | with_reducible assumption | ((with_reducible refine Ext.setCell ?_ ?_ _); rotate_left; focus (first | omega | (simp <;> omega))) | with_reducible refine Ext.alloc ?_ _ | with_reducible refine Ext.drewN ?_ _ | with_reducible refine Ext.drew ?_ | with_reducible refine Ext.trans ?_ (by with_reducible assumption))))).mono ?_); rintro e w1 ⟨rfl, he1⟩)
    go_ret
    exact ⟨rfl, by (repeat (first | with_reducible exact Ext.refl _ | with_reducible assumption | ((with_reducible refine Ext.setCell ?_ ?_ _); rotate_left; focus (first | omega | (simp <;> omega))) | with_reducible refine Ext.alloc ?_ _ | with_reducible refine Ext.drewN ?_ _ | with_reducible refine Ext.drew ?_ | with_reducible refine Ext.trans ?_ (by with_reducible assumption)))⟩
  · rw [show sameB xs bd ys be = false by simp [sameB, hb]]
    have hb' : (bd == be) = false := by simpa using hb
    go_enter Try.func130, Try.ntmps130
    go_wp2_with fail
    go_ret
    exact ⟨rfl, by (repeat (first | with_reducible exact Ext.refl _ | with_reducible assumption | ((with_reducible refine Ext.setCell ?_ ?_ _); rotate_left; focus (first | omega | (simp <;> omega))) | with_reducible refine Ext.alloc ?_ _ | with_reducible refine Ext.drewN ?_ _ | with_reducible refine Ext.drew ?_ | with_reducible refine Ext.trans ?_ (by with_reducible assumption)))⟩
theorem l16Same_c (A : Option Addr) (n c : Nat) (bd : Int) (xs : List Int) (B : Option Addr) (m d : Nat) (be : Int) (ys : List Int) (w : World) (h : Ints w A n xs) (k : Ints w B m ys) :
    Calls Try.prog 124 #[.agg #[.slice A n c, .int .i64 bd], .agg #[.slice B m d, .int .i64 be]] w fun e w' => e = .returned (.bool (sameB xs bd ys be)) ∧ Ext w w' := by
  have HC := hide (fun W (E : Ext w W) => l1Same_c A n c xs B m d ys W (h.ext E) (k.ext E))
  unfold sameB
  generalize decide (xs = ys) = r at HC ⊢
  by_cases hb : bd = be
  · subst hb
    cases r <;> simp only [Bool.false_and, Bool.true_and, decide_true]
    all_goals
      go_enter Try.func124, Try.ntmps124
      go_wp2_with (go_at_call 131; (with_reducible refine (HC.out _ (by (repeat (first | with_reducible exact Ext.refl _ | with_reducible assumption | ((with_reducible refine Ext.setCell ?_ ?_ _); rotate_left; focus (first | omega | (simp <;> omega))) | with_reducible refine Ext.alloc ?_ _ | with_reducible refine Ext.drewN ?_ _ | with_reducible refine Ext.drew ?_ | with_reducible refine Ext.trans ?_ (by with_reducible assumption))))).mono ?_); rintro e w1 ⟨rfl, he1⟩; have bc0 := he1.cell (p := ⟨w.heap.size, 0, none⟩) (u := .slice A n c) (by first | simp [go_sem] | simp [go_sem, *]); have bf0 := he1.frozen (p := ⟨w.heap.size, 0, none⟩) (by first | omega | (simp <;> omega)) (by first | simp [go_sem] | simp [go_sem, *]); have bc1 := he1.cell (p := ⟨w.heap.size, 1, none⟩) (u := .int .i64 bd) (by first | simp [go_sem] | simp [go_sem, *]); have bf1 := he1.frozen (p := ⟨w.heap.size, 1, none⟩) (by first | omega | (simp <;> omega)) (by first | simp [go_sem] | simp [go_sem, *]); have bc2 := he1.cell (p := ⟨w.heap.size + 1, 0, none⟩) (u := .slice B m d) (by first | simp [go_sem] | simp [go_sem, *]); have bf2 := he1.frozen (p := ⟨w.heap.size + 1, 0, none⟩) (by first | omega | (simp <;> omega)) (by first | simp [go_sem] | simp [go_sem, *]); have bc3 := he1.cell (p := ⟨w.heap.size + 1, 1, none⟩) (u := .int .i64 bd) (by first | simp [go_sem] | simp [go_sem, *]); have bf3 := he1.frozen (p := ⟨w.heap.size + 1, 1, none⟩) (by first | omega | (simp <;> omega)) (by first | simp [go_sem] | simp [go_sem, *]))
      go_ret
      exact ⟨rfl, by (repeat (first | with_reducible exact Ext.refl _ | with_reducible assumption | ((with_reducible refine Ext.setCell ?_ ?_ _); rotate_left; focus (first | omega | (simp <;> omega))) | with_reducible refine Ext.alloc ?_ _ | with_reducible refine Ext.drewN ?_ _ | with_reducible refine Ext.drew ?_ | with_reducible refine Ext.trans ?_ (by with_reducible assumption)))⟩
  · have hb' : (bd == be) = false := by simpa using hb
    have hd : decide (bd = be) = false := by simpa using hb
    rw [hd]
    cases r <;> simp only [Bool.false_and, Bool.and_false]
    all_goals
      go_enter Try.func124, Try.ntmps124
      go_wp2_with (go_at_call 131; (with_reducible refine (HC.out _ (by (repeat (first | with_reducible exact Ext.refl _ | with_reducible assumption | ((with_reducible refine Ext.setCell ?_ ?_ _); rotate_left; focus (first | omega | (simp <;> omega))) | with_reducible refine Ext.alloc ?_ _ | with_reducible refine Ext.drewN ?_ _ | with_reducible refine Ext.drew ?_ | with_reducible refine Ext.trans ?_ (by with_reducible assumption))))).mono ?_); rintro e w1 ⟨rfl, he1⟩; have bc4 := he1.cell (p := ⟨w.heap.size, 0, none⟩) (u := .slice A n c) (by first | simp [go_sem] | simp [go_sem, *]); have bf4 := he1.frozen (p := ⟨w.heap.size, 0, none⟩) (by first | omega | (simp <;> omega)) (by first | simp [go_sem] | simp [go_sem, *]); have bc5 := he1.cell (p := ⟨w.heap.size, 1, none⟩) (u := .int .i64 bd) (by first | simp [go_sem] | simp [go_sem, *]); have bf5 := he1.frozen (p := ⟨w.heap.size, 1, none⟩) (by first | omega | (simp <;> omega)) (by first | simp [go_sem] | simp [go_sem, *]); have bc6 := he1.cell (p := ⟨w.heap.size + 1, 0, none⟩) (u := .slice B m d) (by first | simp [go_sem] | simp [go_sem, *]); have bf6 := he1.frozen (p := ⟨w.heap.size + 1, 0, none⟩) (by first | omega | (simp <;> omega)) (by first | simp [go_sem] | simp [go_sem, *]); have bc7 := he1.cell (p := ⟨w.heap.size + 1, 1, none⟩) (u := .int .i64 be) (by first | simp [go_sem] | simp [go_sem, *]); have bf7 := he1.frozen (p := ⟨w.heap.size + 1, 1, none⟩) (by first | omega | (simp <;> omega)) (by first | simp [go_sem] | simp [go_sem, *]))
      go_ret
      exact ⟨rfl, by (repeat (first | with_reducible exact Ext.refl _ | with_reducible assumption | ((with_reducible refine Ext.setCell ?_ ?_ _); rotate_left; focus (first | omega | (simp <;> omega))) | with_reducible refine Ext.alloc ?_ _ | with_reducible refine Ext.drewN ?_ _ | with_reducible refine Ext.drew ?_ | with_reducible refine Ext.trans ?_ (by with_reducible assumption)))⟩
end Go.Proofs.Ytebklankehkmhaa
