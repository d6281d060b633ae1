/-
  Folding: equality of gates; where a gate stands; both texts' keep; no condition.
-/
import Derived.Test.YtcbjaomjamfjcaaK17
namespace Go.Proofs.Ytcbjaomjamfjcaa
set_option linter.unusedSimpArgs false
set_option linter.unusedVariables false
open Go.RowKit

theorem gate_eq_run (x y : Gt) (W : World) : (binOp .eql 86 (gv x) (gv y)).run Try.prog W = .ok (.bool (x == y)) W := by
  obtain ⟨a, b, c⟩ := x
  obtain ⟨d, e, f⟩ := y
  rw [run_eql_struct]
  rw [run_equalIn_agg _ _ _ _ _ (by kernel_rfl) (by kernel_rfl)]
  simp [go_sem, *]
  by_cases h1 : a = d <;> by_cases h2 : b = e <;> by_cases h3 : c = f <;> simp [h1, h2, h3]
set_option maxHeartbeats 1600000 in
theorem Index_gate_c (A : Option Addr) (n c : Nat) (x y z : Int) (gs : List Gt) (w : World) (h : Gates w A n gs) :
    Calls Try.prog 168 #[.slice A n c, .agg #[.int .i64 x, .int .i64 y, .int .i64 z]] w fun e w' => e = .returned (.int .i64 (idxOf (· == (x, y, z)) gs 0)) ∧ Ext w w' := by
  have hbd := h.bound
  have HL := hide h.len
  have HB := hide (BoxAt.made w #[.int .i64 x, .int .i64 y, .int .i64 z] 86)
  go_enter Try.func168, Try.ntmps168
  go_wp2_with fail
  refine wp_loopF 19 _ rfl rfl [0, 3, 7] rfl (fun fr wr => Ext w wr ∧ BoxAt wr w.heap.size 86 #[.int .i64 x, .int .i64 y, .int .i64 z] ∧ ∃ i : Nat, i ≤ n ∧ (fr 8) = .int .i64 (i : Int) ∧ Hid (idxOf (· == (x, y, z)) (gs.drop i) i = idxOf (· == (x, y, z)) gs 0)) (fun fr wr => n - (intOf (fr 8)).toNat) ?_ ?_
  · (exact ⟨by (repeat (first | with_reducible exact Ext.refl _ | with_reducible assumption | ((with_reducible refine Ext.setCell ?_ ?_ _); rotate_left; focus (first | omega | (simp <;> omega))) | with_reducible refine Ext.alloc ?_ _ | with_reducible refine Ext.drewN ?_ _ | with_reducible refine Ext.drew ?_ | with_reducible refine Ext.trans ?_ (by with_reducible assumption))), HB.out, 0, Nat.zero_le _, rfl, rfl⟩)
  intro ks fr wr hkept hrel; (try dsimp only at hrel)
  change Code.wp _ _ _ ⟨#[ks 0, fr 1, fr 2, ks 3, fr 4, fr 5, fr 6, ks 7, fr 8, fr 9, fr 10, fr 11, fr 12, fr 13, fr 14, fr 15, fr 16, fr 17, fr 18], []⟩ wr
  simp only [KeptV, List.getD_cons_zero, List.getD_cons_succ] at hkept; obtain ⟨hk0, hk3, hk7, -⟩ := hkept
  generalize ks 0 = k0 at hk0 ⊢; subst hk0
  generalize ks 3 = k3 at hk3 ⊢; subst hk3
  generalize ks 7 = k7 at hk7 ⊢; subst hk7
  generalize fr 8 = s8 at hrel ⊢
  clear HB
  obtain ⟨he, hb, i, hi, hs1, hq⟩ := hrel
  subst hs1
  by_cases hlt : i < n
  · obtain ⟨g, k, a, b, rfl, hx, c0, c1, c2⟩ := (h.ext he).at_ hlt
    have d0 := hb.cell 0 _ rfl
    have d1 := hb.cell 1 _ rfl
    have d2 := hb.cell 2 _ rfl
    have hd := hide (idxOf_drop (p := (· == (x, y, z))) hx.out)
    have HE := hide he
    have HBx := hide hb
    by_cases hxy : (k, a, b) = (x, y, z)
    · obtain ⟨rfl, rfl, rfl⟩ : k = x ∧ a = y ∧ b = z := by simpa using hxy
      have hq' : Hid (idxOf (· == (k, a, b)) gs 0 = (i : Int)) := hide (by rw [← hq.out, hd.out]; simp)
      clear hd hq hx hxy he hb
      go_wp2_with fail
      go_quiet (fail)
      go_wp2_with fail
      go_ret
      exact ⟨ret_int hq'.out.symm, HE.out.drewN _⟩
    · have hq' : Hid (idxOf (· == (x, y, z)) (gs.drop (i + 1)) (i + 1) = idxOf (· == (x, y, z)) gs 0) := hide (by rw [← hq.out, hd.out]; simp [hxy])
      have HR : ∀ W, (binOp .eql 86 (.agg #[.int .i64 x, .int .i64 y, .int .i64 z]) (.agg #[.int .i64 k, .int .i64 a, .int .i64 b])).run Try.prog W = .ok (.bool false) W := fun W => by
        have h1 := gate_eq_run (x, y, z) (k, a, b) W
        rwa [show ((x, y, z) == (k, a, b)) = false from by rw [beq_eq_false_iff_ne]; exact fun hh => hxy hh.symm] at h1
      clear hd hq hx hxy he hb
      go_wp2_with fail
      go_quiet (fail)
      go_wp2_with fail
      exact ⟨⟨(by (repeat (first | exact trivial | refine ⟨rfl, ?_⟩))), HE.out.drewN _, HBx.out.ext ((Ext.refl _).drewN _), i + 1, by omega, by go_num, hq'⟩, (by simp [intOf] <;> omega)⟩
  · obtain rfl : i = n := by omega
    have hq' : Hid (idxOf (· == (x, y, z)) gs 0 = -1) := hide (by rw [← hq.out, List.drop_eq_nil_of_le (by rw [HL.out]; exact Nat.le_refl _)]; rfl)
    clear hq hb
    go_wp2_with fail
    go_ret
    exact ⟨ret_int hq'.out.symm, by (repeat (first | with_reducible exact Ext.refl _ | with_reducible assumption | ((with_reducible refine Ext.setCell ?_ ?_ _); rotate_left; focus (first | omega | (simp <;> omega))) | with_reducible refine Ext.alloc ?_ _ | with_reducible refine Ext.drewN ?_ _ | with_reducible refine Ext.drew ?_ | with_reducible refine Ext.trans ?_ (by with_reducible assumption)))⟩
set_option maxHeartbeats 1600000 in
theorem l6Same_c (A : Option Addr) (n c : Nat) (kd a b zero unit : Int) (gs : List Gt) (w : World) (h : Gates w A n gs) (ha : 0 ≤ a ∧ a < gs.length) (hb : 0 ≤ b ∧ b < gs.length) :
    Calls Try.prog 132 #[.slice A n c, .agg #[.int .i64 kd, .int .i64 a, .int .i64 b], .int .i64 zero, .int .i64 unit] w fun e w' => e = .returned (.int .i64 (sameG gs a b zero unit)) ∧ Ext w w' := by
  have hbd := h.bound
  have hl := h.len
  obtain ⟨i, rfl⟩ := int_nat ha.1
  obtain ⟨j, rfl⟩ := int_nat hb.1
  obtain ⟨g, k1, a1, b1, rfl, hx, c0, -, -⟩ := h.at_ (i := i) (by omega)
  obtain ⟨g', k2, a2, b2, hg', hy, d0, -, -⟩ := h.at_ (i := j) (by omega)
  obtain rfl : g = g' := by simpa using hg'
  have c0' := fun o => ((Ext.refl w).alloc o).cell c0
  have d0' := fun o => ((Ext.refl w).alloc o).cell d0
  have hu : sameG gs (i : Int) (j : Int) zero unit = if k1 = zero then (i : Int) else if k2 = zero then (j : Int) else if k1 = unit ∨ (i : Int) = j then (j : Int) else if k2 = unit then (i : Int) else -1 := by
    unfold sameG
    simp only [Int.toNat_natCast, List.getD_eq_getElem?_getD, hx.out, hy.out, Option.getD_some]
  rw [hu]
  have hi : i < n := by omega
  have hj : j < n := by omega
  clear hu hx hy ha hb hl c0 d0 h hg'
  by_cases h1 : k1 = zero
  · subst h1
    simp only [if_true]
    go_enter Try.func132, Try.ntmps132
    go_wp2_with fail
    go_ret
    exact ⟨rfl, by (repeat (first | with_reducible exact Ext.refl _ | with_reducible assumption | ((with_reducible refine Ext.setCell ?_ ?_ _); rotate_left; focus (first | omega | (simp <;> omega))) | with_reducible refine Ext.alloc ?_ _ | with_reducible refine Ext.drewN ?_ _ | with_reducible refine Ext.drew ?_ | with_reducible refine Ext.trans ?_ (by with_reducible assumption)))⟩
  rw [if_neg h1]
  have h1' : (k1 == zero) = false := by simpa using h1
  by_cases h2 : k2 = zero
  · subst h2
    simp only [if_true]
    go_enter Try.func132, Try.ntmps132
    go_wp2_with fail
    go_ret
    exact ⟨rfl, by (repeat (first | with_reducible exact Ext.refl _ | with_reducible assumption | ((with_reducible refine Ext.setCell ?_ ?_ _); rotate_left; focus (first | omega | (simp <;> omega))) | with_reducible refine Ext.alloc ?_ _ | with_reducible refine Ext.drewN ?_ _ | with_reducible refine Ext.drew ?_ | with_reducible refine Ext.trans ?_ (by with_reducible assumption)))⟩
  rw [if_neg h2]
  have h2' : (k2 == zero) = false := by simpa using h2
  by_cases h3 : k1 = unit
  · subst h3
    simp only [true_or, if_true]
    go_enter Try.func132, Try.ntmps132
    go_wp2_with fail
    go_ret
    exact ⟨rfl, by (repeat (first | with_reducible exact Ext.refl _ | with_reducible assumption | ((with_reducible refine Ext.setCell ?_ ?_ _); rotate_left; focus (first | omega | (simp <;> omega))) | with_reducible refine Ext.alloc ?_ _ | with_reducible refine Ext.drewN ?_ _ | with_reducible refine Ext.drew ?_ | with_reducible refine Ext.trans ?_ (by with_reducible assumption)))⟩
  have h3' : (k1 == unit) = false := by simpa using h3
  by_cases h4 : i = j
  · subst h4
    simp only [or_true, if_true]
    go_enter Try.func132, Try.ntmps132
    go_wp2_with fail
    go_ret
    exact ⟨rfl, by (repeat (first | with_reducible exact Ext.refl _ | with_reducible assumption | ((with_reducible refine Ext.setCell ?_ ?_ _); rotate_left; focus (first | omega | (simp <;> omega))) | with_reducible refine Ext.alloc ?_ _ | with_reducible refine Ext.drewN ?_ _ | with_reducible refine Ext.drew ?_ | with_reducible refine Ext.trans ?_ (by with_reducible assumption)))⟩
  have h4' : ((i : Int) == (j : Int)) = false := by simp; omega
  rw [if_neg (by rintro (hh | hh); exact h3 hh; omega)]
  by_cases h5 : k2 = unit
  · subst h5
    simp only [if_true]
    go_enter Try.func132, Try.ntmps132
    go_wp2_with fail
    go_ret
    exact ⟨rfl, by (repeat (first | with_reducible exact Ext.refl _ | with_reducible assumption | ((with_reducible refine Ext.setCell ?_ ?_ _); rotate_left; focus (first | omega | (simp <;> omega))) | with_reducible refine Ext.alloc ?_ _ | with_reducible refine Ext.drewN ?_ _ | with_reducible refine Ext.drew ?_ | with_reducible refine Ext.trans ?_ (by with_reducible assumption)))⟩
  have h5' : (k2 == unit) = false := by simpa using h5
  rw [if_neg h5]
  go_enter Try.func132, Try.ntmps132
  go_wp2_with fail
  go_ret
  exact ⟨rfl, by (repeat (first | with_reducible exact Ext.refl _ | with_reducible assumption | ((with_reducible refine Ext.setCell ?_ ?_ _); rotate_left; focus (first | omega | (simp <;> omega))) | with_reducible refine Ext.alloc ?_ _ | with_reducible refine Ext.drewN ?_ _ | with_reducible refine Ext.drew ?_ | with_reducible refine Ext.trans ?_ (by with_reducible assumption)))⟩
end Go.Proofs.Ytcbjaomjamfjcaa
