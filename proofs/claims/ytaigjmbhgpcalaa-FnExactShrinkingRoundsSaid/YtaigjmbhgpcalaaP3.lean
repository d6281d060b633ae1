/-
  Steps of plane proofs in memory, and the laws' helpers over them; no condition.
-/
import Derived.Test.YtaigjmbhgpcalaaC14
import Derived.Test.YtaigjmbhgpcalaaC10
import Derived.Test.YtaigjmbhgpcalaaP0

namespace Go.Proofs.Ytaigjmbhgpcalaa
set_option linter.unusedSimpArgs false
set_option linter.unusedVariables false
open Go.RowKit

theorem addr_addP (a : Addr) (i j : Nat) : (a.add i).add j = a.add (i + j) := by
  unfold Addr.add
  by_cases hi : i = 0
  · subst hi; simp
  · by_cases hj : j = 0
    · subst hj; simp [hi]
    · have : ¬ (i + j = 0) := by omega
      simp [hi, hj, this]; omega
/-- The six cells of a step, from a place on. -/
def StepAt (w : World) (at_ : Nat → Addr) (s : Ps) : Prop :=
  ∃ B c, w.cell? (at_ 0) = some (.slice B s.1.length c) ∧ Ints w B s.1.length s.1 ∧ w.cell? (at_ 1) = some (.int .i64 s.2.1) ∧ w.cell? (at_ 2) = some (.int .i64 s.2.2.1) ∧ w.cell? (at_ 3) = some (.int .i64 s.2.2.2.1) ∧
    w.cell? (at_ 4) = some (.int .i64 s.2.2.2.2.1) ∧ w.cell? (at_ 5) = some (.int .i64 s.2.2.2.2.2)
theorem StepAt.ext {w w' : World} {at_ : Nat → Addr} {s : Ps} (h : StepAt w at_ s) (he : Ext w w') : StepAt w' at_ s :=
  let ⟨B, c, h0, hi, h1, h2, h3, h4, h5⟩ := h
  ⟨B, c, he.cell h0, hi.ext he, he.cell h1, he.cell h2, he.cell h3, he.cell h4, he.cell h5⟩
/-- A slice that reads as these steps. -/
structure Steps (w : World) (A : Option Addr) (n : Nat) (ss : List Ps) : Prop where
  len : n = ss.length
  bound : n ≤ 1099511627776
  reads : 0 < n → ∃ g, A = some ⟨g, 0, none⟩ ∧ ∀ i s, ss[i]? = some s → StepAt w (fun j => ⟨g, i * 6 + j, none⟩) s
theorem Steps.ext {w w' : World} {A : Option Addr} {n : Nat} {ss : List Ps} (h : Steps w A n ss) (he : Ext w w') : Steps w' A n ss :=
  ⟨h.len, h.bound, fun hn => let ⟨g, e, hc⟩ := h.reads hn; ⟨g, e, fun i s hs => (hc i s hs).ext he⟩⟩
/-- The same at whatever address. -/
structure StepsA (w : World) (A : Option Addr) (n : Nat) (ss : List Ps) : Prop where
  len : n = ss.length
  bound : n ≤ 9223372036854775807
  reads : 0 < n → ∃ ad, A = some ad ∧ ∀ i s, ss[i]? = some s → StepAt w (fun j => ad.add (i * 6 + j)) s
theorem StepsA.ext {w w' : World} {A : Option Addr} {n : Nat} {ss : List Ps} (h : StepsA w A n ss) (he : Ext w w') : StepsA w' A n ss :=
  ⟨h.len, h.bound, fun hn => let ⟨g, e, hc⟩ := h.reads hn; ⟨g, e, fun i s hs => (hc i s hs).ext he⟩⟩
theorem Steps.at_ {w : World} {A : Option Addr} {n : Nat} {ss : List Ps} (h : Steps w A n ss) {i : Nat} (hi : i < n) :
    ∃ g xs m B c bd kd a b q, A = some ⟨g, 0, none⟩ ∧ Hid (ss[i]? = some (xs, bd, kd, a, b, q)) ∧ w.cell? ⟨g, i * 6, none⟩ = some (.slice B m c) ∧ Ints w B m xs ∧ w.cell? ⟨g, i * 6 + 1, none⟩ = some (.int .i64 bd) ∧ w.cell? ⟨g, i * 6 + 2, none⟩ = some (.int .i64 kd) ∧
      w.cell? ⟨g, i * 6 + 3, none⟩ = some (.int .i64 a) ∧ w.cell? ⟨g, i * 6 + 4, none⟩ = some (.int .i64 b) ∧ w.cell? ⟨g, i * 6 + 5, none⟩ = some (.int .i64 q) := by
  obtain ⟨g, e, hc⟩ := h.reads (by omega)
  have hx : ss[i]? = some (ss[i]'(by have := h.len; omega)) := List.getElem?_eq_getElem _
  obtain ⟨B, c, h0, hin, h1, h2, h3, h4, h5⟩ := hc i _ hx
  generalize ss[i]'(by have := h.len; omega) = s at *
  obtain ⟨xs, bd, kd, a, b, q⟩ := s
  exact ⟨g, xs, _, B, c, bd, kd, a, b, q, e, hx, h0, hin, h1, h2, h3, h4, h5⟩
theorem StepsA.at_ {w : World} {A : Option Addr} {n : Nat} {ss : List Ps} (h : StepsA w A n ss) {i : Nat} (hi : i < n) :
    ∃ ad xs m B c bd kd a b q, A = some ad ∧ Hid (ss[i]? = some (xs, bd, kd, a, b, q)) ∧ w.cell? (ad.add (i * 6)) = some (.slice B m c) ∧ Ints w B m xs ∧ w.cell? ⟨(ad.add (i * 6)).block, (ad.add (i * 6)).off + 1, none⟩ = some (.int .i64 bd) ∧ w.cell? ⟨(ad.add (i * 6)).block, (ad.add (i * 6)).off + 2, none⟩ = some (.int .i64 kd) ∧
      w.cell? ⟨(ad.add (i * 6)).block, (ad.add (i * 6)).off + 3, none⟩ = some (.int .i64 a) ∧ w.cell? ⟨(ad.add (i * 6)).block, (ad.add (i * 6)).off + 4, none⟩ = some (.int .i64 b) ∧ w.cell? ⟨(ad.add (i * 6)).block, (ad.add (i * 6)).off + 5, none⟩ = some (.int .i64 q) := by
  obtain ⟨g, e, hc⟩ := h.reads (by omega)
  have hx : ss[i]? = some (ss[i]'(by have := h.len; omega)) := List.getElem?_eq_getElem _
  obtain ⟨B, c, h0, hin, h1, h2, h3, h4, h5⟩ := hc i _ hx
  generalize ss[i]'(by have := h.len; omega) = s at *
  obtain ⟨xs, bd, kd, a, b, q⟩ := s
  refine ⟨g, xs, _, B, c, bd, kd, a, b, q, e, hx, h0, hin, ?_, ?_, ?_, ?_, ?_⟩
  · show w.cell? ((g.add (i * 6)).add 1) = _; rw [addr_addP]; exact h1
  · show w.cell? ((g.add (i * 6)).add 2) = _; rw [addr_addP]; exact h2
  · show w.cell? ((g.add (i * 6)).add 3) = _; rw [addr_addP]; exact h3
  · show w.cell? ((g.add (i * 6)).add 4) = _; rw [addr_addP]; exact h4
  · show w.cell? ((g.add (i * 6)).add 5) = _; rw [addr_addP]; exact h5
theorem Steps.toA {w : World} {A : Option Addr} {n : Nat} {ss : List Ps} (h : Steps w A n ss) : StepsA w A n ss :=
  ⟨h.len, by have := h.bound; omega, fun hn => by
    obtain ⟨g, e, hc⟩ := h.reads hn
    refine ⟨⟨g, 0, none⟩, e, fun i s hs => ?_⟩
    have := hc i s hs
    have hadd : ∀ j, (⟨g, 0, none⟩ : Addr).add j = ⟨g, j, none⟩ := fun j => by unfold Addr.add; split <;> simp_all
    simp only [hadd]
    exact this⟩
abbrev psV (A : Option Addr) (n c : Nat) (bd kd a b q : Int) : Value := .agg #[.slice A n c, .int .i64 bd, .int .i64 kd, .int .i64 a, .int .i64 b, .int .i64 q]
theorem coeffs_get {ss : List Ps} {i : Nat} {xs : List Int} {bd kd a b q : Int} (h : Hid (ss[i]? = some (xs, bd, kd, a, b, q))) : Hid ((ss.map (·.1))[i]? = some xs) := by
  unfold Hid; rw [List.getElem?_map, h.out]; rfl
theorem BoxAt.set6 {w : World} {b : Nat} {t : TypeId} {z0 z1 z2 z3 z4 z5 x0 x1 x2 x3 x4 x5 : Value} (h : BoxAt w b t #[z0, z1, z2, z3, z4, z5]) :
    BoxAt ((((((w.setCell ⟨b, 0, none⟩ x0).setCell ⟨b, 1, none⟩ x1).setCell ⟨b, 2, none⟩ x2).setCell ⟨b, 3, none⟩ x3).setCell ⟨b, 4, none⟩ x4).setCell ⟨b, 5, none⟩ x5) b t #[x0, x1, x2, x3, x4, x5] := (((((h.set 0 x0).set 1 x1).set 2 x2).set 3 x3).set 4 x4).set 5 x5
end Go.Proofs.Ytaigjmbhgpcalaa

/-
  Steps of plane proofs copied and compared by the laws; no condition.
-/
namespace Go.Proofs.Ytaigjmbhgpcalaa
set_option linter.unusedSimpArgs false
set_option linter.unusedVariables false
open Go.RowKit

end Go.Proofs.Ytaigjmbhgpcalaa

/-
  Equality of lists and of inequalities, in both texts; an earlier step; no condition.
-/
namespace Go.Proofs.Ytaigjmbhgpcalaa
set_option linter.unusedSimpArgs false
set_option linter.unusedVariables false
open Go.RowKit

theorem take_ne {xs ys : List Int} {i : Nat} {x y : Int} (hx : Hid (xs[i]? = some x)) (hy : Hid (ys[i]? = some y)) (hxy : x ≠ y) : decide (xs = ys) = false := by
  simp only [decide_eq_false_iff_not]
  rintro rfl
  have := hx.out
  rw [hy.out] at this
  injection this with this
  exact hxy this.symm
theorem len_ne {xs ys : List Int} (h : xs.length ≠ ys.length) : decide (xs = ys) = false := by
  simp only [decide_eq_false_iff_not]
  rintro rfl
  exact h rfl
set_option maxHeartbeats 800000 in
theorem l1Same_c (A : Option Addr) (n c : Nat) (xs : List Int) (B : Option Addr) (m d : Nat) (ys : List Int) (w : World) (h : Ints w A n xs) (k : Ints w B m ys) :
    Calls Try.prog 65 #[.slice A n c, .slice B m d] w fun e w' => e = .returned (.bool (decide (xs = ys))) ∧ Ext w w' := by
  have hbn := h.bound
  have hbm := k.bound
  by_cases hnm : n = m
  rotate_left
  · rw [len_ne (xs := xs) (ys := ys) (by rw [← h.len, ← k.len]; exact hnm)]
    have h1 : ((n : Int) != (m : Int)) = true := by simp; omega
    go_enter Try.func65, Try.ntmps65
    go_wp2_with fail
    go_ret
    exact ⟨rfl, by (repeat (first | with_reducible exact Ext.refl _ | with_reducible assumption | ((with_reducible refine Ext.setCell ?_ ?_ _); rotate_left; focus (first | omega | (simp <;> omega))) | with_reducible refine Ext.alloc ?_ _ | with_reducible refine Ext.drewN ?_ _ | with_reducible refine Ext.drew ?_ | with_reducible refine Ext.trans ?_ (by with_reducible assumption)))⟩
  subst hnm
  obtain ⟨r, hr⟩ : ∃ r, r = decide (xs = ys) := ⟨_, rfl⟩
  rw [← hr]
  have HR := hide hr
  clear hr
  have h1 : ((n : Int) != (n : Int)) = false := by simp
  go_enter Try.func65, Try.ntmps65
  go_wp2_with fail
  refine wp_loopF 26 _ rfl rfl [0, 1] rfl (fun fr wr => Ext w wr ∧ ∃ i : Nat, i ≤ n ∧ (fr 5) = .int .i64 i ∧ Hid (xs.take i = ys.take i)) (fun fr wr => n - (intOf (fr 5)).toNat) ?_ ?_
  · (exact ⟨Ext.refl _, 0, by omega, rfl, by simp [Hid]⟩)
  intro ks fr wr hkept hrel; (try dsimp only at hrel)
  change Code.wp _ _ _ ⟨#[ks 0, ks 1, fr 2, fr 3, fr 4, fr 5, fr 6, fr 7, fr 8, fr 9, fr 10, fr 11, fr 12, fr 13, fr 14, fr 15, fr 16, fr 17, fr 18, fr 19, fr 20, fr 21, fr 22, fr 23, fr 24, fr 25], []⟩ wr
  simp only [KeptV, List.getD_cons_zero, List.getD_cons_succ] at hkept; obtain ⟨hk0, hk1, -⟩ := hkept
  generalize ks 0 = k0 at hk0 ⊢; subst hk0
  generalize ks 1 = k1 at hk1 ⊢; subst hk1
  generalize fr 5 = s5 at hrel ⊢
  obtain ⟨he, i, hi, hs1, hq⟩ := hrel
  subst hs1
  by_cases hlt : i < n
  · obtain ⟨ad, x, rfl, hx, c0⟩ := (h.ext he).at_ hlt
    obtain ⟨ad2, y, rfl, hy, d0⟩ := (k.ext he).at_ hlt
    by_cases hxy : x = y
    · subst hxy
      have hq2 : Hid (xs.take (i + 1) = ys.take (i + 1)) := by unfold Hid; rw [take_succ_of hx, take_succ_of hy, hq.out]
      have HE := hide he
      clear hx hy hq he
      go_wp2_with fail
      go_quiet (fail)
      go_wp2_with fail
      exact ⟨⟨(by (repeat (first | exact trivial | refine ⟨rfl, ?_⟩))), HE.out.drewN _, i + 1, by omega, by go_num, hq2⟩, (by simp [intOf] <;> omega)⟩
    · have hF := HR.out.trans (take_ne hx hy hxy)
      have hF := hide hF
      have hxy' : (x != y) = true := by simpa using hxy
      have HE := hide he
      clear hx hy hq he hxy HR
      go_wp2_with fail
      go_quiet (fail)
      go_wp2_with fail
      go_ret
      exact ⟨ret_bool hF.out.symm, HE.out.drewN _⟩
  · obtain rfl : i = n := by omega
    have hT : Hid (r = true) := hide (by
      rw [HR.out]
      have := hq.out
      rw [List.take_of_length_le (by rw [h.len]; exact Nat.le_refl _), List.take_of_length_le (by rw [k.len]; exact Nat.le_refl _)] at this
      simpa using this)
    go_wp2_with fail
    go_ret
    exact ⟨ret_bool hT.out.symm, he⟩
/-- Are two inequalities the same? -/
def sameB (xs : List Int) (bd : Int) (ys : List Int) (be : Int) : Bool := decide (xs = ys) && decide (bd = be)
end Go.Proofs.Ytaigjmbhgpcalaa
