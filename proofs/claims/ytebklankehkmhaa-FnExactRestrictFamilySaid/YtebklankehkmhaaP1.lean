/-
  Steps of plane proofs in memory, and the laws' helpers over them; no condition.
-/
import Derived.Test.YtebklankehkmhaaO
import Derived.Test.YtebklankehkmhaaC10
import Derived.Test.YtebklankehkmhaaP0
namespace Go.Proofs.Ytebklankehkmhaa
set_option linter.unusedSimpArgs false
set_option linter.unusedVariables false
open Go.RowKit

theorem addr_addP (a : Addr) (i j : Nat) : (a.add i).add j = a.add (i + j) := by
  unfold Addr.add
  by_cases hi : i = 0
  · subst hi; simp
  · by_cases hj : j = 0
    · subst hj; simp [hi]
    · have : ¬ (i + j = 0) := by omega
      simp [hi, hj, this]; omega
/-- The six cells of a step, from a place on. -/
def StepAt (w : World) (at_ : Nat → Addr) (s : Ps) : Prop :=
  ∃ B c, w.cell? (at_ 0) = some (.slice B s.1.length c) ∧ Ints w B s.1.length s.1 ∧ w.cell? (at_ 1) = some (.int .i64 s.2.1) ∧ w.cell? (at_ 2) = some (.int .i64 s.2.2.1) ∧ w.cell? (at_ 3) = some (.int .i64 s.2.2.2.1) ∧
    w.cell? (at_ 4) = some (.int .i64 s.2.2.2.2.1) ∧ w.cell? (at_ 5) = some (.int .i64 s.2.2.2.2.2)
theorem StepAt.ext {w w' : World} {at_ : Nat → Addr} {s : Ps} (h : StepAt w at_ s) (he : Ext w w') : StepAt w' at_ s :=
  let ⟨B, c, h0, hi, h1, h2, h3, h4, h5⟩ := h
  ⟨B, c, he.cell h0, hi.ext he, he.cell h1, he.cell h2, he.cell h3, he.cell h4, he.cell h5⟩
/-- A slice that reads as these steps. -/
structure Steps (w : World) (A : Option Addr) (n : Nat) (ss : List Ps) : Prop where
  len : n = ss.length
  bound : n ≤ 1099511627776
  reads : 0 < n → ∃ g, A = some ⟨g, 0, none⟩ ∧ ∀ i s, ss[i]? = some s → StepAt w (fun j => ⟨g, i * 6 + j, none⟩) s
theorem Steps.ext {w w' : World} {A : Option Addr} {n : Nat} {ss : List Ps} (h : Steps w A n ss) (he : Ext w w') : Steps w' A n ss :=
  ⟨h.len, h.bound, fun hn => let ⟨g, e, hc⟩ := h.reads hn; ⟨g, e, fun i s hs => (hc i s hs).ext he⟩⟩
/-- The same at whatever address. -/
structure StepsA (w : World) (A : Option Addr) (n : Nat) (ss : List Ps) : Prop where
  len : n = ss.length
  bound : n ≤ 9223372036854775807
  reads : 0 < n → ∃ ad, A = some ad ∧ ∀ i s, ss[i]? = some s → StepAt w (fun j => ad.add (i * 6 + j)) s
theorem StepsA.ext {w w' : World} {A : Option Addr} {n : Nat} {ss : List Ps} (h : StepsA w A n ss) (he : Ext w w') : StepsA w' A n ss :=
  ⟨h.len, h.bound, fun hn => let ⟨g, e, hc⟩ := h.reads hn; ⟨g, e, fun i s hs => (hc i s hs).ext he⟩⟩
theorem Steps.at_ {w : World} {A : Option Addr} {n : Nat} {ss : List Ps} (h : Steps w A n ss) {i : Nat} (hi : i < n) :
    ∃ g xs m B c bd kd a b q, A = some ⟨g, 0, none⟩ ∧ Hid (ss[i]? = some (xs, bd, kd, a, b, q)) ∧ w.cell? ⟨g, i * 6, none⟩ = some (.slice B m c) ∧ Ints w B m xs ∧ w.cell? ⟨g, i * 6 + 1, none⟩ = some (.int .i64 bd) ∧ w.cell? ⟨g, i * 6 + 2, none⟩ = some (.int .i64 kd) ∧
      w.cell? ⟨g, i * 6 + 3, none⟩ = some (.int .i64 a) ∧ w.cell? ⟨g, i * 6 + 4, none⟩ = some (.int .i64 b) ∧ w.cell? ⟨g, i * 6 + 5, none⟩ = some (.int .i64 q) := by
  obtain ⟨g, e, hc⟩ := h.reads (by omega)
  have hx : ss[i]? = some (ss[i]'(by have := h.len; omega)) := List.getElem?_eq_getElem _
  obtain ⟨B, c, h0, hin, h1, h2, h3, h4, h5⟩ := hc i _ hx
  generalize ss[i]'(by have := h.len; omega) = s at *
  obtain ⟨xs, bd, kd, a, b, q⟩ := s
  exact ⟨g, xs, _, B, c, bd, kd, a, b, q, e, hx, h0, hin, h1, h2, h3, h4, h5⟩
theorem StepsA.at_ {w : World} {A : Option Addr} {n : Nat} {ss : List Ps} (h : StepsA w A n ss) {i : Nat} (hi : i < n) :
    ∃ ad xs m B c bd kd a b q, A = some ad ∧ Hid (ss[i]? = some (xs, bd, kd, a, b, q)) ∧ w.cell? (ad.add (i * 6)) = some (.slice B m c) ∧ Ints w B m xs ∧ w.cell? ⟨(ad.add (i * 6)).block, (ad.add (i * 6)).off + 1, none⟩ = some (.int .i64 bd) ∧ w.cell? ⟨(ad.add (i * 6)).block, (ad.add (i * 6)).off + 2, none⟩ = some (.int .i64 kd) ∧
      w.cell? ⟨(ad.add (i * 6)).block, (ad.add (i * 6)).off + 3, none⟩ = some (.int .i64 a) ∧ w.cell? ⟨(ad.add (i * 6)).block, (ad.add (i * 6)).off + 4, none⟩ = some (.int .i64 b) ∧ w.cell? ⟨(ad.add (i * 6)).block, (ad.add (i * 6)).off + 5, none⟩ = some (.int .i64 q) := by
  obtain ⟨g, e, hc⟩ := h.reads (by omega)
  have hx : ss[i]? = some (ss[i]'(by have := h.len; omega)) := List.getElem?_eq_getElem _
  obtain ⟨B, c, h0, hin, h1, h2, h3, h4, h5⟩ := hc i _ hx
  generalize ss[i]'(by have := h.len; omega) = s at *
  obtain ⟨xs, bd, kd, a, b, q⟩ := s
  refine ⟨g, xs, _, B, c, bd, kd, a, b, q, e, hx, h0, hin, ?_, ?_, ?_, ?_, ?_⟩
  · show w.cell? ((g.add (i * 6)).add 1) = _; rw [addr_addP]; exact h1
  · show w.cell? ((g.add (i * 6)).add 2) = _; rw [addr_addP]; exact h2
  · show w.cell? ((g.add (i * 6)).add 3) = _; rw [addr_addP]; exact h3
  · show w.cell? ((g.add (i * 6)).add 4) = _; rw [addr_addP]; exact h4
  · show w.cell? ((g.add (i * 6)).add 5) = _; rw [addr_addP]; exact h5
theorem Steps.toA {w : World} {A : Option Addr} {n : Nat} {ss : List Ps} (h : Steps w A n ss) : StepsA w A n ss :=
  ⟨h.len, by have := h.bound; omega, fun hn => by
    obtain ⟨g, e, hc⟩ := h.reads hn
    refine ⟨⟨g, 0, none⟩, e, fun i s hs => ?_⟩
    have := hc i s hs
    have hadd : ∀ j, (⟨g, 0, none⟩ : Addr).add j = ⟨g, j, none⟩ := fun j => by unfold Addr.add; split <;> simp_all
    simp only [hadd]
    exact this⟩
abbrev psV (A : Option Addr) (n c : Nat) (bd kd a b q : Int) : Value := .agg #[.slice A n c, .int .i64 bd, .int .i64 kd, .int .i64 a, .int .i64 b, .int .i64 q]
theorem szPlaneStep_fit (A : Option Addr) (n c : Nat) (left bd kd a b q : Int) (w : World) (hn : n ≤ 9223372036854775807) (hl : 0 ≤ left ∧ left ≤ 1048576) (h : (n : Int) ≤ left) :
    Calls Try.prog 67 #[.agg #[.slice A n c, .int .i64 bd, .int .i64 kd, .int .i64 a, .int .i64 b, .int .i64 q], .int .i64 left] w fun e w' => e = .returned (.int .i64 (left - n)) ∧ Ext w w' := by
  go_enter Try.func67, Try.ntmps67
  go_wp2_with (go_at_call 15; refine (szInequality_fit _ _ _ _ _ _ ?_ ?_ ?_).mono ?_; omega; omega; omega; rintro e w1 ⟨rfl, he1⟩)
  go_ret
  exact ⟨rfl, by (repeat (first | with_reducible exact Ext.refl _ | with_reducible assumption | ((with_reducible refine Ext.setCell ?_ ?_ _); rotate_left; focus (first | omega | (simp <;> omega))) | with_reducible refine Ext.alloc ?_ _ | with_reducible refine Ext.drewN ?_ _ | with_reducible refine Ext.drew ?_ | with_reducible refine Ext.trans ?_ (by with_reducible assumption)))⟩
theorem szPlaneStep_no (A : Option Addr) (n c : Nat) (left bd kd a b q : Int) (w : World) (hn : n ≤ 9223372036854775807) (hl : 0 ≤ left ∧ left ≤ 1048576) (h : left < (n : Int)) :
    Calls Try.prog 67 #[.agg #[.slice A n c, .int .i64 bd, .int .i64 kd, .int .i64 a, .int .i64 b, .int .i64 q], .int .i64 left] w fun e w' => e = .returned (.int .i64 (-1)) ∧ Ext w w' := by
  go_enter Try.func67, Try.ntmps67
  go_wp2_with (go_at_call 15; refine (szInequality_no _ _ _ _ _ _ ?_ ?_ ?_).mono ?_; omega; omega; omega; rintro e w1 ⟨rfl, he1⟩)
  go_ret
  exact ⟨rfl, by (repeat (first | with_reducible exact Ext.refl _ | with_reducible assumption | ((with_reducible refine Ext.setCell ?_ ?_ _); rotate_left; focus (first | omega | (simp <;> omega))) | with_reducible refine Ext.alloc ?_ _ | with_reducible refine Ext.drewN ?_ _ | with_reducible refine Ext.drew ?_ | with_reducible refine Ext.trans ?_ (by with_reducible assumption)))⟩
theorem coeffs_get {ss : List Ps} {i : Nat} {xs : List Int} {bd kd a b q : Int} (h : Hid (ss[i]? = some (xs, bd, kd, a, b, q))) : Hid ((ss.map (·.1))[i]? = some xs) := by
  unfold Hid; rw [List.getElem?_map, h.out]; rfl
theorem szPlaneStepS_fit (A : Option Addr) (n c : Nat) (left : Int) (ss : List Ps) (w : World) (h : StepsA w A n ss) (hl : 0 ≤ left ∧ left ≤ 1048576) (hf : (stepsSize ss : Int) ≤ left) :
    Calls Try.prog 23 #[.slice A n c, .int .i64 left] w fun e w' => e = .returned (.int .i64 (left - stepsSize ss)) ∧ Ext w w' := by
  have hb := h.bound
  have hlen : n = (ss.map (·.1)).length := by rw [List.length_map]; exact h.len
  obtain ⟨tt, htt⟩ : ∃ t, t = rowsTotal (ss.map (·.1)) := ⟨_, rfl⟩
  have hsz : stepsSize ss = n + tt := by unfold stepsSize rowsSize; rw [← htt, hlen]
  rw [hsz] at hf ⊢
  have HL := hide hlen
  have HT := hide htt
  clear hlen htt hsz
  have hf' : (n : Int) ≤ left := by omega
  go_enter Try.func23, Try.ntmps23
  go_wp2
  refine wp_loop (fun acT wr => ∃ s0 s1 s2 s3 s4 s5 s6 s7 s8 s9 s10 s11 s12 s13 s14 s15 s16 s17 s18 s19 s20 s21 s22 s23 s24 s25 s26 : Value, (s0 = .slice A n c ∧ (Ext w wr ∧ ∃ i : Nat, i ≤ n ∧ s5 = .int .i64 (i : Int) ∧ ∃ t : Nat, s1 = .int .i64 (left - n - t) ∧ Hid (t = rowsTotal ((ss.map (·.1)).take i)))) ∧ acT = ⟨#[s0, s1, s2, s3, s4, s5, s6, s7, s8, s9, s10, s11, s12, s13, s14, s15, s16, s17, s18, s19, s20, s21, s22, s23, s24, s25, s26], []⟩) (fun acT wr => (fun (s5 : Value) (wr : World) => n - (intOf s5).toNat) (acT.tmps.getD 5 undef) wr) ?_ ?_
  · (refine ⟨_, _, _, _, _, _, _, _, _, _, _, _, _, _, _, _, _, _, _, _, _, _, _, _, _, _, _, ⟨rfl, ?_⟩, rfl⟩; exact ⟨Ext.refl _, 0, Nat.zero_le _, rfl, 0, by simp, by simp [Hid, rowsTotal]⟩)
  intro _ wr hinv; obtain ⟨s0, s1, s2, s3, s4, s5, s6, s7, s8, s9, s10, s11, s12, s13, s14, s15, s16, s17, s18, s19, s20, s21, s22, s23, s24, s25, s26, ⟨rfl, hrel⟩, rfl⟩ := hinv; (try dsimp only)
  obtain ⟨he, i, hi, rfl, t, rfl, ht⟩ := hrel
  have htl : t ≤ tt := by rw [ht.out, HT.out]; exact rowsTotal_le i
  by_cases hlt : i < n
  · obtain ⟨ad, xs, m, B, d, bd, kd, a, b, q, rfl, hx0, hc, hin, e1, e2, e3, e4, e5⟩ := (h.ext he).at_ hlt
    have hx := coeffs_get hx0
    have hm := hin.len
    have hmb := hin.bound
    have hsucc := hide (rowsTotal_succ hx)
    have htm : t + m ≤ tt := by
      have := rowsTotal_le (xss := ss.map (·.1)) (i + 1)
      rw [hsucc.out, ← ht.out, ← HT.out] at this
      omega
    have HM := hide hm
    clear hm
    go_wp2_with (go_at_call 67; refine (szPlaneStep_fit _ _ _ _ _ _ _ _ _ _ ?_ ?_ ?_).mono ?_; omega; omega; omega; rintro e w1 ⟨rfl, he1⟩)
    exact ⟨⟨(by first | trivial | rfl), he.trans he1, i + 1, by omega, by go_num, t + m, by first | rfl | go_num | (congr 1; omega), by unfold Hid; rw [hsucc.out, ht.out, HM.out]⟩, (by simp [intOf] <;> omega)⟩
  · obtain rfl : i = n := by omega
    have htt : t = tt := by rw [ht.out, HT.out, rowsTotal_all (by rw [HL.out]; exact Nat.le_refl _)]
    subst htt
    go_wp2
    go_ret
    exact ⟨ret_int (by omega), he⟩
theorem szPlaneStepS_no (A : Option Addr) (n c : Nat) (left : Int) (ss : List Ps) (w : World) (h : StepsA w A n ss) (hl : 0 ≤ left ∧ left ≤ 1048576) (hf : left < (stepsSize ss : Int)) :
    Calls Try.prog 23 #[.slice A n c, .int .i64 left] w fun e w' => e = .returned (.int .i64 (-1)) ∧ Ext w w' := by
  have hb := h.bound
  have hlen : n = (ss.map (·.1)).length := by rw [List.length_map]; exact h.len
  obtain ⟨tt, htt⟩ : ∃ t, t = rowsTotal (ss.map (·.1)) := ⟨_, rfl⟩
  have hsz : stepsSize ss = n + tt := by unfold stepsSize rowsSize; rw [← htt, hlen]
  rw [hsz] at hf
  have HL := hide hlen
  have HT := hide htt
  clear hlen htt hsz
  by_cases hf' : (n : Int) ≤ left
  · go_enter Try.func23, Try.ntmps23
    go_wp2
    refine wp_loop (fun acT wr => ∃ s0 s1 s2 s3 s4 s5 s6 s7 s8 s9 s10 s11 s12 s13 s14 s15 s16 s17 s18 s19 s20 s21 s22 s23 s24 s25 s26 : Value, (s0 = .slice A n c ∧ (Ext w wr ∧ ∃ i : Nat, i ≤ n ∧ s5 = .int .i64 (i : Int) ∧ ∃ t : Nat, s1 = .int .i64 (left - n - t) ∧ (t : Int) ≤ left - n ∧ Hid (t = rowsTotal ((ss.map (·.1)).take i)))) ∧ acT = ⟨#[s0, s1, s2, s3, s4, s5, s6, s7, s8, s9, s10, s11, s12, s13, s14, s15, s16, s17, s18, s19, s20, s21, s22, s23, s24, s25, s26], []⟩) (fun acT wr => (fun (s5 : Value) (wr : World) => n - (intOf s5).toNat) (acT.tmps.getD 5 undef) wr) ?_ ?_
    · (refine ⟨_, _, _, _, _, _, _, _, _, _, _, _, _, _, _, _, _, _, _, _, _, _, _, _, _, _, _, ⟨rfl, ?_⟩, rfl⟩; exact ⟨Ext.refl _, 0, Nat.zero_le _, rfl, 0, by simp, by omega, by simp [Hid, rowsTotal]⟩)
    intro _ wr hinv; obtain ⟨s0, s1, s2, s3, s4, s5, s6, s7, s8, s9, s10, s11, s12, s13, s14, s15, s16, s17, s18, s19, s20, s21, s22, s23, s24, s25, s26, ⟨rfl, hrel⟩, rfl⟩ := hinv; (try dsimp only)
    obtain ⟨he, i, hi, rfl, t, rfl, htn, ht⟩ := hrel
    by_cases hlt : i < n
    · obtain ⟨ad, xs, m, B, d, bd, kd, a, b, q, rfl, hx0, hc, hin, e1, e2, e3, e4, e5⟩ := (h.ext he).at_ hlt
      have hx := coeffs_get hx0
      have hm := hin.len
      have hmb := hin.bound
      have hsucc := hide (rowsTotal_succ hx)
      have HM := hide hm
      clear hm
      by_cases hfit : (m : Int) ≤ left - n - t
      · go_wp2_with (go_at_call 67; refine (szPlaneStep_fit _ _ _ _ _ _ _ _ _ _ ?_ ?_ ?_).mono ?_; omega; omega; omega; rintro e w1 ⟨rfl, he1⟩)
        exact ⟨⟨(by first | trivial | rfl), he.trans he1, i + 1, by omega, by go_num, t + m, by first | rfl | go_num | (congr 1; omega), by omega, by unfold Hid; rw [hsucc.out, ht.out, HM.out]⟩, (by simp [intOf] <;> omega)⟩
      · go_wp2_with (go_at_call 67; refine (szPlaneStep_no _ _ _ _ _ _ _ _ _ _ ?_ ?_ ?_).mono ?_; omega; omega; omega; rintro e w1 ⟨rfl, he1⟩)
        go_ret
        exact ⟨rfl, he.trans he1⟩
    · obtain rfl : i = n := by omega
      have htt : t = tt := by rw [ht.out, HT.out, rowsTotal_all (by rw [HL.out]; exact Nat.le_refl _)]
      subst htt
      omega
  · go_enter Try.func23, Try.ntmps23
    go_wp2
    go_ret
    exact ⟨rfl, Ext.refl _⟩
theorem BoxAt.set6 {w : World} {b : Nat} {t : TypeId} {z0 z1 z2 z3 z4 z5 x0 x1 x2 x3 x4 x5 : Value} (h : BoxAt w b t #[z0, z1, z2, z3, z4, z5]) :
    BoxAt ((((((w.setCell ⟨b, 0, none⟩ x0).setCell ⟨b, 1, none⟩ x1).setCell ⟨b, 2, none⟩ x2).setCell ⟨b, 3, none⟩ x3).setCell ⟨b, 4, none⟩ x4).setCell ⟨b, 5, none⟩ x5) b t #[x0, x1, x2, x3, x4, x5] := (((((h.set 0 x0).set 1 x1).set 2 x2).set 3 x3).set 4 x4).set 5 x5
set_option maxHeartbeats 1600000 in
theorem toPlaneStep_c (A : Option Addr) (n c : Nat) (bd kd a b q : Int) (xs : List Int) (w : World) (h : Ints w A n xs) (hn : n ≤ 1048576) :
    Calls Try.prog 71 #[.agg #[.slice A n c, .int .i64 bd, .int .i64 kd, .int .i64 a, .int .i64 b, .int .i64 q]] w fun e w' =>
      ∃ A' c', e = .returned (.agg #[.slice A' n c', .int .i64 bd, .int .i64 kd, .int .i64 a, .int .i64 b, .int .i64 q]) ∧ Own w' w.heap.size 3 1 A' n c' (xs.map (Value.int .i64)) ∧ Ext w w' := by
  go_enter Try.func71, Try.ntmps71
  go_wp2_with (go_at_call 17; refine (toInequality_c _ _ _ _ xs _ ?_ ?_).mono ?_; exact h.ext (by (repeat (first | with_reducible exact Ext.refl _ | with_reducible assumption | ((with_reducible refine Ext.setCell ?_ ?_ _); rotate_left; focus (first | omega | (simp <;> omega))) | with_reducible refine Ext.alloc ?_ _ | with_reducible refine Ext.drewN ?_ _ | with_reducible refine Ext.drew ?_ | with_reducible refine Ext.trans ?_ (by with_reducible assumption)))); omega; rintro e w1 ⟨A', c', rfl, ho, he⟩; have bf0 := he.frozen (p := ⟨w.heap.size, 0, none⟩) (by first | omega | (simp <;> omega)) (by first | simp [go_sem] | simp [go_sem, *]); have bc1 := he.cell (p := ⟨w.heap.size, 1, none⟩) (u := .int .i64 bd) (by first | simp [go_sem] | simp [go_sem, *]); have bf1 := he.frozen (p := ⟨w.heap.size, 1, none⟩) (by first | omega | (simp <;> omega)) (by first | simp [go_sem] | simp [go_sem, *]); have bc2 := he.cell (p := ⟨w.heap.size, 2, none⟩) (u := .int .i64 kd) (by first | simp [go_sem] | simp [go_sem, *]); have bf2 := he.frozen (p := ⟨w.heap.size, 2, none⟩) (by first | omega | (simp <;> omega)) (by first | simp [go_sem] | simp [go_sem, *]); have bc3 := he.cell (p := ⟨w.heap.size, 3, none⟩) (u := .int .i64 a) (by first | simp [go_sem] | simp [go_sem, *]); have bf3 := he.frozen (p := ⟨w.heap.size, 3, none⟩) (by first | omega | (simp <;> omega)) (by first | simp [go_sem] | simp [go_sem, *]); have bc4 := he.cell (p := ⟨w.heap.size, 4, none⟩) (u := .int .i64 b) (by first | simp [go_sem] | simp [go_sem, *]); have bf4 := he.frozen (p := ⟨w.heap.size, 4, none⟩) (by first | omega | (simp <;> omega)) (by first | simp [go_sem] | simp [go_sem, *]); have bc5 := he.cell (p := ⟨w.heap.size, 5, none⟩) (u := .int .i64 q) (by first | simp [go_sem] | simp [go_sem, *]); have bf5 := he.frozen (p := ⟨w.heap.size, 5, none⟩) (by first | omega | (simp <;> omega)) (by first | simp [go_sem] | simp [go_sem, *]); have bc6 := he.cell (p := ⟨w.heap.size + 1, 0, none⟩) (u := .slice none 0 0) (by first | simp [go_sem] | simp [go_sem, *]); have bf6 := he.frozen (p := ⟨w.heap.size + 1, 0, none⟩) (by first | omega | (simp <;> omega)) (by first | simp [go_sem] | simp [go_sem, *]); have bc7 := he.cell (p := ⟨w.heap.size + 1, 1, none⟩) (u := .int .i64 0) (by first | simp [go_sem] | simp [go_sem, *]); have bf7 := he.frozen (p := ⟨w.heap.size + 1, 1, none⟩) (by first | omega | (simp <;> omega)) (by first | simp [go_sem] | simp [go_sem, *]); have bc8 := he.cell (p := ⟨w.heap.size + 1, 2, none⟩) (u := .int .i64 0) (by first | simp [go_sem] | simp [go_sem, *]); have bf8 := he.frozen (p := ⟨w.heap.size + 1, 2, none⟩) (by first | omega | (simp <;> omega)) (by first | simp [go_sem] | simp [go_sem, *]); have bc9 := he.cell (p := ⟨w.heap.size + 1, 3, none⟩) (u := .int .i64 0) (by first | simp [go_sem] | simp [go_sem, *]); have bf9 := he.frozen (p := ⟨w.heap.size + 1, 3, none⟩) (by first | omega | (simp <;> omega)) (by first | simp [go_sem] | simp [go_sem, *]); have bc10 := he.cell (p := ⟨w.heap.size + 1, 4, none⟩) (u := .int .i64 0) (by first | simp [go_sem] | simp [go_sem, *]); have bf10 := he.frozen (p := ⟨w.heap.size + 1, 4, none⟩) (by first | omega | (simp <;> omega)) (by first | simp [go_sem] | simp [go_sem, *]); have bc11 := he.cell (p := ⟨w.heap.size + 1, 5, none⟩) (u := .int .i64 0) (by first | simp [go_sem] | simp [go_sem, *]); have bf11 := he.frozen (p := ⟨w.heap.size + 1, 5, none⟩) (by first | omega | (simp <;> omega)) (by first | simp [go_sem] | simp [go_sem, *]); have bc12 := he.cell (p := ⟨w.heap.size + 1 + 1, 0, none⟩) (u := .slice none 0 0) (by first | simp [go_sem] | simp [go_sem, *]); have bf12 := he.frozen (p := ⟨w.heap.size + 1 + 1, 0, none⟩) (by first | omega | (simp <;> omega)) (by first | simp [go_sem] | simp [go_sem, *]); have bc13 := he.cell (p := ⟨w.heap.size + 1 + 1, 1, none⟩) (u := .int .i64 0) (by first | simp [go_sem] | simp [go_sem, *]); have bf13 := he.frozen (p := ⟨w.heap.size + 1 + 1, 1, none⟩) (by first | omega | (simp <;> omega)) (by first | simp [go_sem] | simp [go_sem, *]); have bc14 := he.cell (p := ⟨w.heap.size + 1 + 1, 2, none⟩) (u := .int .i64 0) (by first | simp [go_sem] | simp [go_sem, *]); have bf14 := he.frozen (p := ⟨w.heap.size + 1 + 1, 2, none⟩) (by first | omega | (simp <;> omega)) (by first | simp [go_sem] | simp [go_sem, *]); have bc15 := he.cell (p := ⟨w.heap.size + 1 + 1, 3, none⟩) (u := .int .i64 0) (by first | simp [go_sem] | simp [go_sem, *]); have bf15 := he.frozen (p := ⟨w.heap.size + 1 + 1, 3, none⟩) (by first | omega | (simp <;> omega)) (by first | simp [go_sem] | simp [go_sem, *]); have bc16 := he.cell (p := ⟨w.heap.size + 1 + 1, 4, none⟩) (u := .int .i64 0) (by first | simp [go_sem] | simp [go_sem, *]); have bf16 := he.frozen (p := ⟨w.heap.size + 1 + 1, 4, none⟩) (by first | omega | (simp <;> omega)) (by first | simp [go_sem] | simp [go_sem, *]); have bc17 := he.cell (p := ⟨w.heap.size + 1 + 1, 5, none⟩) (u := .int .i64 0) (by first | simp [go_sem] | simp [go_sem, *]); have bf17 := he.frozen (p := ⟨w.heap.size + 1 + 1, 5, none⟩) (by first | omega | (simp <;> omega)) (by first | simp [go_sem] | simp [go_sem, *]))
  have ho2 : Own w1 (w.heap.size + 3) 3 1 A' n c' (xs.map (Value.int .i64)) := ho.lower (by simp)
  have he2 : Ext w w1 := Ext.trans (by (repeat (first | with_reducible exact Ext.refl _ | with_reducible assumption | ((with_reducible refine Ext.setCell ?_ ?_ _); rotate_left; focus (first | omega | (simp <;> omega))) | with_reducible refine Ext.alloc ?_ _ | with_reducible refine Ext.drewN ?_ _ | with_reducible refine Ext.drew ?_ | with_reducible refine Ext.trans ?_ (by with_reducible assumption)))) he
  have hb2 : BoxAt w1 (w.heap.size + 1) 84 #[.slice none 0 0, .int .i64 0, .int .i64 0, .int .i64 0, .int .i64 0, .int .i64 0] := by
    refine BoxAt.ext ?_ he
    refine BoxAt.ext ?_ ((Ext.refl _).alloc _)
    have := BoxAt.made (w.alloc (.cells #[.slice A n c, .int .i64 bd, .int .i64 kd, .int .i64 a, .int .i64 b, .int .i64 q] 79)) #[.slice none 0 0, .int .i64 0, .int .i64 0, .int .i64 0, .int .i64 0, .int .i64 0] 84
    simpa using this
  refine (?main : ∀ WW : World, BoxAt WW (w.heap.size + 1) 84 #[.slice A' n c', .int .i64 bd, .int .i64 kd, .int .i64 a, .int .i64 b, .int .i64 q] → Own WW w.heap.size 3 1 A' n c' (xs.map (Value.int .i64)) → Ext w WW → bodyPost _ _ _ _ _ WW) _ ?_ ?_ ?_
  case main =>
    intro WW hbw how hew
    have q0 := hbw.cell 0 _ rfl
    have q1 := hbw.cell 1 _ rfl
    have q2 := hbw.cell 2 _ rfl
    have q3 := hbw.cell 3 _ rfl
    have q4 := hbw.cell 4 _ rfl
    have q5 := hbw.cell 5 _ rfl
    refine bodyPost_ret (v := .agg #[.slice A' n c', .int .i64 bd, .int .i64 kd, .int .i64 a, .int .i64 b, .int .i64 q]) (by simp only [results, Try.results71]; simp [go_sem, q0, q1, q2, q3, q4, q5]) rfl ⟨_, _, rfl, how, hew⟩
  · with_reducible refine BoxAt.set6 (z0 := .slice none 0 0) (z1 := .int .i64 0) (z2 := .int .i64 0) (z3 := .int .i64 0) (z4 := .int .i64 0) (z5 := .int .i64 0) ?_
    repeat (first | with_reducible exact hb2 | with_reducible refine BoxAt.setOther ?_ (by simp) _)
  · refine Own.lower (base := w.heap.size + 3) ?_ (by omega)
    repeat (first | with_reducible exact ho2 | with_reducible refine Own.setLow ?_ (by first | omega | (simp <;> omega)) _)
  · repeat (first | with_reducible exact he2 | with_reducible refine Ext.setCell ?_ (by first | omega | (simp <;> omega)) _)
set_option maxHeartbeats 800000 in
theorem eqPlaneStep_same (A B : Option Addr) (n c m d : Nat) (bd kd a b q : Int) (xs : List Int) (w : World) (h : Ints w A n xs) (k : Ints w B m xs) :
    Calls Try.prog 75 #[.agg #[.slice A n c, .int .i64 bd, .int .i64 kd, .int .i64 a, .int .i64 b, .int .i64 q], .agg #[.slice B m d, .int .i64 bd, .int .i64 kd, .int .i64 a, .int .i64 b, .int .i64 q]] w fun e w' => e = .returned (.bool true) ∧ Ext w w' := by
  go_enter Try.func75, Try.ntmps75
  go_wp2_with (go_at_call 19; refine (eqInequality_same _ _ _ _ _ _ _ xs _ ?_ ?_).mono ?_; exact h.ext (by (repeat (first | with_reducible exact Ext.refl _ | with_reducible assumption | ((with_reducible refine Ext.setCell ?_ ?_ _); rotate_left; focus (first | omega | (simp <;> omega))) | with_reducible refine Ext.alloc ?_ _ | with_reducible refine Ext.drewN ?_ _ | with_reducible refine Ext.drew ?_ | with_reducible refine Ext.trans ?_ (by with_reducible assumption)))); exact k.ext (by (repeat (first | with_reducible exact Ext.refl _ | with_reducible assumption | ((with_reducible refine Ext.setCell ?_ ?_ _); rotate_left; focus (first | omega | (simp <;> omega))) | with_reducible refine Ext.alloc ?_ _ | with_reducible refine Ext.drewN ?_ _ | with_reducible refine Ext.drew ?_ | with_reducible refine Ext.trans ?_ (by with_reducible assumption)))); rintro e w1 ⟨rfl, he⟩; have bf18 := he.frozen (p := ⟨w.heap.size, 0, none⟩) (by first | omega | (simp <;> omega)) (by first | simp [go_sem] | simp [go_sem, *]); have bc19 := he.cell (p := ⟨w.heap.size, 1, none⟩) (u := .int .i64 bd) (by first | simp [go_sem] | simp [go_sem, *]); have bf19 := he.frozen (p := ⟨w.heap.size, 1, none⟩) (by first | omega | (simp <;> omega)) (by first | simp [go_sem] | simp [go_sem, *]); have bc20 := he.cell (p := ⟨w.heap.size, 2, none⟩) (u := .int .i64 kd) (by first | simp [go_sem] | simp [go_sem, *]); have bf20 := he.frozen (p := ⟨w.heap.size, 2, none⟩) (by first | omega | (simp <;> omega)) (by first | simp [go_sem] | simp [go_sem, *]); have bc21 := he.cell (p := ⟨w.heap.size, 3, none⟩) (u := .int .i64 a) (by first | simp [go_sem] | simp [go_sem, *]); have bf21 := he.frozen (p := ⟨w.heap.size, 3, none⟩) (by first | omega | (simp <;> omega)) (by first | simp [go_sem] | simp [go_sem, *]); have bc22 := he.cell (p := ⟨w.heap.size, 4, none⟩) (u := .int .i64 b) (by first | simp [go_sem] | simp [go_sem, *]); have bf22 := he.frozen (p := ⟨w.heap.size, 4, none⟩) (by first | omega | (simp <;> omega)) (by first | simp [go_sem] | simp [go_sem, *]); have bc23 := he.cell (p := ⟨w.heap.size, 5, none⟩) (u := .int .i64 q) (by first | simp [go_sem] | simp [go_sem, *]); have bf23 := he.frozen (p := ⟨w.heap.size, 5, none⟩) (by first | omega | (simp <;> omega)) (by first | simp [go_sem] | simp [go_sem, *]); have bf24 := he.frozen (p := ⟨w.heap.size + 1, 0, none⟩) (by first | omega | (simp <;> omega)) (by first | simp [go_sem] | simp [go_sem, *]); have bc25 := he.cell (p := ⟨w.heap.size + 1, 1, none⟩) (u := .int .i64 bd) (by first | simp [go_sem] | simp [go_sem, *]); have bf25 := he.frozen (p := ⟨w.heap.size + 1, 1, none⟩) (by first | omega | (simp <;> omega)) (by first | simp [go_sem] | simp [go_sem, *]); have bc26 := he.cell (p := ⟨w.heap.size + 1, 2, none⟩) (u := .int .i64 kd) (by first | simp [go_sem] | simp [go_sem, *]); have bf26 := he.frozen (p := ⟨w.heap.size + 1, 2, none⟩) (by first | omega | (simp <;> omega)) (by first | simp [go_sem] | simp [go_sem, *]); have bc27 := he.cell (p := ⟨w.heap.size + 1, 3, none⟩) (u := .int .i64 a) (by first | simp [go_sem] | simp [go_sem, *]); have bf27 := he.frozen (p := ⟨w.heap.size + 1, 3, none⟩) (by first | omega | (simp <;> omega)) (by first | simp [go_sem] | simp [go_sem, *]); have bc28 := he.cell (p := ⟨w.heap.size + 1, 4, none⟩) (u := .int .i64 b) (by first | simp [go_sem] | simp [go_sem, *]); have bf28 := he.frozen (p := ⟨w.heap.size + 1, 4, none⟩) (by first | omega | (simp <;> omega)) (by first | simp [go_sem] | simp [go_sem, *]); have bc29 := he.cell (p := ⟨w.heap.size + 1, 5, none⟩) (u := .int .i64 q) (by first | simp [go_sem] | simp [go_sem, *]); have bf29 := he.frozen (p := ⟨w.heap.size + 1, 5, none⟩) (by first | omega | (simp <;> omega)) (by first | simp [go_sem] | simp [go_sem, *]))
  go_ret
  exact ⟨rfl, by (repeat (first | with_reducible exact Ext.refl _ | with_reducible assumption | ((with_reducible refine Ext.setCell ?_ ?_ _); rotate_left; focus (first | omega | (simp <;> omega))) | with_reducible refine Ext.alloc ?_ _ | with_reducible refine Ext.drewN ?_ _ | with_reducible refine Ext.drew ?_ | with_reducible refine Ext.trans ?_ (by with_reducible assumption)))⟩
end Go.Proofs.Ytebklankehkmhaa
