/-
  IsPlaneRefutation on both sides; no condition.
-/
import Derived.Test.YtebklankehkmhaaP10
import Derived.Test.YtebklankehkmhaaC7
namespace Go.Proofs.Ytebklankehkmhaa
set_option linter.unusedSimpArgs false
set_option linter.unusedVariables false
open Go.RowKit
/-- An inequality without coefficients, of a bound of at least 1. -/
def absB (s : Ps) : Bool := decide (1 ≤ s.2.1) && !s.1.any (fun x => x != 0)
def refB (v : Int) (cls : List (List Int)) (ss : List Ps) : Bool := goodB v cls ss && absB (ss.getD (ss.length - 1) ps0)
theorem good_facts {v : Int} {cls : List (List Int)} {ss : List Ps} (h : goodB v cls ss = true) : cnfOk v cls = true ∧ ss.length ≤ 400 ∧ 0 < ss.length ∧ ∀ i, i < ss.length → okP v (ss.getD i ps0) = true := by
  obtain ⟨h1, h2⟩ := and2_true h
  obtain ⟨h3, h4⟩ := and2_true h1
  obtain ⟨h5, h6⟩ := and2_true h2
  have h5 := of_decide_eq_true h5
  have h6 := of_decide_eq_true h6
  obtain ⟨u, rfl⟩ := cnf_nat h3
  rw [show ((u : Nat) : Int).toNat = u by omega] at h6
  refine ⟨h3, of_decide_eq_true h4, h5, fun i hi => ?_⟩
  have hb : badFrom u cls ss 0 ss.length = -1 := by
    rcases badFrom_range (v := u) (cls := cls) (ss := ss) (k := 0) (m := ss.length) with h | h
    · exact h
    · unfold firstBad at h6; omega
  exact stepB_ok (badFrom_all hb i (by omega) (by omega))
theorem zero_rep {v : Nat} {xs : List Int} (hl : (xs.length : Int) = v) : decide (xs = List.replicate v 0) = !xs.any (fun x => x != 0) := by
  have hl : xs.length = v := by omega
  rw [Bool.eq_iff_iff]
  simp only [decide_eq_true_eq, Bool.not_eq_true', List.any_eq_false]
  constructor
  · intro h x hx; rw [h] at hx; have := List.eq_of_mem_replicate hx; simp [this]
  · intro h; exact List.eq_replicate_iff.2 ⟨hl, fun x hx => by have := h x hx; simpa using this⟩
theorem field_step (B : Option Addr) (m d : Nat) (bd kd a b q : Int) (W : World) : Sem.run Try.prog (Instr.field 84 (.agg #[.slice B m d, .int .i64 bd, .int .i64 kd, .int .i64 a, .int .i64 b, .int .i64 q]) 0) W = .ok (.agg #[.slice B m d, .int .i64 bd]) W := by first | kernel_rfl | rfl
set_option maxRecDepth 100000 in
theorem lastStep_c (A : Option Addr) (n c : Nat) (ss : List Ps) (w : World) (h : Steps w A n ss) (hn : 0 < n) :
    Calls Try.prog 82 #[.slice A n c] w fun e w' => ∃ B m d, e = .returned (psV B m d (ss.getD (ss.length - 1) ps0).2.1 (ss.getD (ss.length - 1) ps0).2.2.1 (ss.getD (ss.length - 1) ps0).2.2.2.1 (ss.getD (ss.length - 1) ps0).2.2.2.2.1 (ss.getD (ss.length - 1) ps0).2.2.2.2.2) ∧ Ints w' B m (ss.getD (ss.length - 1) ps0).1 ∧ Ext w w' := by
  have hl := h.len
  have hb := h.bound
  obtain ⟨g, xs, m, B, e, bd, kd, a, b, q, rfl, hx, c0, hin, c1, c2, c3, c4, c5⟩ := h.at_ (show n - 1 < n by omega)
  have hD : ss.getD (ss.length - 1) ps0 = (xs, bd, kd, a, b, q) := by rw [← hl]; exact getD_of hx
  rw [hD]
  simp only
  obtain ⟨j, rfl⟩ : ∃ j, n = j + 1 := ⟨n - 1, by omega⟩
  rw [show j + 1 - 1 = j by omega] at c0 c1 c2 c3 c4 c5
  have hw1 : IntKind.i64.wrap (((j + 1 : Nat) : Int) - 1) = (j : Int) := by rw [show (((j + 1 : Nat) : Int) - 1) = (j : Int) by omega]; exact IntWalk.i64_in _ (by omega)
  have hw2 : IntKind.i64.wrap ((j : Int) + 1 - 1) = (j : Int) := by rw [show ((j : Int) + 1 - 1) = (j : Int) by omega]; exact IntWalk.i64_in _ (by omega)
  clear hD hl hx
  have dd0 := ((Ext.refl w).alloc (.cells #[.slice none 0 0, .int .i64 0, .int .i64 0, .int .i64 0, .int .i64 0, .int .i64 0] 84)).cell c0
  have dd1 := ((Ext.refl w).alloc (.cells #[.slice none 0 0, .int .i64 0, .int .i64 0, .int .i64 0, .int .i64 0, .int .i64 0] 84)).cell c1
  have dd2 := ((Ext.refl w).alloc (.cells #[.slice none 0 0, .int .i64 0, .int .i64 0, .int .i64 0, .int .i64 0, .int .i64 0] 84)).cell c2
  have dd3 := ((Ext.refl w).alloc (.cells #[.slice none 0 0, .int .i64 0, .int .i64 0, .int .i64 0, .int .i64 0, .int .i64 0] 84)).cell c3
  have dd4 := ((Ext.refl w).alloc (.cells #[.slice none 0 0, .int .i64 0, .int .i64 0, .int .i64 0, .int .i64 0, .int .i64 0] 84)).cell c4
  have dd5 := ((Ext.refl w).alloc (.cells #[.slice none 0 0, .int .i64 0, .int .i64 0, .int .i64 0, .int .i64 0, .int .i64 0] 84)).cell c5
  go_enter Try.func82, Try.ntmps82
  go_wp2
  refine bodyPost_ret (v := psV B m e bd kd a b q) (by simp [results, Try.results82, go_sem]) rfl ⟨_, _, _, rfl, hin.ext (by (repeat (first | with_reducible exact Ext.refl _ | with_reducible assumption | ((with_reducible refine Ext.setCell ?_ ?_ _); rotate_left; focus (first | omega | (simp <;> omega))) | with_reducible refine Ext.alloc ?_ _ | with_reducible refine Ext.drewN ?_ _ | with_reducible refine Ext.drew ?_ | with_reducible refine Ext.trans ?_ (by with_reducible assumption)))), by (repeat (first | with_reducible exact Ext.refl _ | with_reducible assumption | ((with_reducible refine Ext.setCell ?_ ?_ _); rotate_left; focus (first | omega | (simp <;> omega))) | with_reducible refine Ext.alloc ?_ _ | with_reducible refine Ext.drewN ?_ _ | with_reducible refine Ext.drew ?_ | with_reducible refine Ext.trans ?_ (by with_reducible assumption)))⟩
theorem absurd_lit_c (x : Int) (w : World) : Calls Try.prog 132 (#[.int .i64 x] ++ #[]) w fun e w' => e = .returned (.bool (x != 0)) ∧ w = w' := by
  go_enter Try.func132, Try.ntmps132
  go_wp2
  go_ret
  exact ⟨rfl, rfl⟩
theorem absurd_lit_enters : Enters Try.prog 132 := enters_of Try.func132 (by kernel_rfl) (by kernel_rfl)
set_option maxRecDepth 100000 in
theorem absurd_c (A : Option Addr) (n c : Nat) (bd : Int) (xs : List Int) (w : World) (h : Ints w A n xs) :
    Calls Try.prog 81 #[.agg #[.slice A n c, .int .i64 bd]] w fun e w' => e = .returned (.bool (decide (1 ≤ bd) && !xs.any (fun x => x != 0))) ∧ Ext w w' := by
  have HC := hide (fun W (E : Ext w W) => ContainsFunc_int_c 132 #[] (fun x => x != 0) A n c xs W (h.ext E) absurd_lit_enters (fun x wr _ _ => (absurd_lit_c x wr).mono (fun _ _ ⟨h1, h2⟩ => ⟨h1, h2 ▸ Ext.refl _⟩)))
  generalize xs.any (fun x => x != 0) = r at HC ⊢
  by_cases hb : 1 ≤ bd
  · go_enter Try.func81, Try.ntmps81
    go_wp2_with (go_at_call 119; (with_reducible refine (HC.out _ (by (repeat (first | with_reducible exact Ext.refl _ | with_reducible assumption | ((with_reducible refine Ext.setCell ?_ ?_ _); rotate_left; focus (first | omega | (simp <;> omega))) | with_reducible refine Ext.alloc ?_ _ | with_reducible refine Ext.drewN ?_ _ | with_reducible refine Ext.drew ?_ | with_reducible refine Ext.trans ?_ (by with_reducible assumption))))).mono ?_); rintro e1 w1 ⟨rfl, he1⟩)
    go_ret
    exact ⟨ret_bool (by rw [decide_eq_true hb]; rfl), by (repeat (first | with_reducible exact Ext.refl _ | with_reducible assumption | ((with_reducible refine Ext.setCell ?_ ?_ _); rotate_left; focus (first | omega | (simp <;> omega))) | with_reducible refine Ext.alloc ?_ _ | with_reducible refine Ext.drewN ?_ _ | with_reducible refine Ext.drew ?_ | with_reducible refine Ext.trans ?_ (by with_reducible assumption)))⟩
  · go_enter Try.func81, Try.ntmps81
    go_wp2_with fail
    go_ret
    exact ⟨ret_bool (by rw [decide_eq_false (by omega : ¬ 1 ≤ bd)]; rfl), by (repeat (first | with_reducible exact Ext.refl _ | with_reducible assumption | ((with_reducible refine Ext.setCell ?_ ?_ _); rotate_left; focus (first | omega | (simp <;> omega))) | with_reducible refine Ext.alloc ?_ _ | with_reducible refine Ext.drewN ?_ _ | with_reducible refine Ext.drew ?_ | with_reducible refine Ext.trans ?_ (by with_reducible assumption)))⟩
set_option maxRecDepth 100000 in
set_option maxHeartbeats 3200000 in
theorem l16Refutes_c (v : Int) (C : Option Addr) (nc dc : Nat) (cls : List (List Int)) (A : Option Addr) (n c : Nat) (ss : List Ps) (w : World) (h : Steps w A n ss) (hcl : Intss w C nc cls) :
    Calls Try.prog 80 #[.agg #[.int .i64 v, .slice C nc dc], .slice A n c] w fun e w' => e = .returned (.bool (refB v cls ss)) ∧ Ext w w' := by
  have HP := hide (fun W (E : Ext w W) => l16Good_c v C nc dc cls A n c ss W (h.ext E) (hcl.ext E))
  unfold refB
  cases hg : goodB v cls ss
  · rw [hg] at HP; clear hg
    go_enter Try.func80, Try.ntmps80
    go_wp2_with (go_at_call 78; (with_reducible refine (HP.out _ (by (repeat (first | with_reducible exact Ext.refl _ | with_reducible assumption | ((with_reducible refine Ext.setCell ?_ ?_ _); rotate_left; focus (first | omega | (simp <;> omega))) | with_reducible refine Ext.alloc ?_ _ | with_reducible refine Ext.drewN ?_ _ | with_reducible refine Ext.drew ?_ | with_reducible refine Ext.trans ?_ (by with_reducible assumption))))).mono ?_); rintro e1 w1 ⟨rfl, he1⟩)
    go_ret
    exact ⟨rfl, by (repeat (first | with_reducible exact Ext.refl _ | with_reducible assumption | ((with_reducible refine Ext.setCell ?_ ?_ _); rotate_left; focus (first | omega | (simp <;> omega))) | with_reducible refine Ext.alloc ?_ _ | with_reducible refine Ext.drewN ?_ _ | with_reducible refine Ext.drew ?_ | with_reducible refine Ext.trans ?_ (by with_reducible assumption)))⟩
  rw [hg] at HP
  obtain ⟨hc, h400, h0, hall⟩ := good_facts hg
  have hl := h.len
  have hok := hall (ss.length - 1) (by omega)
  rw [← hl] at hok ⊢
  obtain ⟨g, xs, m, B, e, bd, kd, a, b, q, rfl, hx, c0, hin, c1, -, -, -, -⟩ := h.at_ (show n - 1 < n by omega)
  have hD : ss.getD (n - 1) ps0 = (xs, bd, kd, a, b, q) := getD_of hx
  rw [hD] at hok ⊢
  obtain ⟨hv, hlen, hbd, hxs⟩ := ineq_facts (show ineqOk v bd xs = true from hok)
  obtain ⟨u, rfl⟩ := int_nat hv.1
  have hz := zero_rep hlen
  have hA : absB (xs, bd, kd, a, b, q) = (decide (1 ≤ bd) && decide (xs = List.replicate u 0)) := by unfold absB; rw [hz]
  rw [hA]
  have hm : u = m := by have := hin.len; omega
  have hn1 : n ≤ 400 := by omega
  have hn0 : 0 < n := by omega
  clear hA hz hD hx hok hall hc hg hxs h0 h400 hl hlen
  obtain ⟨j, rfl⟩ : ∃ j, n = j + 1 := ⟨n - 1, by omega⟩
  rw [show j + 1 - 1 = j by omega] at c0 c1
  have hw1 : IntKind.i64.wrap (((j + 1 : Nat) : Int) - 1) = (j : Int) := by rw [show (((j + 1 : Nat) : Int) - 1) = (j : Int) by omega]; exact IntWalk.i64_in _ (by omega)
  have hw2 : IntKind.i64.wrap ((j : Int) + 1 - 1) = (j : Int) := by rw [show ((j : Int) + 1 - 1) = (j : Int) by omega]; exact IntWalk.i64_in _ (by omega)
  have hmk := fun W => make_eq (P := Try.prog) 22 3 Try.underlying22 _ 8 info_int rfl u (by omega) (by omega) W
  have HS := hide (fun W (A3 : Option Addr) (m3 c3 : Nat) (E : Ext w W) (hf : Ints W A3 m3 (List.replicate u 0)) => l1Same_c B m e xs A3 m3 c3 (List.replicate u 0) W (hin.ext E) hf)
  generalize hF : decide (xs = List.replicate u 0) = r at HS ⊢
  clear hF hm
  by_cases hb : 1 ≤ bd
  · rw [decide_eq_true hb, Bool.true_and, Bool.true_and]
    go_enter Try.func80, Try.ntmps80
    go_wp2_with fail
    refine (HP.out _ (by (repeat (first | with_reducible exact Ext.refl _ | with_reducible assumption | ((with_reducible refine Ext.setCell ?_ ?_ _); rotate_left; focus (first | omega | (simp <;> omega))) | with_reducible refine Ext.alloc ?_ _ | with_reducible refine Ext.drewN ?_ _ | with_reducible refine Ext.drew ?_ | with_reducible refine Ext.trans ?_ (by with_reducible assumption))))).mono ?_
    rintro e1 w1 ⟨rfl, he1⟩
    have ew1 : Ext w w1 := Ext.trans (by (repeat (first | with_reducible exact Ext.refl _ | with_reducible assumption | ((with_reducible refine Ext.setCell ?_ ?_ _); rotate_left; focus (first | omega | (simp <;> omega))) | with_reducible refine Ext.alloc ?_ _ | with_reducible refine Ext.drewN ?_ _ | with_reducible refine Ext.drew ?_ | with_reducible refine Ext.trans ?_ (by with_reducible assumption)))) he1
    have z1 : w.heap.size < w1.heap.size := by have := he1.size; simp at this; omega
    have x0 := ew1.cell c0
    have x1 := ew1.cell c1
    have bc0 := he1.cell (p := ⟨w.heap.size, 0, none⟩) (u := .int .i64 u) (by first | simp [go_sem] | simp [go_sem, *]); have bf0 := he1.frozen (p := ⟨w.heap.size, 0, none⟩) (by first | omega | (simp <;> omega)) (by first | simp [go_sem] | simp [go_sem, *]); have bc1 := he1.cell (p := ⟨w.heap.size, 1, none⟩) (u := .slice C nc dc) (by first | simp [go_sem] | simp [go_sem, *]); have bf1 := he1.frozen (p := ⟨w.heap.size, 1, none⟩) (by first | omega | (simp <;> omega)) (by first | simp [go_sem] | simp [go_sem, *])
    obtain ⟨W2, hW2⟩ : ∃ W2, W2 = w1.alloc (.cells #[.slice B m e, .int .i64 bd] 26) := ⟨_, rfl⟩
    have hbx : BoxAt W2 w1.heap.size 26 #[.slice B m e, .int .i64 bd] := by rw [hW2]; exact BoxAt.made _ _ _
    have ew2 : Ext w W2 := by rw [hW2]; exact ew1.alloc _
    have eD := ew2.drew
    have d0 := (hbx.ext (Ext.refl W2).drew).cell 0 _ rfl
    have d1 := (hbx.ext (Ext.refl W2).drew).cell 1 _ rfl
    have k0 := hbx.cell 0 _ rfl
    have k1 := hbx.cell 1 _ rfl
    have k2 : W2.cell? ⟨w.heap.size, 0, none⟩ = some (.int .i64 u) := by rw [hW2]; exact ((Ext.refl _).alloc _).cell bc0
    have d2 := ((Ext.refl W2).drew).cell k2
    have hmade : Ints ((W2.alloc (.cells (madeCells #[.int .i64 0] u) 3)).drew) (some ⟨W2.heap.size, 0, none⟩) u (List.replicate u 0) := by
      have h3 := Own.made (base := W2.heap.size) (w := W2) (e := 3) (.int .i64 0) u (by simp) (by simp only [maxLen]; omega)
      have h4 : Own (W2.alloc (.cells (madeCells #[.int .i64 0] u) 3)) W2.heap.size 3 1 (some ⟨W2.heap.size, 0, none⟩) u u ((List.replicate u 0).map (Value.int .i64)) := by simpa using h3
      exact (h4.ints (by omega)).ext (Ext.refl _).drew
    go_wp2_with fail
    rw [← hW2]
    clear hW2
    refine wp_region_held_drew (S := (fun w' => w'.cell? ⟨w1.heap.size, 0, none⟩ = some (.slice B m e) ∧ w'.cell? ⟨w1.heap.size, 1, none⟩ = some (.int .i64 bd) ∧ w'.cell? ⟨w.heap.size, 0, none⟩ = some (.int .i64 u))) (by kernel_rfl) ?_ (fun hHeld => ?_)
    · ((try dsimp only); (refine ⟨?_, ?_, ?_⟩ <;> first | assumption | exact ((Ext.refl _).alloc _).cell (by assumption)))
    refine heldTake 0 (v := ?_) rfl (by kernel_rfl) (by kernel_rfl) (by kernel_rfl) (fun _ _ _ h => h) (Or.inl ⟨by rfl, ?_⟩) (by assumption) ?_
    rotate_left 1
    focus (intro wS hSw; (try dsimp only at hSw); go_simp; (try with_reducible rfl))
    (try simp only [Act.put, List.setIfInBounds_toArray, List.set_cons_zero, List.set_cons_succ])
    refine heldTake 1 (v := ?_) rfl (by kernel_rfl) (by kernel_rfl) (by kernel_rfl) (fun _ _ _ h => h) (Or.inl ⟨by rfl, ?_⟩) (by assumption) ?_
    rotate_left 1
    focus (intro wS hSw; (try dsimp only at hSw); go_simp; (try with_reducible rfl))
    (try simp only [Act.put, List.setIfInBounds_toArray, List.set_cons_zero, List.set_cons_succ])
    refine heldTake 2 (v := ?_) rfl (by kernel_rfl) (by kernel_rfl) (by kernel_rfl) (fun _ _ _ h => h) (Or.inl ⟨by rfl, ?_⟩) (by assumption) ?_
    rotate_left 1
    focus (intro wS hSw; (try dsimp only at hSw); go_simp; (try with_reducible rfl))
    (try simp only [Act.put, List.setIfInBounds_toArray, List.set_cons_zero, List.set_cons_succ])
    refine heldTake 3 (v := ?_) rfl (by kernel_rfl) (by kernel_rfl) (by kernel_rfl) (fun _ _ _ h => h) (Or.inl ⟨by rfl, ?_⟩) (by assumption) ?_
    rotate_left 1
    focus (intro wS hSw; (try dsimp only at hSw); go_simp; (try with_reducible rfl))
    (try simp only [Act.put, List.setIfInBounds_toArray, List.set_cons_zero, List.set_cons_succ])
    refine heldTake 4 (v := ?_) rfl (by kernel_rfl) (by kernel_rfl) (by kernel_rfl) (fun _ _ _ h => h) (Or.inl ⟨by rfl, ?_⟩) (by assumption) ?_
    rotate_left 1
    focus (intro wS hSw; (try dsimp only at hSw); go_simp; (try with_reducible rfl))
    (try simp only [Act.put, List.setIfInBounds_toArray, List.set_cons_zero, List.set_cons_succ])
    refine heldTake 5 (v := ?_) rfl (by kernel_rfl) (by kernel_rfl) (by kernel_rfl) (fun _ _ _ h => h) (Or.inl ⟨by rfl, ?_⟩) (by assumption) ?_
    rotate_left 1
    focus (intro wS hSw; (try dsimp only at hSw); go_simp; (try with_reducible rfl))
    (try simp only [Act.put, List.setIfInBounds_toArray, List.set_cons_zero, List.set_cons_succ])
    refine heldTake 6 (v := ?_) rfl (by kernel_rfl) (by kernel_rfl) (by kernel_rfl) (fun _ _ _ h => h) (Or.inl ⟨by rfl, ?_⟩) (by assumption) ?_
    rotate_left 1
    focus (intro wS hSw; (try dsimp only at hSw); go_simp; (try with_reducible rfl))
    (try simp only [Act.put, List.setIfInBounds_toArray, List.set_cons_zero, List.set_cons_succ])
    refine heldTake 7 (v := ?_) rfl (by kernel_rfl) (by kernel_rfl) (by kernel_rfl) (fun _ _ _ h => h) (Or.inl ⟨by rfl, ?_⟩) (by assumption) ?_
    rotate_left 1
    focus (intro wS hSw; (try dsimp only at hSw); go_simp; (try with_reducible rfl))
    (try simp only [Act.put, List.setIfInBounds_toArray, List.set_cons_zero, List.set_cons_succ])
    refine wpAnyH_ready (rs := [8]) (by kernel_rfl) (by simp) ?_
    refine heldStep 8 rfl (fun K hK => ?_) AllReadyH.nil
    rw [if_pos (by kernel_rfl)]
    go_simp
    refine hK.out _ _ ?_ (fun hHeld => ?_)
    · ((try dsimp only); (refine ⟨?_, ?_, ?_⟩ <;> first | assumption | exact ((Ext.refl _).alloc _).cell (by assumption)))
    clear hK K
    (try simp only [Act.put, List.setIfInBounds_toArray, List.set_cons_zero, List.set_cons_succ])
    refine wpAnyH_ready (rs := [9]) (by kernel_rfl) (by simp) ?_
    refine heldStep 9 rfl (fun K hK => ?_) AllReadyH.nil
    rw [if_pos (by kernel_rfl)]
    (go_wp2_with (go_at_call 131; (with_reducible refine (HS.out _ _ _ _ ((ew2.alloc _).drew) hmade).mono ?_); rintro e5 w5 ⟨rfl, he5⟩; have ew5 := ((ew2.alloc _).drew).trans he5; have y0 := he5.cell ((((Ext.refl W2).alloc _).drew).cell k0); have y1 := he5.cell ((((Ext.refl W2).alloc _).drew).cell k1); have y2 := he5.cell ((((Ext.refl W2).alloc _).drew).cell k2)))
    refine hK.out _ _ ?_ (fun hHeld => ?_)
    · ((try dsimp only); (refine ⟨?_, ?_, ?_⟩ <;> first | assumption | exact ((Ext.refl _).alloc _).cell (by assumption)))
    clear hK K
    (try simp only [Act.put, List.setIfInBounds_toArray, List.set_cons_zero, List.set_cons_succ])
    refine heldTake 10 (v := ?_) rfl (by kernel_rfl) (by kernel_rfl) (by kernel_rfl) (fun _ _ _ h => h) (Or.inl ⟨by rfl, ?_⟩) (by assumption) ?_
    rotate_left 1
    focus (intro wS hSw; (try dsimp only at hSw); go_simp; (try with_reducible rfl))
    (try simp only [Act.put, List.setIfInBounds_toArray, List.set_cons_zero, List.set_cons_succ])
    refine heldTake 11 (v := ?_) rfl (by kernel_rfl) (by kernel_rfl) (by kernel_rfl) (fun _ _ _ h => h) (Or.inl ⟨by rfl, ?_⟩) (by assumption) ?_
    rotate_left 1
    focus (intro wS hSw; (try dsimp only at hSw); go_simp; (try with_reducible rfl))
    (try simp only [Act.put, List.setIfInBounds_toArray, List.set_cons_zero, List.set_cons_succ])
    refine wpAnyH_done (by kernel_rfl) ?_ _
    go_wp2_with fail
    go_ret
    exact ⟨rfl, ew5⟩
  · rw [decide_eq_false hb, Bool.false_and, Bool.true_and]
    have hb1 : decide (1 ≤ bd) = false := decide_eq_false hb
    go_enter Try.func80, Try.ntmps80
    go_wp2_with fail
    refine (HP.out _ (by (repeat (first | with_reducible exact Ext.refl _ | with_reducible assumption | ((with_reducible refine Ext.setCell ?_ ?_ _); rotate_left; focus (first | omega | (simp <;> omega))) | with_reducible refine Ext.alloc ?_ _ | with_reducible refine Ext.drewN ?_ _ | with_reducible refine Ext.drew ?_ | with_reducible refine Ext.trans ?_ (by with_reducible assumption))))).mono ?_
    rintro e1 w1 ⟨rfl, he1⟩
    have ew1 : Ext w w1 := Ext.trans (by (repeat (first | with_reducible exact Ext.refl _ | with_reducible assumption | ((with_reducible refine Ext.setCell ?_ ?_ _); rotate_left; focus (first | omega | (simp <;> omega))) | with_reducible refine Ext.alloc ?_ _ | with_reducible refine Ext.drewN ?_ _ | with_reducible refine Ext.drew ?_ | with_reducible refine Ext.trans ?_ (by with_reducible assumption)))) he1
    have z1 : w.heap.size < w1.heap.size := by have := he1.size; simp at this; omega
    have x0 := ew1.cell c0
    have x1 := ew1.cell c1
    obtain ⟨W2, hW2⟩ : ∃ W2, W2 = w1.alloc (.cells #[.slice B m e, .int .i64 bd] 26) := ⟨_, rfl⟩
    have hbx : BoxAt W2 w1.heap.size 26 #[.slice B m e, .int .i64 bd] := by rw [hW2]; exact BoxAt.made _ _ _
    have ew2 : Ext w W2 := by rw [hW2]; exact ew1.alloc _
    have eD := ew2.drew
    have d1 := (hbx.ext (Ext.refl W2).drew).cell 1 _ rfl
    go_wp2_with fail
    rw [← hW2]
    clear hW2
    refine wp_region_held_drew (S := (fun w' => w'.cell? ⟨w1.heap.size, 1, none⟩ = some (.int .i64 bd))) (by kernel_rfl) ?_ (fun hHeld => ?_)
    · ((try dsimp only); assumption)
    refine heldTake 0 (v := ?_) rfl (by kernel_rfl) (by kernel_rfl) (by kernel_rfl) (fun _ _ _ h => h) (Or.inl ⟨by rfl, ?_⟩) (by assumption) ?_
    rotate_left 1
    focus (intro wS hSw; (try dsimp only at hSw); go_simp; (try with_reducible rfl))
    (try simp only [Act.put, List.setIfInBounds_toArray, List.set_cons_zero, List.set_cons_succ])
    refine heldTake 1 (v := ?_) rfl (by kernel_rfl) (by kernel_rfl) (by kernel_rfl) (fun _ _ _ h => h) (Or.inl ⟨by rfl, ?_⟩) (by assumption) ?_
    rotate_left 1
    focus (intro wS hSw; (try dsimp only at hSw); go_simp; (try with_reducible rfl))
    (try simp only [Act.put, List.setIfInBounds_toArray, List.set_cons_zero, List.set_cons_succ])
    refine heldTake 2 (v := ?_) rfl (by kernel_rfl) (by kernel_rfl) (by kernel_rfl) (fun _ _ _ h => h) (Or.inl ⟨by rfl, ?_⟩) (by assumption) ?_
    rotate_left 1
    focus (intro wS hSw; (try dsimp only at hSw); go_simp; (try with_reducible rfl))
    (try simp only [Act.put, List.setIfInBounds_toArray, List.set_cons_zero, List.set_cons_succ])
    refine heldTake 3 (v := ?_) rfl (by kernel_rfl) (by kernel_rfl) (by kernel_rfl) (fun _ _ _ h => h) (Or.inl ⟨by rfl, ?_⟩) (by assumption) ?_
    rotate_left 1
    focus (intro wS hSw; (try dsimp only at hSw); go_simp; (try with_reducible rfl))
    (try simp only [Act.put, List.setIfInBounds_toArray, List.set_cons_zero, List.set_cons_succ])
    refine heldTake 4 (v := undef) rfl (by kernel_rfl) (by kernel_rfl) (by kernel_rfl) (fun _ _ _ h => h) (Or.inr ⟨by rfl, rfl⟩) (by assumption) ?_
    (try simp only [Act.put, List.setIfInBounds_toArray, List.set_cons_zero, List.set_cons_succ])
    refine heldTake 5 (v := undef) rfl (by kernel_rfl) (by kernel_rfl) (by kernel_rfl) (fun _ _ _ h => h) (Or.inr ⟨by rfl, rfl⟩) (by assumption) ?_
    (try simp only [Act.put, List.setIfInBounds_toArray, List.set_cons_zero, List.set_cons_succ])
    refine heldTake 6 (v := undef) rfl (by kernel_rfl) (by kernel_rfl) (by kernel_rfl) (fun _ _ _ h => h) (Or.inr ⟨by rfl, rfl⟩) (by assumption) ?_
    (try simp only [Act.put, List.setIfInBounds_toArray, List.set_cons_zero, List.set_cons_succ])
    refine heldTake 7 (v := undef) rfl (by kernel_rfl) (by kernel_rfl) (by kernel_rfl) (fun _ _ _ h => h) (Or.inr ⟨by rfl, rfl⟩) (by assumption) ?_
    (try simp only [Act.put, List.setIfInBounds_toArray, List.set_cons_zero, List.set_cons_succ])
    refine heldTake 8 (v := undef) rfl (by kernel_rfl) (by kernel_rfl) (by kernel_rfl) (fun _ _ _ h => h) (Or.inr ⟨by rfl, rfl⟩) (by assumption) ?_
    (try simp only [Act.put, List.setIfInBounds_toArray, List.set_cons_zero, List.set_cons_succ])
    refine heldTake 9 (v := undef) rfl (by kernel_rfl) (by kernel_rfl) (by kernel_rfl) (fun _ _ _ h => h) (Or.inr ⟨by rfl, rfl⟩) (by assumption) ?_
    (try simp only [Act.put, List.setIfInBounds_toArray, List.set_cons_zero, List.set_cons_succ])
    refine heldTake 10 (v := ?_) rfl (by kernel_rfl) (by kernel_rfl) (by kernel_rfl) (fun _ _ _ h => h) (Or.inl ⟨by rfl, ?_⟩) (by assumption) ?_
    rotate_left 1
    focus (intro wS hSw; (try dsimp only at hSw); go_simp; (try with_reducible rfl))
    (try simp only [Act.put, List.setIfInBounds_toArray, List.set_cons_zero, List.set_cons_succ])
    refine heldTake 11 (v := ?_) rfl (by kernel_rfl) (by kernel_rfl) (by kernel_rfl) (fun _ _ _ h => h) (Or.inl ⟨by rfl, ?_⟩) (by assumption) ?_
    rotate_left 1
    focus (intro wS hSw; (try dsimp only at hSw); go_simp; (try with_reducible rfl))
    (try simp only [Act.put, List.setIfInBounds_toArray, List.set_cons_zero, List.set_cons_succ])
    refine wpAnyH_done (by kernel_rfl) ?_ _
    go_wp2_with fail
    go_ret
    exact ⟨rfl, eD⟩
set_option maxRecDepth 100000 in
theorem spec_IsPlaneRefutation_l (v : Int) (C : Option Addr) (nc dc : Nat) (cls : List (List Int)) (A : Option Addr) (n c : Nat) (ss : List Ps) (w : World) (h : Steps w A n ss) (hcl : Intss w C nc cls) :
    Calls Try.prog 34 #[.agg #[.int .i64 v, .slice C nc dc], .slice A n c] w fun e w' => e = .returned (.tuple #[.bool (refB v cls ss), .bool (takesB v cls ss.length)]) ∧ Ext w w' := by
  have hb := h.bound
  have HT := hide (fun W (E : Ext w W) => l16Takes_c v C nc dc cls A n c ss W (h.ext E) (hcl.ext E))
  have HO := hide (fun W (E : Ext w W) => l16Refutes_c v C nc dc cls A n c ss W (h.ext E) (hcl.ext E))
  rw [← h.len]
  cases hq : takesB v cls n
  · rw [hq] at HT
    have hz : refB v cls ss = false := by unfold refB goodB; rw [← h.len, hq]; rfl
    rw [hz]; clear hq hz HO
    go_enter Try.func34, Try.ntmps34
    go_wp2_with (go_at_call 68; (with_reducible refine (HT.out _ (by (repeat (first | with_reducible exact Ext.refl _ | with_reducible assumption | ((with_reducible refine Ext.setCell ?_ ?_ _); rotate_left; focus (first | omega | (simp <;> omega))) | with_reducible refine Ext.alloc ?_ _ | with_reducible refine Ext.drewN ?_ _ | with_reducible refine Ext.drew ?_ | with_reducible refine Ext.trans ?_ (by with_reducible assumption))))).mono ?_); rintro e1 w1 ⟨rfl, he1⟩)
    go_ret2
    exact ⟨rfl, by (repeat (first | with_reducible exact Ext.refl _ | with_reducible assumption | ((with_reducible refine Ext.setCell ?_ ?_ _); rotate_left; focus (first | omega | (simp <;> omega))) | with_reducible refine Ext.alloc ?_ _ | with_reducible refine Ext.drewN ?_ _ | with_reducible refine Ext.drew ?_ | with_reducible refine Ext.trans ?_ (by with_reducible assumption)))⟩
  · rw [hq] at HT; clear hq
    generalize refB v cls ss = r at HO ⊢
    go_enter Try.func34, Try.ntmps34
    go_wp2_with (first | (go_at_call 68; (with_reducible refine (HT.out _ (by (repeat (first | with_reducible exact Ext.refl _ | with_reducible assumption | ((with_reducible refine Ext.setCell ?_ ?_ _); rotate_left; focus (first | omega | (simp <;> omega))) | with_reducible refine Ext.alloc ?_ _ | with_reducible refine Ext.drewN ?_ _ | with_reducible refine Ext.drew ?_ | with_reducible refine Ext.trans ?_ (by with_reducible assumption))))).mono ?_); rintro e1 w1 ⟨rfl, he1⟩; have bc2 := he1.cell (p := ⟨w.heap.size, 0, none⟩) (u := .int .i64 v) (by first | simp [go_sem] | simp [go_sem, *]); have bf2 := he1.frozen (p := ⟨w.heap.size, 0, none⟩) (by first | omega | (simp <;> omega)) (by first | simp [go_sem] | simp [go_sem, *]); have bc3 := he1.cell (p := ⟨w.heap.size, 1, none⟩) (u := .slice C nc dc) (by first | simp [go_sem] | simp [go_sem, *]); have bf3 := he1.frozen (p := ⟨w.heap.size, 1, none⟩) (by first | omega | (simp <;> omega)) (by first | simp [go_sem] | simp [go_sem, *])) | (go_at_call 80; (with_reducible refine (HO.out _ (by (repeat (first | with_reducible exact Ext.refl _ | with_reducible assumption | ((with_reducible refine Ext.setCell ?_ ?_ _); rotate_left; focus (first | omega | (simp <;> omega))) | with_reducible refine Ext.alloc ?_ _ | with_reducible refine Ext.drewN ?_ _ | with_reducible refine Ext.drew ?_ | with_reducible refine Ext.trans ?_ (by with_reducible assumption))))).mono ?_); rintro e2 w2 ⟨rfl, he2⟩))
    go_ret2
    exact ⟨rfl, by (repeat (first | with_reducible exact Ext.refl _ | with_reducible assumption | ((with_reducible refine Ext.setCell ?_ ?_ _); rotate_left; focus (first | omega | (simp <;> omega))) | with_reducible refine Ext.alloc ?_ _ | with_reducible refine Ext.drewN ?_ _ | with_reducible refine Ext.drew ?_ | with_reducible refine Ext.trans ?_ (by with_reducible assumption)))⟩
set_option maxRecDepth 100000 in
set_option maxHeartbeats 3200000 in
theorem impl_IsPlaneRefutation_l (v : Int) (C : Option Addr) (nc dc : Nat) (cls : List (List Int)) (A : Option Addr) (n c : Nat) (ss : List Ps) (w : World) (h : Steps w A n ss) (hcl : Intss w C nc cls) :
    Calls Try.prog 35 #[.agg #[.int .i64 v, .slice C nc dc], .slice A n c] w fun e w' => e = .returned (.tuple #[.bool (refB v cls ss), .bool (takesB v cls ss.length)]) ∧ Ext w w' := by
  have hb := h.bound
  have HP := hide (fun W (E : Ext w W) => planeProof_c v C nc dc cls A n c ss W (h.ext E) (hcl.ext E))
  have HG := hide (fun W (E : Ext w W) => IsCnf_c v C nc dc cls W (hcl.ext E))
  have hl := h.len
  obtain ⟨W1, hW1⟩ : ∃ W1, W1 = w.alloc (.cells #[.int .i64 v, .slice C nc dc] 41) := ⟨_, rfl⟩
  have hbx : BoxAt W1 w.heap.size 41 #[.int .i64 v, .slice C nc dc] := by rw [hW1]; exact BoxAt.made _ _ _
  have ew : Ext w W1 := by rw [hW1]; exact (Ext.refl _).alloc _
  have eD := ew.drew
  have d0 := (hbx.ext (Ext.refl W1).drew).cell 0 _ rfl
  have d1 := (hbx.ext (Ext.refl W1).drew).cell 1 _ rfl
  unfold refB
  cases hg : goodB v cls ss
  · rw [hg] at HP; clear hg
    rw [← hl]
    unfold takesB
    clear hl
    cases hc : cnfOk v cls
    · rw [hc] at HG; clear hc
      go_enter Try.func35, Try.ntmps35
      go_wp2_with fail
      rw [← hW1]
      clear hW1
      refine wp_region_held_drew (S := (fun w' => w'.cell? ⟨w.heap.size, 0, none⟩ = some (.int .i64 v) ∧ w'.cell? ⟨w.heap.size, 1, none⟩ = some (.slice C nc dc))) (by kernel_rfl) ?_ (fun hHeld => ?_)
      · ((try dsimp only); (refine ⟨?_, ?_⟩ <;> assumption))
      refine heldTake 0 (v := ?_) rfl (by kernel_rfl) (by kernel_rfl) (by kernel_rfl) (fun _ _ _ h => h) (Or.inl ⟨by rfl, ?_⟩) (by assumption) ?_
      rotate_left 1
      focus (intro wS hSw; (try dsimp only at hSw); go_simp; (try with_reducible rfl))
      (try simp only [Act.put, List.setIfInBounds_toArray, List.set_cons_zero, List.set_cons_succ])
      refine heldTake 1 (v := ?_) rfl (by kernel_rfl) (by kernel_rfl) (by kernel_rfl) (fun _ _ _ h => h) (Or.inl ⟨by rfl, ?_⟩) (by assumption) ?_
      rotate_left 1
      focus (intro wS hSw; (try dsimp only at hSw); go_simp; (try with_reducible rfl))
      (try simp only [Act.put, List.setIfInBounds_toArray, List.set_cons_zero, List.set_cons_succ])
      refine heldTake 9 (v := ?_) rfl (by kernel_rfl) (by kernel_rfl) (by kernel_rfl) (fun _ _ _ h => h) (Or.inl ⟨by rfl, ?_⟩) (by assumption) ?_
      rotate_left 1
      focus (intro wS hSw; (try dsimp only at hSw); go_simp; (try with_reducible rfl))
      (try simp only [Act.put, List.setIfInBounds_toArray, List.set_cons_zero, List.set_cons_succ])
      refine wpAnyH_ready (rs := [2]) (by kernel_rfl) (by simp) ?_
      refine heldStep 2 rfl (fun K hK => ?_) AllReadyH.nil
      (go_wp2_with (first | (go_at_call 79; (with_reducible refine (HP.out _ eD).mono ?_); rintro e2 w2 ⟨rfl, he2⟩; have ew2 := eD.trans he2; have y0 := he2.cell d0; have y1 := he2.cell d1) | (go_at_call 72; (with_reducible refine (HG.out _ ew2).mono ?_); rintro e3 w3 ⟨rfl, he3⟩; have ew3 := ew2.trans he3; have x0 := he3.cell y0; have x1 := he3.cell y1)))
      refine hK.out _ _ ?_ (fun hHeld => ?_)
      · ((try dsimp only); (refine ⟨?_, ?_⟩ <;> assumption))
      clear hK K
      (try simp only [Act.put, List.setIfInBounds_toArray, List.set_cons_zero, List.set_cons_succ])
      refine heldTake 3 (v := ?_) rfl (by kernel_rfl) (by kernel_rfl) (by kernel_rfl) (fun _ _ _ h => h) (Or.inl ⟨by rfl, ?_⟩) (by assumption) ?_
      rotate_left 1
      focus (intro wS hSw; (try dsimp only at hSw); go_simp; (try with_reducible rfl))
      (try simp only [Act.put, List.setIfInBounds_toArray, List.set_cons_zero, List.set_cons_succ])
      refine heldTake 4 (v := undef) rfl (by kernel_rfl) (by kernel_rfl) (by kernel_rfl) (fun _ _ _ h => h) (Or.inr ⟨by rfl, rfl⟩) (by assumption) ?_
      (try simp only [Act.put, List.setIfInBounds_toArray, List.set_cons_zero, List.set_cons_succ])
      refine heldTake 5 (v := undef) rfl (by kernel_rfl) (by kernel_rfl) (by kernel_rfl) (fun _ _ _ h => h) (Or.inr ⟨by rfl, rfl⟩) (by assumption) ?_
      (try simp only [Act.put, List.setIfInBounds_toArray, List.set_cons_zero, List.set_cons_succ])
      refine heldTake 6 (v := undef) rfl (by kernel_rfl) (by kernel_rfl) (by kernel_rfl) (fun _ _ _ h => h) (Or.inr ⟨by rfl, rfl⟩) (by assumption) ?_
      (try simp only [Act.put, List.setIfInBounds_toArray, List.set_cons_zero, List.set_cons_succ])
      refine heldTake 7 (v := undef) rfl (by kernel_rfl) (by kernel_rfl) (by kernel_rfl) (fun _ _ _ h => h) (Or.inr ⟨by rfl, rfl⟩) (by assumption) ?_
      (try simp only [Act.put, List.setIfInBounds_toArray, List.set_cons_zero, List.set_cons_succ])
      refine heldTake 8 (v := ?_) rfl (by kernel_rfl) (by kernel_rfl) (by kernel_rfl) (fun _ _ _ h => h) (Or.inl ⟨by rfl, ?_⟩) (by assumption) ?_
      rotate_left 1
      focus (intro wS hSw; (try dsimp only at hSw); go_simp; (try with_reducible rfl))
      (try simp only [Act.put, List.setIfInBounds_toArray, List.set_cons_zero, List.set_cons_succ])
      refine wpAnyH_ready (rs := [10]) (by kernel_rfl) (by simp) ?_
      refine heldStep 10 rfl (fun K hK => ?_) AllReadyH.nil
      (go_wp2_with (first | (go_at_call 79; (with_reducible refine (HP.out _ eD).mono ?_); rintro e2 w2 ⟨rfl, he2⟩; have ew2 := eD.trans he2; have y0 := he2.cell d0; have y1 := he2.cell d1) | (go_at_call 72; (with_reducible refine (HG.out _ ew2).mono ?_); rintro e3 w3 ⟨rfl, he3⟩; have ew3 := ew2.trans he3; have x0 := he3.cell y0; have x1 := he3.cell y1)))
      refine hK.out _ _ ?_ (fun hHeld => ?_)
      · ((try dsimp only); (refine ⟨?_, ?_⟩ <;> assumption))
      clear hK K
      (try simp only [Act.put, List.setIfInBounds_toArray, List.set_cons_zero, List.set_cons_succ])
      refine heldTake 11 (v := ?_) rfl (by kernel_rfl) (by kernel_rfl) (by kernel_rfl) (fun _ _ _ h => h) (Or.inl ⟨by rfl, ?_⟩) (by assumption) ?_
      rotate_left 1
      focus (intro wS hSw; (try dsimp only at hSw); go_simp; (try with_reducible rfl))
      (try simp only [Act.put, List.setIfInBounds_toArray, List.set_cons_zero, List.set_cons_succ])
      refine heldTake 12 (v := undef) rfl (by kernel_rfl) (by kernel_rfl) (by kernel_rfl) (fun _ _ _ h => h) (Or.inr ⟨by rfl, rfl⟩) (by assumption) ?_
      (try simp only [Act.put, List.setIfInBounds_toArray, List.set_cons_zero, List.set_cons_succ])
      refine heldTake 13 (v := undef) rfl (by kernel_rfl) (by kernel_rfl) (by kernel_rfl) (fun _ _ _ h => h) (Or.inr ⟨by rfl, rfl⟩) (by assumption) ?_
      (try simp only [Act.put, List.setIfInBounds_toArray, List.set_cons_zero, List.set_cons_succ])
      refine heldTake 14 (v := undef) rfl (by kernel_rfl) (by kernel_rfl) (by kernel_rfl) (fun _ _ _ h => h) (Or.inr ⟨by rfl, rfl⟩) (by assumption) ?_
      (try simp only [Act.put, List.setIfInBounds_toArray, List.set_cons_zero, List.set_cons_succ])
      refine heldTake 15 (v := ?_) rfl (by kernel_rfl) (by kernel_rfl) (by kernel_rfl) (fun _ _ _ h => h) (Or.inl ⟨by rfl, ?_⟩) (by assumption) ?_
      rotate_left 1
      focus (intro wS hSw; (try dsimp only at hSw); go_simp; (try with_reducible rfl))
      (try simp only [Act.put, List.setIfInBounds_toArray, List.set_cons_zero, List.set_cons_succ])
      refine heldTake 16 (v := ?_) rfl (by kernel_rfl) (by kernel_rfl) (by kernel_rfl) (fun _ _ _ h => h) (Or.inl ⟨by rfl, ?_⟩) (by assumption) ?_
      rotate_left 1
      focus (intro wS hSw; (try dsimp only at hSw); go_simp; (try with_reducible rfl))
      (try simp only [Act.put, List.setIfInBounds_toArray, List.set_cons_zero, List.set_cons_succ])
      refine heldTake 17 (v := ?_) rfl (by kernel_rfl) (by kernel_rfl) (by kernel_rfl) (fun _ _ _ h => h) (Or.inl ⟨by rfl, ?_⟩) (by assumption) ?_
      rotate_left 1
      focus (intro wS hSw; (try dsimp only at hSw); go_simp; (try with_reducible rfl))
      (try simp only [Act.put, List.setIfInBounds_toArray, List.set_cons_zero, List.set_cons_succ])
      refine wpAnyH_done (by kernel_rfl) ?_ _
      go_wp2_with fail
      go_ret2
      exact ⟨rfl, ew3⟩
    · rw [hc] at HG; clear hc
      go_enter Try.func35, Try.ntmps35
      go_wp2_with fail
      rw [← hW1]
      clear hW1
      refine wp_region_held_drew (S := (fun w' => w'.cell? ⟨w.heap.size, 0, none⟩ = some (.int .i64 v) ∧ w'.cell? ⟨w.heap.size, 1, none⟩ = some (.slice C nc dc))) (by kernel_rfl) ?_ (fun hHeld => ?_)
      · ((try dsimp only); (refine ⟨?_, ?_⟩ <;> assumption))
      refine heldTake 0 (v := ?_) rfl (by kernel_rfl) (by kernel_rfl) (by kernel_rfl) (fun _ _ _ h => h) (Or.inl ⟨by rfl, ?_⟩) (by assumption) ?_
      rotate_left 1
      focus (intro wS hSw; (try dsimp only at hSw); go_simp; (try with_reducible rfl))
      (try simp only [Act.put, List.setIfInBounds_toArray, List.set_cons_zero, List.set_cons_succ])
      refine heldTake 1 (v := ?_) rfl (by kernel_rfl) (by kernel_rfl) (by kernel_rfl) (fun _ _ _ h => h) (Or.inl ⟨by rfl, ?_⟩) (by assumption) ?_
      rotate_left 1
      focus (intro wS hSw; (try dsimp only at hSw); go_simp; (try with_reducible rfl))
      (try simp only [Act.put, List.setIfInBounds_toArray, List.set_cons_zero, List.set_cons_succ])
      refine heldTake 9 (v := ?_) rfl (by kernel_rfl) (by kernel_rfl) (by kernel_rfl) (fun _ _ _ h => h) (Or.inl ⟨by rfl, ?_⟩) (by assumption) ?_
      rotate_left 1
      focus (intro wS hSw; (try dsimp only at hSw); go_simp; (try with_reducible rfl))
      (try simp only [Act.put, List.setIfInBounds_toArray, List.set_cons_zero, List.set_cons_succ])
      refine wpAnyH_ready (rs := [2]) (by kernel_rfl) (by simp) ?_
      refine heldStep 2 rfl (fun K hK => ?_) AllReadyH.nil
      (go_wp2_with (first | (go_at_call 79; (with_reducible refine (HP.out _ eD).mono ?_); rintro e2 w2 ⟨rfl, he2⟩; have ew2 := eD.trans he2; have y0 := he2.cell d0; have y1 := he2.cell d1) | (go_at_call 72; (with_reducible refine (HG.out _ ew2).mono ?_); rintro e3 w3 ⟨rfl, he3⟩; have ew3 := ew2.trans he3; have x0 := he3.cell y0; have x1 := he3.cell y1)))
      refine hK.out _ _ ?_ (fun hHeld => ?_)
      · ((try dsimp only); (refine ⟨?_, ?_⟩ <;> assumption))
      clear hK K
      (try simp only [Act.put, List.setIfInBounds_toArray, List.set_cons_zero, List.set_cons_succ])
      refine heldTake 3 (v := ?_) rfl (by kernel_rfl) (by kernel_rfl) (by kernel_rfl) (fun _ _ _ h => h) (Or.inl ⟨by rfl, ?_⟩) (by assumption) ?_
      rotate_left 1
      focus (intro wS hSw; (try dsimp only at hSw); go_simp; (try with_reducible rfl))
      (try simp only [Act.put, List.setIfInBounds_toArray, List.set_cons_zero, List.set_cons_succ])
      refine heldTake 4 (v := undef) rfl (by kernel_rfl) (by kernel_rfl) (by kernel_rfl) (fun _ _ _ h => h) (Or.inr ⟨by rfl, rfl⟩) (by assumption) ?_
      (try simp only [Act.put, List.setIfInBounds_toArray, List.set_cons_zero, List.set_cons_succ])
      refine heldTake 5 (v := undef) rfl (by kernel_rfl) (by kernel_rfl) (by kernel_rfl) (fun _ _ _ h => h) (Or.inr ⟨by rfl, rfl⟩) (by assumption) ?_
      (try simp only [Act.put, List.setIfInBounds_toArray, List.set_cons_zero, List.set_cons_succ])
      refine heldTake 6 (v := undef) rfl (by kernel_rfl) (by kernel_rfl) (by kernel_rfl) (fun _ _ _ h => h) (Or.inr ⟨by rfl, rfl⟩) (by assumption) ?_
      (try simp only [Act.put, List.setIfInBounds_toArray, List.set_cons_zero, List.set_cons_succ])
      refine heldTake 7 (v := undef) rfl (by kernel_rfl) (by kernel_rfl) (by kernel_rfl) (fun _ _ _ h => h) (Or.inr ⟨by rfl, rfl⟩) (by assumption) ?_
      (try simp only [Act.put, List.setIfInBounds_toArray, List.set_cons_zero, List.set_cons_succ])
      refine heldTake 8 (v := ?_) rfl (by kernel_rfl) (by kernel_rfl) (by kernel_rfl) (fun _ _ _ h => h) (Or.inl ⟨by rfl, ?_⟩) (by assumption) ?_
      rotate_left 1
      focus (intro wS hSw; (try dsimp only at hSw); go_simp; (try with_reducible rfl))
      (try simp only [Act.put, List.setIfInBounds_toArray, List.set_cons_zero, List.set_cons_succ])
      refine wpAnyH_ready (rs := [10]) (by kernel_rfl) (by simp) ?_
      refine heldStep 10 rfl (fun K hK => ?_) AllReadyH.nil
      (go_wp2_with (first | (go_at_call 79; (with_reducible refine (HP.out _ eD).mono ?_); rintro e2 w2 ⟨rfl, he2⟩; have ew2 := eD.trans he2; have y0 := he2.cell d0; have y1 := he2.cell d1) | (go_at_call 72; (with_reducible refine (HG.out _ ew2).mono ?_); rintro e3 w3 ⟨rfl, he3⟩; have ew3 := ew2.trans he3; have x0 := he3.cell y0; have x1 := he3.cell y1)))
      refine hK.out _ _ ?_ (fun hHeld => ?_)
      · ((try dsimp only); (refine ⟨?_, ?_⟩ <;> assumption))
      clear hK K
      (try simp only [Act.put, List.setIfInBounds_toArray, List.set_cons_zero, List.set_cons_succ])
      refine heldTake 11 (v := ?_) rfl (by kernel_rfl) (by kernel_rfl) (by kernel_rfl) (fun _ _ _ h => h) (Or.inl ⟨by rfl, ?_⟩) (by assumption) ?_
      rotate_left 1
      focus (intro wS hSw; (try dsimp only at hSw); go_simp; (try with_reducible rfl))
      (try simp only [Act.put, List.setIfInBounds_toArray, List.set_cons_zero, List.set_cons_succ])
      refine heldTake 12 (v := ?_) rfl (by kernel_rfl) (by kernel_rfl) (by kernel_rfl) (fun _ _ _ h => h) (Or.inl ⟨by rfl, ?_⟩) (by assumption) ?_
      rotate_left 1
      focus (intro wS hSw; (try dsimp only at hSw); go_simp; (try with_reducible rfl))
      (try simp only [Act.put, List.setIfInBounds_toArray, List.set_cons_zero, List.set_cons_succ])
      refine heldTake 13 (v := ?_) rfl (by kernel_rfl) (by kernel_rfl) (by kernel_rfl) (fun _ _ _ h => h) (Or.inl ⟨by rfl, ?_⟩) (by assumption) ?_
      rotate_left 1
      focus (intro wS hSw; (try dsimp only at hSw); go_simp; (try with_reducible rfl))
      (try simp only [Act.put, List.setIfInBounds_toArray, List.set_cons_zero, List.set_cons_succ])
      refine heldTake 14 (v := ?_) rfl (by kernel_rfl) (by kernel_rfl) (by kernel_rfl) (fun _ _ _ h => h) (Or.inl ⟨by rfl, ?_⟩) (by assumption) ?_
      rotate_left 1
      focus (intro wS hSw; (try dsimp only at hSw); go_simp; (try with_reducible rfl))
      (try simp only [Act.put, List.setIfInBounds_toArray, List.set_cons_zero, List.set_cons_succ])
      refine heldTake 15 (v := ?_) rfl (by kernel_rfl) (by kernel_rfl) (by kernel_rfl) (fun _ _ _ h => h) (Or.inl ⟨by rfl, ?_⟩) (by assumption) ?_
      rotate_left 1
      focus (intro wS hSw; (try dsimp only at hSw); go_simp; (try with_reducible rfl))
      (try simp only [Act.put, List.setIfInBounds_toArray, List.set_cons_zero, List.set_cons_succ])
      refine heldTake 16 (v := ?_) rfl (by kernel_rfl) (by kernel_rfl) (by kernel_rfl) (fun _ _ _ h => h) (Or.inl ⟨by rfl, ?_⟩) (by assumption) ?_
      rotate_left 1
      focus (intro wS hSw; (try dsimp only at hSw); go_simp; (try with_reducible rfl))
      (try simp only [Act.put, List.setIfInBounds_toArray, List.set_cons_zero, List.set_cons_succ])
      refine heldTake 17 (v := ?_) rfl (by kernel_rfl) (by kernel_rfl) (by kernel_rfl) (fun _ _ _ h => h) (Or.inl ⟨by rfl, ?_⟩) (by assumption) ?_
      rotate_left 1
      focus (intro wS hSw; (try dsimp only at hSw); go_simp; (try with_reducible rfl))
      (try simp only [Act.put, List.setIfInBounds_toArray, List.set_cons_zero, List.set_cons_succ])
      refine wpAnyH_done (by kernel_rfl) ?_ _
      go_wp2_with fail
      go_ret2
      exact ⟨by simp; omega, ew3⟩
  · rw [hg] at HP
    obtain ⟨hc, h400, h0, -⟩ := good_facts hg
    have htk : takesB v cls ss.length = true := (and2_true hg).1
    rw [htk]
    rw [hc] at HG
    have HL := hide (fun W (E : Ext w W) => lastStep_c A n c ss W (h.ext E) (by omega))
    have hn1 : n ≤ 400 := by omega
    obtain ⟨st, hst⟩ : ∃ st, st = ss.getD (ss.length - 1) ps0 := ⟨_, rfl⟩
    rw [← hst] at HL ⊢
    obtain ⟨xs, bd, kd, a, b, q⟩ := st
    have HA := hide (fun (B : Option Addr) (m d : Nat) W (hi : Ints W B m xs) => absurd_c B m d bd xs W hi)
    have hAb : absB (xs, bd, kd, a, b, q) = (decide (1 ≤ bd) && !xs.any (fun x => x != 0)) := rfl
    rw [hAb, Bool.true_and]
    generalize (decide (1 ≤ bd) && !xs.any (fun x => x != 0)) = r at HA ⊢
    simp only [psV] at HL
    have hfd := fun (B : Option Addr) (m d : Nat) (W : World) => field_step B m d bd kd a b q W
    clear hst hAb hg hc htk h400 h0 hl
    go_enter Try.func35, Try.ntmps35
    go_wp2_with fail
    rw [← hW1]
    clear hW1
    refine wp_region_held_drew (S := (fun w' => w'.cell? ⟨w.heap.size, 0, none⟩ = some (.int .i64 v) ∧ w'.cell? ⟨w.heap.size, 1, none⟩ = some (.slice C nc dc))) (by kernel_rfl) ?_ (fun hHeld => ?_)
    · ((try dsimp only); (refine ⟨?_, ?_⟩ <;> assumption))
    refine heldTake 0 (v := ?_) rfl (by kernel_rfl) (by kernel_rfl) (by kernel_rfl) (fun _ _ _ h => h) (Or.inl ⟨by rfl, ?_⟩) (by assumption) ?_
    rotate_left 1
    focus (intro wS hSw; (try dsimp only at hSw); go_simp; (try with_reducible rfl))
    (try simp only [Act.put, List.setIfInBounds_toArray, List.set_cons_zero, List.set_cons_succ])
    refine heldTake 1 (v := ?_) rfl (by kernel_rfl) (by kernel_rfl) (by kernel_rfl) (fun _ _ _ h => h) (Or.inl ⟨by rfl, ?_⟩) (by assumption) ?_
    rotate_left 1
    focus (intro wS hSw; (try dsimp only at hSw); go_simp; (try with_reducible rfl))
    (try simp only [Act.put, List.setIfInBounds_toArray, List.set_cons_zero, List.set_cons_succ])
    refine heldTake 9 (v := ?_) rfl (by kernel_rfl) (by kernel_rfl) (by kernel_rfl) (fun _ _ _ h => h) (Or.inl ⟨by rfl, ?_⟩) (by assumption) ?_
    rotate_left 1
    focus (intro wS hSw; (try dsimp only at hSw); go_simp; (try with_reducible rfl))
    (try simp only [Act.put, List.setIfInBounds_toArray, List.set_cons_zero, List.set_cons_succ])
    refine wpAnyH_ready (rs := [2]) (by kernel_rfl) (by simp) ?_
    refine heldStep 2 rfl (fun K hK => ?_) AllReadyH.nil
    (go_wp2_with (first | (go_at_call 79; (with_reducible refine (HP.out _ eD).mono ?_); rintro e2 w2 ⟨rfl, he2⟩; have ew2 := eD.trans he2; have y0 := he2.cell d0; have y1 := he2.cell d1) | (go_at_call 82; (with_reducible refine (HL.out _ ew2).mono ?_); rintro e3 w3 ⟨B3, m3, d3, rfl, hi3, he3⟩; have ew3 := ew2.trans he3; have x0 := he3.cell y0; have x1 := he3.cell y1) | (go_at_call 81; (with_reducible refine (HA.out _ _ _ _ hi3).mono ?_); rintro e4 w4 ⟨rfl, he4⟩; have ew4 := ew3.trans he4; have z0 := he4.cell x0; have z1 := he4.cell x1) | (go_at_call 72; (with_reducible refine (HG.out _ ew4).mono ?_); rintro e5 w5 ⟨rfl, he5⟩; have ew5 := ew4.trans he5; have u0 := he5.cell z0; have u1 := he5.cell z1)))
    refine hK.out _ _ ?_ (fun hHeld => ?_)
    · ((try dsimp only); (refine ⟨?_, ?_⟩ <;> assumption))
    clear hK K
    (try simp only [Act.put, List.setIfInBounds_toArray, List.set_cons_zero, List.set_cons_succ])
    refine heldTake 3 (v := ?_) rfl (by kernel_rfl) (by kernel_rfl) (by kernel_rfl) (fun _ _ _ h => h) (Or.inl ⟨by rfl, ?_⟩) (by assumption) ?_
    rotate_left 1
    focus (intro wS hSw; (try dsimp only at hSw); go_simp; (try with_reducible rfl))
    (try simp only [Act.put, List.setIfInBounds_toArray, List.set_cons_zero, List.set_cons_succ])
    refine heldTake 4 (v := ?_) rfl (by kernel_rfl) (by kernel_rfl) (by kernel_rfl) (fun _ _ _ h => h) (Or.inl ⟨by rfl, ?_⟩) (by assumption) ?_
    rotate_left 1
    focus (intro wS hSw; (try dsimp only at hSw); go_simp; (try with_reducible rfl))
    (try simp only [Act.put, List.setIfInBounds_toArray, List.set_cons_zero, List.set_cons_succ])
    refine wpAnyH_ready (rs := [5]) (by kernel_rfl) (by simp) ?_
    refine heldStep 5 rfl (fun K hK => ?_) AllReadyH.nil
    rw [if_pos (by kernel_rfl)]
    (go_wp2_with (first | (go_at_call 79; (with_reducible refine (HP.out _ eD).mono ?_); rintro e2 w2 ⟨rfl, he2⟩; have ew2 := eD.trans he2; have y0 := he2.cell d0; have y1 := he2.cell d1) | (go_at_call 82; (with_reducible refine (HL.out _ ew2).mono ?_); rintro e3 w3 ⟨B3, m3, d3, rfl, hi3, he3⟩; have ew3 := ew2.trans he3; have x0 := he3.cell y0; have x1 := he3.cell y1) | (go_at_call 81; (with_reducible refine (HA.out _ _ _ _ hi3).mono ?_); rintro e4 w4 ⟨rfl, he4⟩; have ew4 := ew3.trans he4; have z0 := he4.cell x0; have z1 := he4.cell x1) | (go_at_call 72; (with_reducible refine (HG.out _ ew4).mono ?_); rintro e5 w5 ⟨rfl, he5⟩; have ew5 := ew4.trans he5; have u0 := he5.cell z0; have u1 := he5.cell z1)))
    refine hK.out _ _ ?_ (fun hHeld => ?_)
    · ((try dsimp only); (refine ⟨?_, ?_⟩ <;> assumption))
    clear hK K
    (try simp only [Act.put, List.setIfInBounds_toArray, List.set_cons_zero, List.set_cons_succ])
    refine heldTake 6 (v := ?_) rfl (by kernel_rfl) (by kernel_rfl) (by kernel_rfl) (fun _ _ _ h => h) (Or.inl ⟨by rfl, ?_⟩) (by assumption) ?_
    rotate_left 1
    focus (intro wS hSw; (try dsimp only at hSw); go_simp; (try with_reducible rfl))
    (try simp only [Act.put, List.setIfInBounds_toArray, List.set_cons_zero, List.set_cons_succ])
    refine wpAnyH_ready (rs := [7]) (by kernel_rfl) (by simp) ?_
    refine heldStep 7 rfl (fun K hK => ?_) AllReadyH.nil
    rw [if_pos (by kernel_rfl)]
    (go_wp2_with (first | (go_at_call 79; (with_reducible refine (HP.out _ eD).mono ?_); rintro e2 w2 ⟨rfl, he2⟩; have ew2 := eD.trans he2; have y0 := he2.cell d0; have y1 := he2.cell d1) | (go_at_call 82; (with_reducible refine (HL.out _ ew2).mono ?_); rintro e3 w3 ⟨B3, m3, d3, rfl, hi3, he3⟩; have ew3 := ew2.trans he3; have x0 := he3.cell y0; have x1 := he3.cell y1) | (go_at_call 81; (with_reducible refine (HA.out _ _ _ _ hi3).mono ?_); rintro e4 w4 ⟨rfl, he4⟩; have ew4 := ew3.trans he4; have z0 := he4.cell x0; have z1 := he4.cell x1) | (go_at_call 72; (with_reducible refine (HG.out _ ew4).mono ?_); rintro e5 w5 ⟨rfl, he5⟩; have ew5 := ew4.trans he5; have u0 := he5.cell z0; have u1 := he5.cell z1)))
    refine hK.out _ _ ?_ (fun hHeld => ?_)
    · ((try dsimp only); (refine ⟨?_, ?_⟩ <;> assumption))
    clear hK K
    (try simp only [Act.put, List.setIfInBounds_toArray, List.set_cons_zero, List.set_cons_succ])
    refine heldTake 8 (v := ?_) rfl (by kernel_rfl) (by kernel_rfl) (by kernel_rfl) (fun _ _ _ h => h) (Or.inl ⟨by rfl, ?_⟩) (by assumption) ?_
    rotate_left 1
    focus (intro wS hSw; (try dsimp only at hSw); go_simp; (try with_reducible rfl))
    (try simp only [Act.put, List.setIfInBounds_toArray, List.set_cons_zero, List.set_cons_succ])
    refine wpAnyH_ready (rs := [10]) (by kernel_rfl) (by simp) ?_
    refine heldStep 10 rfl (fun K hK => ?_) AllReadyH.nil
    (go_wp2_with (first | (go_at_call 79; (with_reducible refine (HP.out _ eD).mono ?_); rintro e2 w2 ⟨rfl, he2⟩; have ew2 := eD.trans he2; have y0 := he2.cell d0; have y1 := he2.cell d1) | (go_at_call 82; (with_reducible refine (HL.out _ ew2).mono ?_); rintro e3 w3 ⟨B3, m3, d3, rfl, hi3, he3⟩; have ew3 := ew2.trans he3; have x0 := he3.cell y0; have x1 := he3.cell y1) | (go_at_call 81; (with_reducible refine (HA.out _ _ _ _ hi3).mono ?_); rintro e4 w4 ⟨rfl, he4⟩; have ew4 := ew3.trans he4; have z0 := he4.cell x0; have z1 := he4.cell x1) | (go_at_call 72; (with_reducible refine (HG.out _ ew4).mono ?_); rintro e5 w5 ⟨rfl, he5⟩; have ew5 := ew4.trans he5; have u0 := he5.cell z0; have u1 := he5.cell z1)))
    refine hK.out _ _ ?_ (fun hHeld => ?_)
    · ((try dsimp only); (refine ⟨?_, ?_⟩ <;> assumption))
    clear hK K
    (try simp only [Act.put, List.setIfInBounds_toArray, List.set_cons_zero, List.set_cons_succ])
    refine heldTake 11 (v := ?_) rfl (by kernel_rfl) (by kernel_rfl) (by kernel_rfl) (fun _ _ _ h => h) (Or.inl ⟨by rfl, ?_⟩) (by assumption) ?_
    rotate_left 1
    focus (intro wS hSw; (try dsimp only at hSw); go_simp; (try with_reducible rfl))
    (try simp only [Act.put, List.setIfInBounds_toArray, List.set_cons_zero, List.set_cons_succ])
    refine heldTake 12 (v := ?_) rfl (by kernel_rfl) (by kernel_rfl) (by kernel_rfl) (fun _ _ _ h => h) (Or.inl ⟨by rfl, ?_⟩) (by assumption) ?_
    rotate_left 1
    focus (intro wS hSw; (try dsimp only at hSw); go_simp; (try with_reducible rfl))
    (try simp only [Act.put, List.setIfInBounds_toArray, List.set_cons_zero, List.set_cons_succ])
    refine heldTake 13 (v := ?_) rfl (by kernel_rfl) (by kernel_rfl) (by kernel_rfl) (fun _ _ _ h => h) (Or.inl ⟨by rfl, ?_⟩) (by assumption) ?_
    rotate_left 1
    focus (intro wS hSw; (try dsimp only at hSw); go_simp; (try with_reducible rfl))
    (try simp only [Act.put, List.setIfInBounds_toArray, List.set_cons_zero, List.set_cons_succ])
    refine heldTake 14 (v := ?_) rfl (by kernel_rfl) (by kernel_rfl) (by kernel_rfl) (fun _ _ _ h => h) (Or.inl ⟨by rfl, ?_⟩) (by assumption) ?_
    rotate_left 1
    focus (intro wS hSw; (try dsimp only at hSw); go_simp; (try with_reducible rfl))
    (try simp only [Act.put, List.setIfInBounds_toArray, List.set_cons_zero, List.set_cons_succ])
    refine heldTake 15 (v := ?_) rfl (by kernel_rfl) (by kernel_rfl) (by kernel_rfl) (fun _ _ _ h => h) (Or.inl ⟨by rfl, ?_⟩) (by assumption) ?_
    rotate_left 1
    focus (intro wS hSw; (try dsimp only at hSw); go_simp; (try with_reducible rfl))
    (try simp only [Act.put, List.setIfInBounds_toArray, List.set_cons_zero, List.set_cons_succ])
    refine heldTake 16 (v := ?_) rfl (by kernel_rfl) (by kernel_rfl) (by kernel_rfl) (fun _ _ _ h => h) (Or.inl ⟨by rfl, ?_⟩) (by assumption) ?_
    rotate_left 1
    focus (intro wS hSw; (try dsimp only at hSw); go_simp; (try with_reducible rfl))
    (try simp only [Act.put, List.setIfInBounds_toArray, List.set_cons_zero, List.set_cons_succ])
    refine heldTake 17 (v := ?_) rfl (by kernel_rfl) (by kernel_rfl) (by kernel_rfl) (fun _ _ _ h => h) (Or.inl ⟨by rfl, ?_⟩) (by assumption) ?_
    rotate_left 1
    focus (intro wS hSw; (try dsimp only at hSw); go_simp; (try with_reducible rfl))
    (try simp only [Act.put, List.setIfInBounds_toArray, List.set_cons_zero, List.set_cons_succ])
    refine wpAnyH_done (by kernel_rfl) ?_ _
    go_wp2_with fail
    go_ret2
    exact ⟨by first | rfl | (simp; done) | (simp; omega), ew5⟩
end Go.Proofs.Ytebklankehkmhaa
