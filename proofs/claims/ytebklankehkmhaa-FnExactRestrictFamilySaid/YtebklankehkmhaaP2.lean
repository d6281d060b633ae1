/-
  Steps of plane proofs copied and compared by the laws; no condition.
-/
import Derived.Test.YtebklankehkmhaaP1
namespace Go.Proofs.Ytebklankehkmhaa
set_option linter.unusedSimpArgs false
set_option linter.unusedVariables false
open Go.RowKit

theorem info_step : (Try.prog.info? 84).map (fun i => (i.zero, i.size, i.bytes)) = some (some (.agg #[.slice none 0 0, .int .i64 0, .int .i64 0, .int .i64 0, .int .i64 0, .int .i64 0]), 6, 64) := by kernel_rfl
section
variable {P : Program}
theorem makeP_eq (t e : TypeId) (ht : P.underlying t = some (.slice e)) (z : Value) (sz bytes : Nat) (hinfo : (P.info? e).map (fun i => (i.zero, i.size, i.bytes)) = some (some z, sz, bytes))
    (n : Nat) (h63 : n ≤ 140737488355328) (hb : bytes * n ≤ 281474976710656) (w : World) :
    (Instr.makeSlice t (.int .i64 (n : Int)) (.int .i64 (n : Int))).run P w = .ok (.slice (some ⟨w.heap.size, 0, none⟩) n n) (w.alloc (.cells (madeCells z.cells (n * sz)) e)) := by
  obtain ⟨i, hi, hz, hsize, hby⟩ := info_parts hinfo
  have hb' : (i.bytes : Int) * (n : Int) ≤ 281474976710656 := by
    have h : ((i.bytes * n : Nat) : Int) ≤ 281474976710656 := by rw [hby]; omega
    rwa [Int.natCast_mul] at h
  have hr := run_make (P := P) w t e i z ht hi hz .i64 .i64 n n (by omega) (by omega) hb' (by omega)
  simp only [Int.toNat_natCast, hsize] at hr
  exact hr
end
def set6 (us : List Value) (p : Nat) (v0 v1 v2 v3 v4 v5 : Value) : List Value := (((((us.set p v0).set (p + 1) v1).set (p + 2) v2).set (p + 3) v3).set (p + 4) v4).set (p + 5) v5
theorem set6_length (us : List Value) (p : Nat) (v0 v1 v2 v3 v4 v5 : Value) : (set6 us p v0 v1 v2 v3 v4 v5).length = us.length := by simp [set6]
theorem set6_other {us : List Value} {p k : Nat} {v0 v1 v2 v3 v4 v5 : Value} (h : k < p ∨ p + 5 < k) : (set6 us p v0 v1 v2 v3 v4 v5)[k]? = us[k]? := by
  unfold set6
  rw [List.getElem?_set_ne (by omega), List.getElem?_set_ne (by omega), List.getElem?_set_ne (by omega), List.getElem?_set_ne (by omega), List.getElem?_set_ne (by omega), List.getElem?_set_ne (by omega)]
theorem set6_at {us : List Value} {p : Nat} {v0 v1 v2 v3 v4 v5 : Value} (h : p + 5 < us.length) :
    (set6 us p v0 v1 v2 v3 v4 v5)[p]? = some v0 ∧ (set6 us p v0 v1 v2 v3 v4 v5)[p + 1]? = some v1 ∧ (set6 us p v0 v1 v2 v3 v4 v5)[p + 2]? = some v2 ∧ (set6 us p v0 v1 v2 v3 v4 v5)[p + 3]? = some v3 ∧ (set6 us p v0 v1 v2 v3 v4 v5)[p + 4]? = some v4 ∧ (set6 us p v0 v1 v2 v3 v4 v5)[p + 5]? = some v5 := by
  unfold set6
  refine ⟨?_, ?_, ?_, ?_, ?_, ?_⟩ <;> simp [List.getElem?_set] <;> omega
/-- A step among a row's values, its coefficients in a row of their own. -/
def StepU (w : World) (base : Nat) (us : List Value) (o : Nat) (s : Ps) : Prop :=
  ∃ B c, us[o]? = some (.slice B s.1.length c) ∧ Own w base 3 1 B s.1.length c (s.1.map (Value.int .i64)) ∧ us[o + 1]? = some (.int .i64 s.2.1) ∧ us[o + 2]? = some (.int .i64 s.2.2.1) ∧ us[o + 3]? = some (.int .i64 s.2.2.2.1) ∧
    us[o + 4]? = some (.int .i64 s.2.2.2.2.1) ∧ us[o + 5]? = some (.int .i64 s.2.2.2.2.2)
theorem StepU.ext {w w' : World} {base : Nat} {us : List Value} {o : Nat} {s : Ps} (h : StepU w base us o s) (he : Ext w w') : StepU w' base us o s :=
  let ⟨B, c, h0, hi, h1⟩ := h; ⟨B, c, h0, hi.ext he, h1⟩
theorem StepU.store {w : World} {base b2 : Nat} {us vs : List Value} {o g n d : Nat} {s : Ps} (h : StepU w base us o s) (ho : Own w b2 84 6 (some ⟨g, 0, none⟩) n d vs) (j : Nat) (u : Value) : StepU (w.setCell ⟨g, j, none⟩ u) base us o s := by
  obtain ⟨B, c, h0, hi, h1⟩ := h
  refine ⟨B, c, h0, hi.storeOther _ (fun hh => ?_), h1⟩
  have := hi.ne_type ho (by decide)
  rcases this with h2 | h2 <;> simp_all [Value.ownBlock]
theorem StepU.other {w : World} {base : Nat} {us : List Value} {o p : Nat} {s : Ps} {v0 v1 v2 v3 v4 v5 : Value} (h : StepU w base us o s) (hp : o + 5 < p ∨ p + 5 < o) : StepU w base (set6 us p v0 v1 v2 v3 v4 v5) o s := by
  obtain ⟨B, c, h0, hi, h1, h2, h3, h4, h5⟩ := h
  exact ⟨B, c, by rw [set6_other (by omega)]; exact h0, hi, by rw [set6_other (by omega)]; exact h1, by rw [set6_other (by omega)]; exact h2, by rw [set6_other (by omega)]; exact h3, by rw [set6_other (by omega)]; exact h4, by rw [set6_other (by omega)]; exact h5⟩
structure ObS (w : World) (lo hi : Nat) (A : Option Addr) (n c : Nat) (ss : List Ps) : Prop where
  read : Steps w A n ss
theorem ObS.small {w : World} {lo hi : Nat} {A : Option Addr} {n c : Nat} {ss : List Ps} (h : ObS w lo hi A n c ss) : n ≤ 1099511627776 := h.read.bound
theorem ObS.steps {w : World} {lo hi : Nat} {A : Option Addr} {n c : Nat} {ss : List Ps} (h : ObS w lo hi A n c ss) : Steps w A n ss := h.read
theorem stepsSize_len {w : World} {A : Option Addr} {n t : Nat} {ss : List Ps} (h : StepsA w A n ss) (hs : stepsSize ss ≤ t) : n ≤ t := by
  unfold stepsSize at hs
  have := rowsSize_len (n := n) (by rw [List.length_map]; exact h.len) hs
  exact this
set_option maxRecDepth 100000 in
set_option maxHeartbeats 3200000 in
theorem toPlaneStepS_o (A : Option Addr) (n c : Nat) (ss : List Ps) (w : World) (h : StepsA w A n ss) (hs : stepsSize ss ≤ 1048576) :
    Calls Try.prog 26 #[.slice A n c] w fun e w' => ∃ A' c', e = .returned (.slice A' n c') ∧ ObS w' w.heap.size w'.heap.size A' n c' ss ∧ Ext w w' := by
  have hn := stepsSize_len h hs
  have hmk := fun W => makeP_eq (P := Try.prog) 43 84 Try.underlying43 _ _ _ info_step n (by omega) (by omega) W
  have HL := hide h.len
  have HS := hide hs
  clear hs
  go_enter Try.func26, Try.ntmps26
  go_wp2
  clear hmk
  refine wp_loopF 23 _ rfl rfl [0, 3, 22] rfl (fun fr wr => Ext w wr ∧ ∃ i : Nat, i ≤ n ∧ (fr 4) = .int .i64 (i : Int) ∧ ∃ us : List Value, Own wr w.heap.size 84 6 (some ⟨w.heap.size, 0, none⟩) n n us ∧ Hid (∀ j s, j < i → ss[j]? = some s → StepU wr w.heap.size us (j * 6) s)) (fun fr wr => n - (intOf (fr 4)).toNat) ?_ ?_
  · (exact ⟨(Ext.refl _).alloc _, 0, Nat.zero_le _, rfl, _, Own.arr _ n _ (Nat.le_refl _) (by simp only [maxLen]; omega) (by simp [madeCells]) rfl, hide (fun j s hj => by omega)⟩)
  intro ks fr wr hkept hrel; (try dsimp only at hrel)
  change Code.wp _ _ _ ⟨#[ks 0, fr 1, fr 2, ks 3, fr 4, fr 5, fr 6, fr 7, fr 8, fr 9, fr 10, fr 11, fr 12, fr 13, fr 14, fr 15, fr 16, fr 17, fr 18, fr 19, fr 20, fr 21, ks 22], []⟩ wr
  simp only [KeptV, List.getD_cons_zero, List.getD_cons_succ] at hkept; obtain ⟨hk0, hk3, hk22, -⟩ := hkept
  generalize ks 0 = k0 at hk0 ⊢; subst hk0
  generalize ks 3 = k3 at hk3 ⊢; subst hk3
  generalize ks 22 = k22 at hk22 ⊢; subst hk22
  generalize fr 4 = s4 at hrel ⊢
  obtain ⟨he, i, hi, hs1, us, ho, hq⟩ := hrel
  subst hs1
  have hul : us.length = n * 6 := ho.len
  by_cases hlt : i < n
  · obtain ⟨ad, xs, m, B, d, bd, kd, a, b, q, rfl, hx, c0, hin, c1, c2, c3, c4, c5⟩ := (h.ext he).at_ hlt
    have hm20 : m ≤ 1048576 := by
      have h1 := rowsTotal_get (coeffs_get hx)
      have h2 := hin.len
      have h3 := HS.out
      unfold stepsSize rowsSize at h3
      omega
    have gg : ∀ j, j < 6 → ∃ u, us[i * 6 + j]? = some u ∧ wr.cell? ⟨w.heap.size, i * 6 + j, none⟩ = some u ∧ wr.frozen? ⟨w.heap.size, i * 6 + j, none⟩ = false := fun j hj => by
      have hg : us[i * 6 + j]? = some (us[i * 6 + j]'(by omega)) := List.getElem?_eq_getElem _
      exact ⟨_, hg, ho.cell hg, ho.frozen _⟩
    obtain ⟨u0, -, d0, f0⟩ := gg 0 (by omega)
    obtain ⟨u1, -, d1, f1⟩ := gg 1 (by omega)
    obtain ⟨u2, -, d2, f2⟩ := gg 2 (by omega)
    obtain ⟨u3, -, d3, f3⟩ := gg 3 (by omega)
    obtain ⟨u4, -, d4, f4⟩ := gg 4 (by omega)
    obtain ⟨u5, -, d5, f5⟩ := gg 5 (by omega)
    rw [Nat.add_zero] at d0 f0
    have hml := hide hin.len
    have HX := hide hx
    have HO := hide ho
    have HQ := hide hq.out
    have HE := hide he
    have HI := hide hin
    clear gg hx ho hq he hin
    go_wp2_with fail
    (with_reducible refine (toPlaneStep_c B m d bd kd a b q xs _ HI.out hm20).mono ?_)
    rintro e w1 ⟨A1, e1', rfl, ho1, he1⟩
    have hlw := HE.out.size
    have x0 := he1.cell d0
    have x1 := he1.cell d1
    have x2 := he1.cell d2
    have x3 := he1.cell d3
    have x4 := he1.cell d4
    have x5 := he1.cell d5
    have y0 := he1.frozen (World.block_lt_of_cell? _ _ d0) f0
    have y1 := he1.frozen (World.block_lt_of_cell? _ _ d1) f1
    have y2 := he1.frozen (World.block_lt_of_cell? _ _ d2) f2
    have y3 := he1.frozen (World.block_lt_of_cell? _ _ d3) f3
    have y4 := he1.frozen (World.block_lt_of_cell? _ _ d4) f4
    have y5 := he1.frozen (World.block_lt_of_cell? _ _ d5) f5
    have hoW := HO.out.ext he1
    have s1 := hoW.store (i * 6) (.slice A1 m e1')
    have s2 := s1.store (i * 6 + 1) (.int .i64 bd)
    have s3 := s2.store (i * 6 + 2) (.int .i64 kd)
    have s4 := s3.store (i * 6 + 3) (.int .i64 a)
    have s5 := s4.store (i * 6 + 4) (.int .i64 b)
    have s6 := s5.store (i * 6 + 5) (.int .i64 q)
    have hnew : Hid (∀ j s, j < i + 1 → ss[j]? = some s → StepU ((((((w1.setCell ⟨w.heap.size, i * 6, none⟩ (.slice A1 m e1')).setCell ⟨w.heap.size, i * 6 + 1, none⟩ (.int .i64 bd)).setCell ⟨w.heap.size, i * 6 + 2, none⟩ (.int .i64 kd)).setCell ⟨w.heap.size, i * 6 + 3, none⟩ (.int .i64 a)).setCell ⟨w.heap.size, i * 6 + 4, none⟩ (.int .i64 b)).setCell ⟨w.heap.size, i * 6 + 5, none⟩ (.int .i64 q)) w.heap.size (set6 us (i * 6) (.slice A1 m e1') (.int .i64 bd) (.int .i64 kd) (.int .i64 a) (.int .i64 b) (.int .i64 q)) (j * 6) s) := hide (fun j s hj hsj => by
      have hbase : StepU w1 w.heap.size (set6 us (i * 6) (.slice A1 m e1') (.int .i64 bd) (.int .i64 kd) (.int .i64 a) (.int .i64 b) (.int .i64 q)) (j * 6) s := by
        by_cases hji : j = i
        · subst hji
          rw [HX.out] at hsj
          injection hsj with hsj
          subst hsj
          obtain ⟨t0, t1, t2, t3, t4, t5⟩ := set6_at (us := us) (p := j * 6) (v0 := .slice A1 m e1') (v1 := .int .i64 bd) (v2 := .int .i64 kd) (v3 := .int .i64 a) (v4 := .int .i64 b) (v5 := .int .i64 q) (by omega)
          have hml2 := hml.out
          subst hml2
          exact ⟨A1, e1', t0, ho1.lower hlw, t1, t2, t3, t4, t5⟩
        · exact ((HQ.out j s (by omega) hsj).ext he1).other (by omega)
      exact (((((hbase.store hoW _ _).store s1 _ _).store s2 _ _).store s3 _ _).store s4 _ _).store s5 _ _)
    have HS6 := hide s6
    have HE6 := hide ((((((HE.out.trans he1).setCell (p := ⟨w.heap.size, i * 6, none⟩) (by simp) (.slice A1 m e1')).setCell (p := ⟨w.heap.size, i * 6 + 1, none⟩) (by simp) (.int .i64 bd)).setCell (p := ⟨w.heap.size, i * 6 + 2, none⟩) (by simp) (.int .i64 kd)).setCell (p := ⟨w.heap.size, i * 6 + 3, none⟩) (by simp) (.int .i64 a)).setCell (p := ⟨w.heap.size, i * 6 + 4, none⟩) (by simp) (.int .i64 b) |>.setCell (p := ⟨w.heap.size, i * 6 + 5, none⟩) (by simp) (.int .i64 q))
    clear s1 s2 s3 s4 s5 s6 hoW HQ HO HE HI ho1 he1 d0 d1 d2 d3 d4 d5 f0 f1 f2 f3 f4 f5
    go_wp2_with fail
    exact ⟨⟨(by (repeat (first | exact trivial | refine ⟨rfl, ?_⟩))), HE6.out, i + 1, by omega, by go_num, _, HS6.out, hnew⟩, (by simp [intOf] <;> omega)⟩
  · obtain rfl : i = n := by omega
    go_wp2
    go_ret
    refine ⟨_, _, rfl, ⟨⟨HL.out, by omega, fun _ => ⟨w.heap.size, rfl, fun j s hj => ?_⟩⟩⟩, he⟩
    obtain ⟨B, d, t0, t1, t2, t3, t4, t5, t6⟩ := hq.out j s (by have := (List.getElem?_eq_some_iff.1 hj).1; have := HL.out; omega) hj
    exact ⟨B, d, ho.cell t0, t1.ints (by have := HS.out; have h1 := rowsTotal_get (xss := ss.map (·.1)) (i := j) (xs := s.1) (by unfold Hid; rw [List.getElem?_map, hj]; rfl); unfold stepsSize rowsSize at this; omega), ho.cell t2, ho.cell t3, ho.cell t4, ho.cell t5, ho.cell t6⟩
set_option maxHeartbeats 1600000 in
theorem eqPlaneStepS_same (A B : Option Addr) (n c m d : Nat) (ss : List Ps) (w : World) (h : Steps w A n ss) (k : Steps w B m ss) :
    Calls Try.prog 29 #[.slice A n c, .slice B m d] w fun e w' => e = .returned (.bool true) ∧ Ext w w' := by
  obtain rfl : n = m := h.len.trans k.len.symm
  have hb := h.bound
  have hnn : ((n : Int) == (n : Int)) = true := by simp
  go_enter Try.func29, Try.ntmps29
  go_wp2_with fail
  refine wp_loopF 27 _ rfl rfl [0, 1] rfl (fun fr wr => Ext w wr ∧ ∃ i : Nat, i ≤ n ∧ (fr 5) = .int .i64 i) (fun fr wr => n - (intOf (fr 5)).toNat) ?_ ?_
  · (exact ⟨Ext.refl _, 0, by omega, rfl⟩)
  intro ks fr wr hkept hrel; (try dsimp only at hrel)
  change Code.wp _ _ _ ⟨#[ks 0, ks 1, fr 2, fr 3, fr 4, fr 5, fr 6, fr 7, fr 8, fr 9, fr 10, fr 11, fr 12, fr 13, fr 14, fr 15, fr 16, fr 17, fr 18, fr 19, fr 20, fr 21, fr 22, fr 23, fr 24, fr 25, fr 26], []⟩ wr
  simp only [KeptV, List.getD_cons_zero, List.getD_cons_succ] at hkept; obtain ⟨hk0, hk1, -⟩ := hkept
  generalize ks 0 = k0 at hk0 ⊢; subst hk0
  generalize ks 1 = k1 at hk1 ⊢; subst hk1
  generalize fr 5 = s5 at hrel ⊢
  obtain ⟨he, i, hi, hs1⟩ := hrel
  subst hs1
  by_cases hlt : i < n
  · obtain ⟨g1, xs, m1, B1, e1, bd, kd, a, b, q, rfl, hx, a0, hin, a1, a2, a3, a4, a5⟩ := (h.ext he).at_ hlt
    obtain ⟨g2, ys, m2, B2, e2, bd2, kd2, a2', b2, q2, rfl, hy, d0, hjn, d1, d2, d3, d4, d5⟩ := (k.ext he).at_ hlt
    have hxy := hx.out
    rw [hy.out] at hxy
    injection hxy with hxy
    simp only [Prod.mk.injEq] at hxy
    obtain ⟨rfl, rfl, rfl, rfl, rfl, rfl⟩ := hxy
    clear hx hy
    have HQ := hide (fun W (E : Ext wr W) => eqPlaneStep_same B1 B2 m1 e1 m2 e2 bd2 kd2 a2' b2 q2 ys W (hin.ext E) (hjn.ext E))
    go_wp2_with fail
    go_region_held3 (fun w' => w'.cell? ⟨g1, i * 6, none⟩ = some (.slice B1 m1 e1) ∧ w'.cell? ⟨g1, i * 6 + 1, none⟩ = some (.int .i64 bd2) ∧ w'.cell? ⟨g1, i * 6 + 2, none⟩ = some (.int .i64 kd2) ∧ w'.cell? ⟨g1, i * 6 + 3, none⟩ = some (.int .i64 a2') ∧ w'.cell? ⟨g1, i * 6 + 4, none⟩ = some (.int .i64 b2) ∧ w'.cell? ⟨g1, i * 6 + 5, none⟩ = some (.int .i64 q2) ∧ w'.cell? ⟨g2, i * 6, none⟩ = some (.slice B2 m2 e2) ∧ w'.cell? ⟨g2, i * 6 + 1, none⟩ = some (.int .i64 bd2) ∧ w'.cell? ⟨g2, i * 6 + 2, none⟩ = some (.int .i64 kd2) ∧ w'.cell? ⟨g2, i * 6 + 3, none⟩ = some (.int .i64 a2') ∧ w'.cell? ⟨g2, i * 6 + 4, none⟩ = some (.int .i64 b2) ∧ w'.cell? ⟨g2, i * 6 + 5, none⟩ = some (.int .i64 q2)) (exact (have E0 : Ext wr _ := (by (repeat (first | with_reducible exact Ext.refl _ | with_reducible assumption | ((with_reducible refine Ext.setCell ?_ ?_ _); rotate_left; focus (first | omega | (simp <;> omega))) | with_reducible refine Ext.alloc ?_ _ | with_reducible refine Ext.drewN ?_ _ | with_reducible refine Ext.drew ?_ | with_reducible refine Ext.trans ?_ (by with_reducible assumption)))); ⟨E0.cell a0, E0.cell a1, E0.cell a2, E0.cell a3, E0.cell a4, E0.cell a5, E0.cell d0, E0.cell d1, E0.cell d2, E0.cell d3, E0.cell d4, E0.cell d5⟩)) (first | (go_at_call 75; (with_reducible refine (HQ.out _ (by (repeat (first | with_reducible exact Ext.refl _ | with_reducible assumption | ((with_reducible refine Ext.setCell ?_ ?_ _); rotate_left; focus (first | omega | (simp <;> omega))) | with_reducible refine Ext.alloc ?_ _ | with_reducible refine Ext.drewN ?_ _ | with_reducible refine Ext.drew ?_ | with_reducible refine Ext.trans ?_ (by with_reducible assumption))))).mono ?_); rintro e w1 ⟨rfl, he1⟩; have ew1 : Ext wr w1 := (by (repeat (first | with_reducible exact Ext.refl _ | with_reducible assumption | ((with_reducible refine Ext.setCell ?_ ?_ _); rotate_left; focus (first | omega | (simp <;> omega))) | with_reducible refine Ext.alloc ?_ _ | with_reducible refine Ext.drewN ?_ _ | with_reducible refine Ext.drew ?_ | with_reducible refine Ext.trans ?_ (by with_reducible assumption))))))
    have hEH := hide (he.trans ew1)
    clear he
    go_wp2
    exact ⟨⟨(by (repeat (first | exact trivial | refine ⟨rfl, ?_⟩))), hEH.out, i + 1, by omega, by go_num⟩, (by simp [intOf] <;> omega)⟩
  · obtain rfl : i = n := by omega
    go_wp2
    go_ret
    exact ⟨rfl, by (repeat (first | with_reducible exact Ext.refl _ | with_reducible assumption | ((with_reducible refine Ext.setCell ?_ ?_ _); rotate_left; focus (first | omega | (simp <;> omega))) | with_reducible refine Ext.alloc ?_ _ | with_reducible refine Ext.drewN ?_ _ | with_reducible refine Ext.drew ?_ | with_reducible refine Ext.trans ?_ (by with_reducible assumption)))⟩
end Go.Proofs.Ytebklankehkmhaa
