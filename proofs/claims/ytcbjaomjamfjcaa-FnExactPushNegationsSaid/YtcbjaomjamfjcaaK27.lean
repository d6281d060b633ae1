/-
  Pushing negations: the reference's text; no condition.
-/
import Derived.Test.YtcbjaomjamfjcaaK25
import Derived.Test.YtcbjaomjamfjcaaK23p
import Derived.Deep.DeepCutAuto
namespace Go.Proofs.Ytcbjaomjamfjcaa
set_option linter.unusedSimpArgs false
set_option linter.unusedVariables false
open Go.RowKit

theorem apart_app {A B A' : Option Addr} {n c m d n' c' : Nat} {W : World} {base : Nat} {e : TypeId} {sz : Nat} {us : List Value} (h : (Value.slice B m d).ownBlock = none ∨ (Value.slice B m d).ownBlock ≠ (Value.slice A n c).ownBlock)
    (hb' : (Value.slice A' n' c').ownBlock = (Value.slice A n c).ownBlock ∨ ∃ k, (Value.slice A' n' c').ownBlock = some k ∧ W.heap.size ≤ k) (hB : Own W base e sz B m d us) :
    (Value.slice B m d).ownBlock = none ∨ (Value.slice B m d).ownBlock ≠ (Value.slice A' n' c').ownBlock := by
  rcases hb' with hb | ⟨k, hb, hk⟩
  · rw [hb]; exact h
  · rw [hb]
    cases hB' : (Value.slice B m d).ownBlock with
    | none => exact .inl rfl
    | some q => right; intro hh; injection hh with hh; have := (hB.lt q hB').2; omega
theorem apart_sym {u v : Value} (h : u.ownBlock = none ∨ u.ownBlock ≠ v.ownBlock) : v.ownBlock = none ∨ v.ownBlock ≠ u.ownBlock := by
  cases hv : v.ownBlock with
  | none => exact .inl rfl
  | some q =>
    right
    rcases h with h | h
    · rw [h]; simp
    · rw [hv] at h; exact fun e => h e.symm
theorem gate_snoc2 {w : World} {base : Nat} {e : TypeId} {A : Option Addr} {N c : Nat} {L : List Gt} {a b c' d f g : Int} (h : Own w base e 3 A N c ((fl L).map (Value.int .i64) ++ [.int .i64 a, .int .i64 b, .int .i64 c', .int .i64 d, .int .i64 f, .int .i64 g])) :
    Own w base e 3 A N c ((fl (L ++ [(a, b, c'), (d, f, g)])).map (Value.int .i64)) := by
  rw [fl_append, List.map_append]; exact h
theorem pushB_var {no : List Int} {m : Nat} {a b : Int} : pushB no m (1, a, b) = (4, (m : Int), 0) := by simp [pushB]
theorem pushB_5 {no : List Int} {m : Nat} {a b : Int} : pushB no m (5, a, b) = (6, no.getD a.toNat 0, no.getD b.toNat 0) := by simp [pushB, dualK, moveG]
theorem pushB_6 {no : List Int} {m : Nat} {a b : Int} : pushB no m (6, a, b) = (5, no.getD a.toNat 0, no.getD b.toNat 0) := by simp [pushB, dualK, moveG]
theorem pushB_2 {no : List Int} {m : Nat} {a b : Int} : pushB no m (2, a, b) = (3, a, b) := by simp [pushB, dualK, moveG]
theorem pushB_3 {no : List Int} {m : Nat} {a b : Int} : pushB no m (3, a, b) = (2, a, b) := by simp [pushB, dualK, moveG]
theorem BoxAt.set3 {w : World} {b : Nat} {t : TypeId} {z0 z1 z2 x y z : Value} (h : BoxAt w b t #[z0, z1, z2]) : BoxAt (((w.setCell ⟨b, 0, none⟩ x).setCell ⟨b, 1, none⟩ y).setCell ⟨b, 2, none⟩ z) b t #[x, y, z] := ((h.set 0 x).set 1 y).set 2 z
theorem BoxAt.other {w : World} {b g : Nat} {t : TypeId} {cs : Array Value} {j : Nat} {x : Value} (h : BoxAt w g t cs) (hne : g ≠ b) : BoxAt (w.setCell ⟨b, j, none⟩ x) g t cs := h.setOther hne _
theorem BoxAt.made_at' {w : World} {g : Nat} {t : TypeId} {cs : Array Value} (hg : g = w.heap.size) : BoxAt (w.alloc (.cells cs t)) g t cs := by subst hg; exact BoxAt.made _ _ _
theorem BoxAt.alloc_old' {w : World} {g : Nat} {t : TypeId} {cs : Array Value} {o : Obj} (h : BoxAt w g t cs) : BoxAt (w.alloc o) g t cs := h.ext ((Ext.refl w).alloc o)
theorem BoxAt.drew_old' {w : World} {g : Nat} {t : TypeId} {cs : Array Value} (h : BoxAt w g t cs) : BoxAt w.drew g t cs := h.ext (Ext.refl w).drew
theorem getD_some {xs : List Int} {j : Nat} {v : Int} (h : xs[j]? = some v) : xs.getD j 0 = v := by rw [List.getD_eq_getElem?_getD, h]; rfl
theorem l6Opposite_c (k : Int) (w : World) :
    Calls Try.prog 89 #[.int .i64 k] w fun e w' => e = .returned (.int .i64 (dualK k)) ∧ w' = w := by
  by_cases h2 : k = 2
  · subst h2
    go_enter Try.func89, Try.ntmps89
    go_wp2
    go_ret
    exact ⟨rfl, rfl⟩
  have h2' : (k == 2) = false := by simpa using h2
  by_cases h3 : k = 3
  · subst h3
    go_enter Try.func89, Try.ntmps89
    go_wp2
    go_ret
    exact ⟨rfl, rfl⟩
  have h3' : (k == 3) = false := by simpa using h3
  by_cases h5 : k = 5
  · subst h5
    go_enter Try.func89, Try.ntmps89
    go_wp2
    go_ret
    exact ⟨rfl, rfl⟩
  have h5' : (k == 5) = false := by simpa using h5
  by_cases h6 : k = 6
  · subst h6
    go_enter Try.func89, Try.ntmps89
    go_wp2
    go_ret
    exact ⟨rfl, rfl⟩
  have h6' : (k == 6) = false := by simpa using h6
  have hd : dualK k = k := by simp [dualK, h2, h3, h5, h6]
  rw [hd]
  clear hd h2 h3 h5 h6
  go_enter Try.func89, Try.ntmps89
  go_wp2
  go_ret
  exact ⟨rfl, rfl⟩
set_option maxRecDepth 100000 in
set_option maxHeartbeats 32000000 in
theorem spec_PushNegations_o (v : Int) (A : Option Addr) (n d : Nat) (gs : List Gt) (w : World) (h : Gates w A n gs) :
    Calls Try.prog 40 #[.int .i64 v, .slice A n d] w fun e w' =>
      ∃ A' n' c', e = .returned (.tuple #[.slice A' n' c', .bool (pushOkB v gs)]) ∧ ObF 86 3 w' w.heap.size w'.heap.size A' n' c' (fl (if pushOkB v gs then pushG gs else [])) ∧ Ext w w' := by
  have hl := hide h.len
  cases h1 : circB v gs
  · have hk : pushOkB v gs = false := by simp [pushOkB, h1]
    rw [hk]
    simp only [Bool.false_eq_true, if_false, fl]
    have H1 := hide h1
    clear h1 hk
    go_enter Try.func40, Try.ntmps40
    go_wp2_with (go_at_call 66; refine (l6Good_c _ _ _ _ gs _ (h.ext (by (repeat (first | with_reducible exact Ext.refl _ | with_reducible assumption | ((with_reducible refine Ext.setCell ?_ ?_ _); rotate_left; focus (first | omega | (simp <;> omega))) | with_reducible refine Ext.alloc ?_ _ | with_reducible refine Ext.drewN ?_ _ | with_reducible refine Ext.drew ?_ | with_reducible refine Ext.trans ?_ (by with_reducible assumption)))))).mono ?_; rw [H1.out]; rintro e w1 ⟨rfl, he1⟩)
    go_ret2
    exact ⟨_, _, _, rfl, by simpa using ObF.empty (W := w1) (lo := w.heap.size) he1.size, by (repeat (first | with_reducible exact Ext.refl _ | with_reducible assumption | ((with_reducible refine Ext.setCell ?_ ?_ _); rotate_left; focus (first | omega | (simp <;> omega))) | with_reducible refine Ext.alloc ?_ _ | with_reducible refine Ext.drewN ?_ _ | with_reducible refine Ext.drew ?_ | with_reducible refine Ext.trans ?_ (by with_reducible assumption)))⟩
  obtain ⟨-, hc2, hc3⟩ := circ_facts h1
  have hn : n ≤ 200 := by rw [hl.out]; exact hc2.2
  have hn1 : 1 ≤ n := by rw [hl.out]; exact hc2.1
  have HG := hide hc3
  have HZc := hide (circ_constZ h1)
  have H1 := hide h1
  have hpk := hide (show pushOkB v gs = decide ((pushTo gs gs.length).1.length ≤ 200) by simp [pushOkB, h1])
  rw [hpk.out]
  clear hpk
  clear h1 hc2 hc3
  obtain ⟨dec, hdec⟩ : ∃ dec, dec = decide ((pushTo gs gs.length).1.length ≤ 200) := ⟨_, rfl⟩
  rw [← hdec]
  have HDec := hide hdec
  clear hdec
  obtain ⟨RR, hRR⟩ : ∃ RR, (if dec = true then pushG gs else []) = RR := ⟨_, rfl⟩
  rw [hRR]
  have HRR := hide hRR
  clear hRR
  go_enter Try.func40, Try.ntmps40
  go_wp2_with fail
  refine (l6Good_c _ _ _ _ gs _ (h.ext (by (repeat (first | with_reducible exact Ext.refl _ | with_reducible assumption | ((with_reducible refine Ext.setCell ?_ ?_ _); rotate_left; focus (first | omega | (simp <;> omega))) | with_reducible refine Ext.alloc ?_ _ | with_reducible refine Ext.drewN ?_ _ | with_reducible refine Ext.drew ?_ | with_reducible refine Ext.trans ?_ (by with_reducible assumption)))))).mono ?_; rw [H1.out]; rintro e w1 ⟨rfl, he1⟩
  have hz1 := he1.size
  have ho0 : Own (((w1.alloc (.cells #[] 86)).alloc (.cells #[] 3)).alloc (.cells #[] 3)) w.heap.size 86 3 (some ⟨w1.heap.size, 0, none⟩) 0 0 ((fl (pushTo gs 0).1).map (Value.int .i64)) :=
    ((Own.arr #[] 0 [] hz1 (by decide) rfl rfl).alloc _).alloc _
  have hy0 : Own (((w1.alloc (.cells #[] 86)).alloc (.cells #[] 3)).alloc (.cells #[] 3)) w.heap.size 3 1 (some ⟨w1.heap.size + 1, 0, none⟩) 0 0 ((pushTo gs 0).2.1.map (Value.int .i64)) :=
    (Own.arr_at #[] 0 [] (by simp) (by simp; omega) (by decide) rfl rfl).alloc _
  have hz0 : Own (((w1.alloc (.cells #[] 86)).alloc (.cells #[] 3)).alloc (.cells #[] 3)) w.heap.size 3 1 (some ⟨w1.heap.size + 2, 0, none⟩) 0 0 ((pushTo gs 0).2.2.map (Value.int .i64)) :=
    Own.arr_at #[] 0 [] (by simp) (by simp; omega) (by decide) rfl rfl
  have e0 : Ext w (((w1.alloc (.cells #[] 86)).alloc (.cells #[] 3)).alloc (.cells #[] 3)) := ((he1.alloc _).alloc _).alloc _
  have HO0 := hide ho0
  have HY0 := hide hy0
  have HZ0 := hide hz0
  have HE0 := hide e0
  clear ho0 hy0 hz0 e0 he1
  go_wp2_with fail
  refine wp_loopF 110 _ rfl rfl [1, 96, 97, 98, 99, 100, 101, 102, 103, 104, 105, 106, 107, 108, 109] rfl (fun fr wr => Ext w wr ∧ ∃ k : Nat, k ≤ n ∧ (fr 9) = .int .i64 k ∧ (∃ X N y, (fr 6) = .slice X N y ∧ Hid ((pushTo gs k).1.length = N) ∧ Own wr w.heap.size 86 3 X N y ((fl (pushTo gs k).1).map (Value.int .i64))) ∧ (∃ Y yy Z zz, (fr 7) = .slice Y k yy ∧ (fr 8) = .slice Z k zz ∧ Own wr w.heap.size 3 1 Y k yy ((pushTo gs k).2.1.map (Value.int .i64)) ∧ Own wr w.heap.size 3 1 Z k zz ((pushTo gs k).2.2.map (Value.int .i64)) ∧ ((Value.slice Z k zz).ownBlock = none ∨ (Value.slice Z k zz).ownBlock ≠ (Value.slice Y k yy).ownBlock))) (fun fr wr => n - (intOf (fr 9)).toNat) ?_ ?_
  · (exact ⟨HE0.out, 0, by omega, rfl, ⟨_, _, _, rfl, rfl, HO0.out⟩, ⟨_, _, _, _, rfl, rfl, HY0.out, HZ0.out, .inr (by simp [Value.ownBlock])⟩⟩)
  intro ks fr wr hkept hrel; (try dsimp only at hrel)
  change Code.wp _ _ _ ⟨#[fr 0, ks 1, fr 2, fr 3, fr 4, fr 5, fr 6, fr 7, fr 8, fr 9, fr 10, fr 11, fr 12, fr 13, fr 14, fr 15, fr 16, fr 17, fr 18, fr 19, fr 20, fr 21, fr 22, fr 23, fr 24, fr 25, fr 26, fr 27, fr 28, fr 29, fr 30, fr 31, fr 32, fr 33, fr 34, fr 35, fr 36, fr 37, fr 38, fr 39, fr 40, fr 41, fr 42, fr 43, fr 44, fr 45, fr 46, fr 47, fr 48, fr 49, fr 50, fr 51, fr 52, fr 53, fr 54, fr 55, fr 56, fr 57, fr 58, fr 59, fr 60, fr 61, fr 62, fr 63, fr 64, fr 65, fr 66, fr 67, fr 68, fr 69, fr 70, fr 71, fr 72, fr 73, fr 74, fr 75, fr 76, fr 77, fr 78, fr 79, fr 80, fr 81, fr 82, fr 83, fr 84, fr 85, fr 86, fr 87, fr 88, fr 89, fr 90, fr 91, fr 92, fr 93, fr 94, fr 95, ks 96, ks 97, ks 98, ks 99, ks 100, ks 101, ks 102, ks 103, ks 104, ks 105, ks 106, ks 107, ks 108, ks 109], []⟩ wr
  simp only [KeptV, List.getD_cons_zero, List.getD_cons_succ] at hkept; obtain ⟨hk1, hk96, hk97, hk98, hk99, hk100, hk101, hk102, hk103, hk104, hk105, hk106, hk107, hk108, hk109, -⟩ := hkept
  generalize ks 1 = k1 at hk1 ⊢; subst hk1
  generalize ks 96 = k96 at hk96 ⊢; subst hk96
  generalize ks 97 = k97 at hk97 ⊢; subst hk97
  generalize ks 98 = k98 at hk98 ⊢; subst hk98
  generalize ks 99 = k99 at hk99 ⊢; subst hk99
  generalize ks 100 = k100 at hk100 ⊢; subst hk100
  generalize ks 101 = k101 at hk101 ⊢; subst hk101
  generalize ks 102 = k102 at hk102 ⊢; subst hk102
  generalize ks 103 = k103 at hk103 ⊢; subst hk103
  generalize ks 104 = k104 at hk104 ⊢; subst hk104
  generalize ks 105 = k105 at hk105 ⊢; subst hk105
  generalize ks 106 = k106 at hk106 ⊢; subst hk106
  generalize ks 107 = k107 at hk107 ⊢; subst hk107
  generalize ks 108 = k108 at hk108 ⊢; subst hk108
  generalize ks 109 = k109 at hk109 ⊢; subst hk109
  generalize fr 6 = s6 at hrel ⊢
  generalize fr 7 = s7 at hrel ⊢
  generalize fr 8 = s8 at hrel ⊢
  generalize fr 9 = s9 at hrel ⊢
  clear HO0 HY0 HZ0 HE0
  obtain ⟨he, k, hk, hs1', ⟨X, N, y, hs2', hNl, ho⟩, Y, yy, Z, zz, hs3', hs4', hoy, hoz, hap⟩ := hrel
  subst hs1'; subst hs2'; subst hs3'; subst hs4'
  have hsz := he.size
  have hok := pushTo_ok HG.out k (by rw [← hl.out]; exact hk)
  obtain ⟨⟨O, ys, ns⟩, hP⟩ : ∃ P, pushTo gs k = P := ⟨_, rfl⟩
  have hly := hok.ly
  have hln := hok.ln
  have hNle := hok.le
  have hN2 : N ≤ 400 := by have := hok.le; have := hNl.out; omega
  rw [hP] at hok hNl ho hoy hoz hly hln hNle
  dsimp only at hok hNl ho hoy hoz hly hln hNle
  by_cases hlt : k < n
  · obtain ⟨gb, kk, a, b, rfl, hx, c0, c1, c2⟩ := (h.ext he).at_ hlt
    have hgk := HG.out k _ hx.out
    by_cases h4 : kk = 4
    · subst h4
      have ha := hgk.2.1 a (by simp [insG])
      obtain ⟨j, rfl⟩ := int_nat ha.1
      have hjk : j < k := by omega
      obtain ⟨gY, rfl, -, -⟩ := hoy.form (by omega)
      obtain ⟨gZ, rfl, -, -⟩ := hoz.form (by omega)
      obtain ⟨v1, hv1, d1, -⟩ := hoz.int_at (q := j) hjk
      obtain ⟨v2, hv2, d2, -⟩ := hoy.int_at (q := j) hjk
      have HH := pushTo_not hx
      rw [hP] at HH
      dsimp only at HH
      rw [Int.toNat_natCast, getD_some hv1.out, getD_some hv2.out] at HH
      have HH := hide HH
      have ebx : Ext wr (wr.alloc (.cells #[.int .i64 4, .int .i64 (j : Int), .int .i64 b] 86)) := (Ext.refl wr).alloc _
      have HO := hide (ho.ext ebx)
      have HY := hide (hoy.ext ebx)
      have HZ := hide (hoz.ext ebx)
      have HE := hide (he.trans ebx)
      have d1 := ebx.cell d1
      have hap := hide hap
      have hv2b := hide (show (ys ++ [v1])[j]? = some v2 by rw [List.getElem?_append_left (by omega)]; exact hv2.out)
      clear ho hoy hoz he hx hgk ha hok hv1 hv2 hP d2 ebx
      have HBx := hide (BoxAt.made wr #[.int .i64 4, .int .i64 (j : Int), .int .i64 b] 86)
      go_wp2_with (first | ((at_builtin; refine wpList_app rfl _ _ _ _ rfl Try.underlying37 _ 1 8 info_int rfl (by decide) rfl HY.out 1 [.int .i64 v1] (by first | rfl | simp [go_sem]) rfl ?_ ?_ ?_ ?_ ?_; (intro u hu; simp at hu; first | (subst hu; rfl) | (rcases hu with rfl | rfl <;> rfl) | (rcases hu with rfl | rfl | rfl <;> rfl) | (rcases hu with rfl | rfl | rfl | rfl <;> rfl) | (rcases hu with rfl | rfl | rfl | rfl | rfl <;> rfl) | (rcases hu with rfl | rfl | rfl | rfl | rfl | rfl <;> rfl)); omega; omega; (first | omega | (simp; omega)); intro A' c' w' ho' hg' hb'); have hYb := hide hb'; clear hb'; have hq1 := (HBx.out.grown HY.out (by decide) hg').cell 1 (.int .i64 (j : Int)) rfl; have hoY2 : Own w' w.heap.size 3 1 A' (k + 1) c' ((ys ++ [v1]).map (Value.int .i64)) := (by rw [List.map_append]; exact ho'); have HO2 := hide (HO.out.kept hg' (HO.out.ne_type HY.out (by decide))); have HZ2 := hide (HZ.out.kept hg' hap.out); have HE2 := hide (HE.out.trans_own (Nat.le_refl _) HY.out hg'); have ap2 := hide (apart_app hap.out hYb.out HZ.out); have hsz2 := HE2.out.size; obtain ⟨gY2, rfl, -, -⟩ := hoY2.form (by omega); have d3 : w'.cell? ⟨gY2, j, none⟩ = some (.int .i64 v2) := hoY2.cell (get_map_int hv2b.out); have HY2 := hide hoY2; clear ho' hg' hoY2 HO HY HZ HE hYb hap hv2b d1 c0 c1 c2 HBx) | ((at_builtin; refine wpList_app rfl _ _ _ _ rfl Try.underlying37 _ 1 8 info_int rfl (by decide) rfl HZ2.out 1 [.int .i64 v2] (by first | rfl | simp [go_sem]) rfl ?_ ?_ ?_ ?_ ?_; (intro u hu; simp at hu; first | (subst hu; rfl) | (rcases hu with rfl | rfl <;> rfl) | (rcases hu with rfl | rfl | rfl <;> rfl) | (rcases hu with rfl | rfl | rfl | rfl <;> rfl) | (rcases hu with rfl | rfl | rfl | rfl | rfl <;> rfl) | (rcases hu with rfl | rfl | rfl | rfl | rfl | rfl <;> rfl)); omega; omega; (first | omega | (simp; omega)); intro A' c' w' ho' hg' hb'); have hZb := hide hb'; clear hb'; have HZ3 := hide ho'; have HO3 := hide (HO2.out.kept hg' (HO2.out.ne_type HZ2.out (by decide))); have HY3 := hide (HY2.out.kept hg' (apart_sym ap2.out)); have HE3 := hide (HE2.out.trans_own (Nat.le_refl _) HZ2.out hg'); have ap3 := hide (apart_sym (apart_app (apart_sym ap2.out) hZb.out HY2.out)); clear ho' hg' hZb HO2 HY2 HZ2 HE2 ap2 d3))
      exact ⟨⟨(by (repeat (first | exact trivial | refine ⟨rfl, ?_⟩))), HE3.out, k + 1, by omega, by go_num, ⟨_, _, _, rfl, by rw [HH.out]; exact hNl, by rw [HH.out]; exact HO3.out⟩, ⟨_, _, _, _, rfl, rfl, by rw [HH.out]; exact HY3.out, by rw [HH.out, List.map_append]; exact HZ3.out, ap3.out⟩⟩, (by simp [intOf] <;> omega)⟩
    · have h4' : (kk == 4) = false := by simpa using h4
      have HH := pushTo_put hx h4
      rw [hP] at HH
      dsimp only at HH
      rw [hNl.out] at HH
      have HO := hide ho
      have HY := hide hoy
      have HZ := hide hoz
      have HE := hide he
      have HI : Hid (∀ x ∈ insG (kk, a, b), ∃ j : Nat, x = j ∧ ys[j]? = some (ys.getD x.toNat 0)) := hide (fun x hxi => by
        have h1 := hgk.2.1 x hxi
        refine ⟨x.toNat, by omega, ?_⟩
        have h2 : ys[x.toNat]? = some (ys[x.toNat]'(by omega)) := List.getElem?_eq_getElem _
        rw [List.getD_eq_getElem?_getD, h2]; rfl)
      have HCZ := hide (fun hq => HZc.out k _ hx.out hq)
      have HGK := hide hgk
      clear ho hoy hoz he hok hP hx hgk
      go_wp2_with fail
      obtain ⟨W2, hW2⟩ : ∃ W2, W2 = wr.alloc (.cells #[.int .i64 kk, .int .i64 a, .int .i64 b] 86) := ⟨_, rfl⟩
      have e2 : Ext wr W2 := by rw [hW2]; exact (Ext.refl wr).alloc _
      have hb2 : BoxAt W2 wr.heap.size 86 #[.int .i64 kk, .int .i64 a, .int .i64 b] := by rw [hW2]; exact BoxAt.made _ _ _
      have hW2s := hb2.lt
      rw [← hW2]
      have u0 := hb2.cell 0 (.int .i64 kk) rfl
      have u1 := hb2.cell 1 (.int .i64 a) rfl
      have u2 := hb2.cell 2 (.int .i64 b) rfl
      have HB0 := hide hb2
      clear hW2 c0 c1 c2 hb2
      go_cut [11, 12] (fun sF sS wx => ∃ b1 b2 : Nat, b1 ≠ b2 ∧ wr.heap.size < b1 ∧ wr.heap.size < b2 ∧ sF = .pointer (some ⟨b1, 0, none⟩) ∧ sS = .pointer (some ⟨b2, 0, none⟩) ∧ BoxAt wx b1 86 #[.int .i64 kk, .int .i64 a, .int .i64 b] ∧ BoxAt wx b2 86 #[.int .i64 (dualK kk), .int .i64 0, .int .i64 0] ∧ Ext W2 wx)
      case first =>
        have HL := hide (fun W => l6Opposite_c kk W)
        go_region_held3 (fun w' => w'.cell? ⟨wr.heap.size, 0, none⟩ = some (.int .i64 kk) ∧ w'.cell? ⟨wr.heap.size, 1, none⟩ = some (.int .i64 a) ∧ w'.cell? ⟨wr.heap.size, 2, none⟩ = some (.int .i64 b)) (exact ⟨(show Ext W2 _ by (repeat (first | with_reducible exact Ext.refl _ | with_reducible assumption | ((with_reducible refine Ext.setCell ?_ ?_ _); rotate_left; focus (first | omega | (simp <;> omega))) | with_reducible refine Ext.alloc ?_ _ | with_reducible refine Ext.drewN ?_ _ | with_reducible refine Ext.drew ?_ | with_reducible refine Ext.trans ?_ (by with_reducible assumption)))).cell u0, (show Ext W2 _ by (repeat (first | with_reducible exact Ext.refl _ | with_reducible assumption | ((with_reducible refine Ext.setCell ?_ ?_ _); rotate_left; focus (first | omega | (simp <;> omega))) | with_reducible refine Ext.alloc ?_ _ | with_reducible refine Ext.drewN ?_ _ | with_reducible refine Ext.drew ?_ | with_reducible refine Ext.trans ?_ (by with_reducible assumption)))).cell u1, (show Ext W2 _ by (repeat (first | with_reducible exact Ext.refl _ | with_reducible assumption | ((with_reducible refine Ext.setCell ?_ ?_ _); rotate_left; focus (first | omega | (simp <;> omega))) | with_reducible refine Ext.alloc ?_ _ | with_reducible refine Ext.drewN ?_ _ | with_reducible refine Ext.drew ?_ | with_reducible refine Ext.trans ?_ (by with_reducible assumption)))).cell u2⟩) (first | (go_at_call 89; (with_reducible refine (HL.out _).mono ?_); rintro e w3 ⟨rfl, rfl⟩))
        all_goals
          go_wp2_with fail
          go_meet
          refine ⟨_, _, ?_, ?_, ?_, rfl, rfl, ?_, ?_, by (repeat (first | with_reducible exact Ext.refl _ | with_reducible assumption | ((with_reducible refine Ext.setCell ?_ ?_ _); rotate_left; focus (first | omega | (simp <;> omega))) | with_reducible refine Ext.alloc ?_ _ | with_reducible refine Ext.drewN ?_ _ | with_reducible refine Ext.drew ?_ | with_reducible refine Ext.trans ?_ (by with_reducible assumption)))⟩
          · first | omega | (simp; done)
          · omega
          · omega
          · repeat (first | (with_reducible refine BoxAt.made_at' ?_; (first | rfl | (simp; done))) | with_reducible refine BoxAt.drew_old' ?_ | with_reducible refine BoxAt.alloc_old' ?_)
          · repeat (first | (with_reducible refine BoxAt.made_at' ?_; (first | rfl | (simp; done))) | with_reducible refine BoxAt.drew_old' ?_ | with_reducible refine BoxAt.alloc_old' ?_)
      case rest =>
      obtain ⟨b1, b2, hne, hb1l, hb2l, rfl, rfl, hB1, hB2, e3⟩ := hcut
      have e23 := e2.trans e3
      have v0 := e3.cell u0
      have v1 := e3.cell u1
      have v2 := e3.cell u2
      have HO3 := hide (HO.out.ext e23)
      have HY3 := hide (HY.out.ext e23)
      have HZ3 := hide (HZ.out.ext e23)
      have HE3 := hide (HE.out.trans e23)
      have HOn := hide (fun hh => Nat.lt_irrefl _ (Nat.lt_trans (HO.out.lt _ hh).2 hb1l) : (Value.slice X N y).ownBlock ≠ some b1)
      have HOm := hide (fun hh => Nat.lt_irrefl _ (Nat.lt_trans (HO.out.lt _ hh).2 hb2l) : (Value.slice X N y).ownBlock ≠ some b2)
      have HYn := hide (fun hh => Nat.lt_irrefl _ (Nat.lt_trans (HY.out.lt _ hh).2 hb1l) : (Value.slice Y k yy).ownBlock ≠ some b1)
      have HYm := hide (fun hh => Nat.lt_irrefl _ (Nat.lt_trans (HY.out.lt _ hh).2 hb2l) : (Value.slice Y k yy).ownBlock ≠ some b2)
      have HZn := hide (fun hh => Nat.lt_irrefl _ (Nat.lt_trans (HZ.out.lt _ hh).2 hb1l) : (Value.slice Z k zz).ownBlock ≠ some b1)
      have HZm := hide (fun hh => Nat.lt_irrefl _ (Nat.lt_trans (HZ.out.lt _ hh).2 hb2l) : (Value.slice Z k zz).ownBlock ≠ some b2)
      have hwb1 : w.heap.size ≤ b1 := by omega
      have hwb2 : w.heap.size ≤ b2 := by omega
      clear HO HY HZ HE e2 u0 u1 u2 HB0 e23 e3
      by_cases k1 : kk = 1
      · subst k1
        rw [show pushA ys (1, a, b) = (1, a, b) by simp [pushA, moveG], pushB_var] at HH
        have HH := hide HH
        have HB1 := hide (((hB1.other hne).other hne).other hne : BoxAt (((wc.setCell ⟨b2, 0, none⟩ (.int .i64 4)).setCell ⟨b2, 1, none⟩ (.int .i64 (N : Int))).setCell ⟨b2, 2, none⟩ (.int .i64 0)) b1 86 _)
        have HB2 := hide (BoxAt.set3 hB2 : BoxAt (((wc.setCell ⟨b2, 0, none⟩ (.int .i64 4)).setCell ⟨b2, 1, none⟩ (.int .i64 (N : Int))).setCell ⟨b2, 2, none⟩ (.int .i64 0)) b2 86 _)
        have HO := hide (((HO3.out.storeOther (p := ⟨b2, 0, none⟩) (.int .i64 4) HOm.out).storeOther (p := ⟨b2, 1, none⟩) (.int .i64 (N : Int)) HOm.out).storeOther (p := ⟨b2, 2, none⟩) (.int .i64 0) HOm.out)
        have HY := hide (((HY3.out.storeOther (p := ⟨b2, 0, none⟩) (.int .i64 4) HYm.out).storeOther (p := ⟨b2, 1, none⟩) (.int .i64 (N : Int)) HYm.out).storeOther (p := ⟨b2, 2, none⟩) (.int .i64 0) HYm.out)
        have HZ := hide (((HZ3.out.storeOther (p := ⟨b2, 0, none⟩) (.int .i64 4) HZm.out).storeOther (p := ⟨b2, 1, none⟩) (.int .i64 (N : Int)) HZm.out).storeOther (p := ⟨b2, 2, none⟩) (.int .i64 0) HZm.out)
        have HE := hide (((HE3.out.setCell (p := ⟨b2, 0, none⟩) hwb2 (.int .i64 4)).setCell (p := ⟨b2, 1, none⟩) hwb2 (.int .i64 (N : Int))).setCell (p := ⟨b2, 2, none⟩) hwb2 (.int .i64 0))
        have t0 := hB2.cell 0 _ rfl
        have t1 := hB2.cell 1 _ rfl
        have t2 := hB2.cell 2 _ rfl
        have r0 := hB2.frozen 0
        have r1 := hB2.frozen 1
        have r2 := hB2.frozen 2
        have hszz := HE.out.size
        clear HO3 HY3 HZ3 HE3 HOn HOm HYn HYm HZn HZm hB1 hB2 HI HCZ HGK
        have p00 := hide hap
        clear hap
        go_wp2_with (first | ((at_builtin; refine wpList_app rfl _ _ _ _ rfl Try.underlying37 _ 1 8 info_int rfl (by decide) rfl HY.out 1 [.int .i64 (N : Int)] (by first | rfl | simp [go_sem]) rfl ?_ ?_ ?_ ?_ ?_; (intro u hu; simp at hu; first | (subst hu; rfl) | (rcases hu with rfl | rfl <;> rfl) | (rcases hu with rfl | rfl | rfl <;> rfl) | (rcases hu with rfl | rfl | rfl | rfl <;> rfl) | (rcases hu with rfl | rfl | rfl | rfl | rfl <;> rfl) | (rcases hu with rfl | rfl | rfl | rfl | rfl | rfl <;> rfl)); omega; omega; (first | omega | (simp; omega)); intro A' c' w' ho' hg' hb'); have hYb := hide hb'; have HYn := hide ho'; have HOn := hide (HO.out.kept hg' (HO.out.ne_type HY.out (by decide))); have HZn := hide (HZ.out.kept hg' p00.out); have HB1n := hide (HB1.out.grown HY.out (by decide) hg'); have HB2n := hide (HB2.out.grown HY.out (by decide) hg'); have HEn := hide (HE.out.trans_own (Nat.le_refl _) HY.out hg'); have hapn := hide (apart_app p00.out hYb.out HZ.out); have hszn := HEn.out.size; clear hb' ho' hg' HO HY HZ HB1 HB2 HE hYb p00) | ((at_builtin; refine wpList_app rfl _ _ _ _ rfl Try.underlying37 _ 1 8 info_int rfl (by decide) rfl HZn.out 1 [.int .i64 ((N : Int) + 1)] (by first | rfl | simp [go_sem]) rfl ?_ ?_ ?_ ?_ ?_; (intro u hu; simp at hu; first | (subst hu; rfl) | (rcases hu with rfl | rfl <;> rfl) | (rcases hu with rfl | rfl | rfl <;> rfl) | (rcases hu with rfl | rfl | rfl | rfl <;> rfl) | (rcases hu with rfl | rfl | rfl | rfl | rfl <;> rfl) | (rcases hu with rfl | rfl | rfl | rfl | rfl | rfl <;> rfl)); omega; omega; (first | omega | (simp; omega)); intro A' c' w' ho' hg' hb'); have hZb := hide hb'; have HZm := hide ho'; have HOm := hide (HOn.out.kept hg' (HOn.out.ne_type HZn.out (by decide))); have HYm := hide (HYn.out.kept hg' (apart_sym hapn.out)); have HB1m := hide (HB1n.out.grown HZn.out (by decide) hg'); have HB2m := hide (HB2n.out.grown HZn.out (by decide) hg'); have HEm := hide (HEn.out.trans_own (Nat.le_refl _) HZn.out hg'); have hapm := hide (apart_sym (apart_app (apart_sym hapn.out) hZb.out HYn.out)); have hszm := HEm.out.size; have p0 := HB1m.out.cell 0 (.int .i64 1) rfl; have p1 := HB1m.out.cell 1 (.int .i64 a) rfl; have p2 := HB1m.out.cell 2 (.int .i64 b) rfl; have p3 := HB2m.out.cell 0 (.int .i64 4) rfl; have p4 := HB2m.out.cell 1 (.int .i64 (N : Int)) rfl; have p5 := HB2m.out.cell 2 (.int .i64 0) rfl; clear hb' ho' hg' hZb HOn HYn HZn HB1n HB2n HEn hapn HB1m HB2m) | ((at_builtin; refine wpList_app rfl _ _ _ _ rfl Try.underlying24 _ 3 24 info_gate rfl (by decide) rfl HOm.out 2 [.int .i64 1, .int .i64 a, .int .i64 b, .int .i64 4, .int .i64 (N : Int), .int .i64 0] (by first | rfl | simp [go_sem]) rfl ?_ ?_ ?_ ?_ ?_; (intro u hu; simp at hu; first | (subst hu; rfl) | (rcases hu with rfl | rfl <;> rfl) | (rcases hu with rfl | rfl | rfl <;> rfl) | (rcases hu with rfl | rfl | rfl | rfl <;> rfl) | (rcases hu with rfl | rfl | rfl | rfl | rfl <;> rfl) | (rcases hu with rfl | rfl | rfl | rfl | rfl | rfl <;> rfl)); omega; omega; (first | omega | (simp; omega)); intro A' c' w' ho' hg' hb'); have HOx := hide (gate_snoc2 ho'); have HYx := hide (HYm.out.kept hg' (HYm.out.ne_type HOm.out (by decide))); have HZx := hide (HZm.out.kept hg' (HZm.out.ne_type HOm.out (by decide))); have HEx := hide (HEm.out.trans_own (Nat.le_refl _) HOm.out hg'); clear hb' ho' hg' HOm HYm HZm HEm p0 p1 p2 p3 p4 p5))
        exact ⟨⟨(by (repeat (first | exact trivial | refine ⟨rfl, ?_⟩))), HEx.out, k + 1, by omega, by go_num, ⟨_, _, _, rfl, by rw [HH.out]; simp [Hid, hNl.out], by rw [HH.out]; exact HOx.out⟩, ⟨_, _, _, _, rfl, rfl, by rw [HH.out, List.map_append]; exact HYx.out, by rw [HH.out, List.map_append]; exact HZx.out, hapm.out⟩⟩, (by simp [intOf] <;> omega)⟩
      have k1' : (kk == 1) = false := by simpa using k1
      by_cases k5 : kk = 5
      · subst k5
        obtain ⟨q2, q3, hq⟩ := moveG_kind (fun x => ys.getD x.toNat 0) 5 a b
        have ha := HGK.out.2.1 a (by simp [insG])
        have hb := HGK.out.2.1 b (by simp [insG])
        obtain ⟨ja, rfl⟩ := int_nat ha.1
        obtain ⟨jb, rfl⟩ := int_nat hb.1
        have hja : ja < k := by omega
        have hjb : jb < k := by omega
        obtain ⟨gZ, rfl, -, -⟩ := HZ3.out.form (by omega)
        obtain ⟨z1, hz1', dz1, -⟩ := HZ3.out.int_at (q := ja) hja
        obtain ⟨z2, hz2', dz2, -⟩ := HZ3.out.int_at (q := jb) hjb
        rw [show pushA ys (5, (ja : Int), (jb : Int)) = (5, q2, q3) from hq, pushB_5, Int.toNat_natCast, Int.toNat_natCast, getD_some hz1'.out, getD_some hz2'.out] at HH
        have HH := hide HH
        clear ha hb hz1' hz2' HCZ HGK
        have HB1b := hide hB1
        have HB2b := hide (show BoxAt wc b2 86 #[.int .i64 6, .int .i64 0, .int .i64 0] from hB2)
        clear hB1 hB2
        go_wp2_with fail
        (with_reducible refine (l6Moved_c 5 (ja : Int) (jb : Int) Y k yy ys (fun x => ys.getD x.toNat 0) _ (HY3.out.ints (by omega)) HI.out).mono ?_)
        rw [hq]
        clear hq HI
        (try dsimp only)
        rintro e w5 ⟨rfl, he5⟩
        have hB1 := HB1b.out.ext he5
        have hB2 := HB2b.out.ext he5
        have HO4 := hide (HO3.out.ext he5)
        have HY4 := hide (HY3.out.ext he5)
        have HZ4 := hide (HZ3.out.ext he5)
        have HE4 := hide (HE3.out.trans he5)
        have v0' := he5.cell v0
        have v1' := he5.cell v1
        have v2' := he5.cell v2
        have dz1' := he5.cell dz1
        have dz2' := he5.cell dz2
        have hz1n : gZ ≠ b1 := fun hh => HZn.out (by simp [Value.ownBlock, hh])
        have hz2n : gZ ≠ b2 := fun hh => HZm.out (by simp [Value.ownBlock, hh])
        clear HO3 HY3 HZ3 HE3 v0 v1 v2 dz1 dz2 he5 HB1b HB2b
        have HB1 := hide (((BoxAt.set3 hB1).other hne).other hne : BoxAt (((((w5.setCell ⟨b1, 0, none⟩ (.int .i64 5)).setCell ⟨b1, 1, none⟩ (.int .i64 q2)).setCell ⟨b1, 2, none⟩ (.int .i64 q3)).setCell ⟨b2, 1, none⟩ (.int .i64 z1)).setCell ⟨b2, 2, none⟩ (.int .i64 z2)) b1 86 _)
        have HB2 := hide (((((hB2.other (Ne.symm hne)).other (Ne.symm hne)).other (Ne.symm hne)).set 1 _).set 2 _ : BoxAt (((((w5.setCell ⟨b1, 0, none⟩ (.int .i64 5)).setCell ⟨b1, 1, none⟩ (.int .i64 q2)).setCell ⟨b1, 2, none⟩ (.int .i64 q3)).setCell ⟨b2, 1, none⟩ (.int .i64 z1)).setCell ⟨b2, 2, none⟩ (.int .i64 z2)) b2 86 #[.int .i64 6, .int .i64 z1, .int .i64 z2])
        have HO := hide (((((HO4.out.storeOther (p := ⟨b1, 0, none⟩) (.int .i64 5) HOn.out).storeOther (p := ⟨b1, 1, none⟩) (.int .i64 q2) HOn.out).storeOther (p := ⟨b1, 2, none⟩) (.int .i64 q3) HOn.out).storeOther (p := ⟨b2, 1, none⟩) (.int .i64 z1) HOm.out).storeOther (p := ⟨b2, 2, none⟩) (.int .i64 z2) HOm.out)
        have HY := hide (((((HY4.out.storeOther (p := ⟨b1, 0, none⟩) (.int .i64 5) HYn.out).storeOther (p := ⟨b1, 1, none⟩) (.int .i64 q2) HYn.out).storeOther (p := ⟨b1, 2, none⟩) (.int .i64 q3) HYn.out).storeOther (p := ⟨b2, 1, none⟩) (.int .i64 z1) HYm.out).storeOther (p := ⟨b2, 2, none⟩) (.int .i64 z2) HYm.out)
        have HZ := hide (((((HZ4.out.storeOther (p := ⟨b1, 0, none⟩) (.int .i64 5) HZn.out).storeOther (p := ⟨b1, 1, none⟩) (.int .i64 q2) HZn.out).storeOther (p := ⟨b1, 2, none⟩) (.int .i64 q3) HZn.out).storeOther (p := ⟨b2, 1, none⟩) (.int .i64 z1) HZm.out).storeOther (p := ⟨b2, 2, none⟩) (.int .i64 z2) HZm.out)
        have HE := hide (((((HE4.out.setCell (p := ⟨b1, 0, none⟩) hwb1 (.int .i64 5)).setCell (p := ⟨b1, 1, none⟩) hwb1 (.int .i64 q2)).setCell (p := ⟨b1, 2, none⟩) hwb1 (.int .i64 q3)).setCell (p := ⟨b2, 1, none⟩) hwb2 (.int .i64 z1)).setCell (p := ⟨b2, 2, none⟩) hwb2 (.int .i64 z2))
        have t0 := hB2.cell 0 _ rfl
        have t1 := hB2.cell 1 _ rfl
        have t2 := hB2.cell 2 _ rfl
        have r0 := hB2.frozen 0
        have r1 := hB2.frozen 1
        have r2 := hB2.frozen 2
        have x0 := hB1.cell 0 _ rfl
        have x1 := hB1.cell 1 _ rfl
        have x2 := hB1.cell 2 _ rfl
        have y0 := hB1.frozen 0
        have y1 := hB1.frozen 1
        have y2 := hB1.frozen 2
        have hszz := HE.out.size
        clear HO4 HY4 HZ4 HE4 HOn HOm HYn HYm HZn HZm hB1 hB2
        have p00 := hide hap
        clear hap
        go_wp2_with (first | ((at_builtin; refine wpList_app rfl _ _ _ _ rfl Try.underlying37 _ 1 8 info_int rfl (by decide) rfl HY.out 1 [.int .i64 (N : Int)] (by first | rfl | simp [go_sem]) rfl ?_ ?_ ?_ ?_ ?_; (intro u hu; simp at hu; first | (subst hu; rfl) | (rcases hu with rfl | rfl <;> rfl) | (rcases hu with rfl | rfl | rfl <;> rfl) | (rcases hu with rfl | rfl | rfl | rfl <;> rfl) | (rcases hu with rfl | rfl | rfl | rfl | rfl <;> rfl) | (rcases hu with rfl | rfl | rfl | rfl | rfl | rfl <;> rfl)); omega; omega; (first | omega | (simp; omega)); intro A' c' w' ho' hg' hb'); have hYb := hide hb'; have HYn := hide ho'; have HOn := hide (HO.out.kept hg' (HO.out.ne_type HY.out (by decide))); have HZn := hide (HZ.out.kept hg' p00.out); have HB1n := hide (HB1.out.grown HY.out (by decide) hg'); have HB2n := hide (HB2.out.grown HY.out (by decide) hg'); have HEn := hide (HE.out.trans_own (Nat.le_refl _) HY.out hg'); have hapn := hide (apart_app p00.out hYb.out HZ.out); have hszn := HEn.out.size; clear hb' ho' hg' HO HY HZ HB1 HB2 HE hYb p00) | ((at_builtin; refine wpList_app rfl _ _ _ _ rfl Try.underlying37 _ 1 8 info_int rfl (by decide) rfl HZn.out 1 [.int .i64 ((N : Int) + 1)] (by first | rfl | simp [go_sem]) rfl ?_ ?_ ?_ ?_ ?_; (intro u hu; simp at hu; first | (subst hu; rfl) | (rcases hu with rfl | rfl <;> rfl) | (rcases hu with rfl | rfl | rfl <;> rfl) | (rcases hu with rfl | rfl | rfl | rfl <;> rfl) | (rcases hu with rfl | rfl | rfl | rfl | rfl <;> rfl) | (rcases hu with rfl | rfl | rfl | rfl | rfl | rfl <;> rfl)); omega; omega; (first | omega | (simp; omega)); intro A' c' w' ho' hg' hb'); have hZb := hide hb'; have HZm := hide ho'; have HOm := hide (HOn.out.kept hg' (HOn.out.ne_type HZn.out (by decide))); have HYm := hide (HYn.out.kept hg' (apart_sym hapn.out)); have HB1m := hide (HB1n.out.grown HZn.out (by decide) hg'); have HB2m := hide (HB2n.out.grown HZn.out (by decide) hg'); have HEm := hide (HEn.out.trans_own (Nat.le_refl _) HZn.out hg'); have hapm := hide (apart_sym (apart_app (apart_sym hapn.out) hZb.out HYn.out)); have hszm := HEm.out.size; have p0 := HB1m.out.cell 0 (.int .i64 5) rfl; have p1 := HB1m.out.cell 1 (.int .i64 q2) rfl; have p2 := HB1m.out.cell 2 (.int .i64 q3) rfl; have p3 := HB2m.out.cell 0 (.int .i64 6) rfl; have p4 := HB2m.out.cell 1 (.int .i64 z1) rfl; have p5 := HB2m.out.cell 2 (.int .i64 z2) rfl; clear hb' ho' hg' hZb HOn HYn HZn HB1n HB2n HEn hapn HB1m HB2m) | ((at_builtin; refine wpList_app rfl _ _ _ _ rfl Try.underlying24 _ 3 24 info_gate rfl (by decide) rfl HOm.out 2 [.int .i64 5, .int .i64 q2, .int .i64 q3, .int .i64 6, .int .i64 z1, .int .i64 z2] (by first | rfl | simp [go_sem]) rfl ?_ ?_ ?_ ?_ ?_; (intro u hu; simp at hu; first | (subst hu; rfl) | (rcases hu with rfl | rfl <;> rfl) | (rcases hu with rfl | rfl | rfl <;> rfl) | (rcases hu with rfl | rfl | rfl | rfl <;> rfl) | (rcases hu with rfl | rfl | rfl | rfl | rfl <;> rfl) | (rcases hu with rfl | rfl | rfl | rfl | rfl | rfl <;> rfl)); omega; omega; (first | omega | (simp; omega)); intro A' c' w' ho' hg' hb'); have HOx := hide (gate_snoc2 ho'); have HYx := hide (HYm.out.kept hg' (HYm.out.ne_type HOm.out (by decide))); have HZx := hide (HZm.out.kept hg' (HZm.out.ne_type HOm.out (by decide))); have HEx := hide (HEm.out.trans_own (Nat.le_refl _) HOm.out hg'); clear hb' ho' hg' HOm HYm HZm HEm p0 p1 p2 p3 p4 p5))
        exact ⟨⟨(by (repeat (first | exact trivial | refine ⟨rfl, ?_⟩))), HEx.out, k + 1, by omega, by go_num, ⟨_, _, _, rfl, by rw [HH.out]; simp [Hid, hNl.out], by rw [HH.out]; exact HOx.out⟩, ⟨_, _, _, _, rfl, rfl, by rw [HH.out, List.map_append]; exact HYx.out, by rw [HH.out, List.map_append]; exact HZx.out, hapm.out⟩⟩, (by simp [intOf] <;> omega)⟩
      by_cases k6 : kk = 6
      · subst k6
        obtain ⟨q2, q3, hq⟩ := moveG_kind (fun x => ys.getD x.toNat 0) 6 a b
        have ha := HGK.out.2.1 a (by simp [insG])
        have hb := HGK.out.2.1 b (by simp [insG])
        obtain ⟨ja, rfl⟩ := int_nat ha.1
        obtain ⟨jb, rfl⟩ := int_nat hb.1
        have hja : ja < k := by omega
        have hjb : jb < k := by omega
        obtain ⟨gZ, rfl, -, -⟩ := HZ3.out.form (by omega)
        obtain ⟨z1, hz1', dz1, -⟩ := HZ3.out.int_at (q := ja) hja
        obtain ⟨z2, hz2', dz2, -⟩ := HZ3.out.int_at (q := jb) hjb
        rw [show pushA ys (6, (ja : Int), (jb : Int)) = (6, q2, q3) from hq, pushB_6, Int.toNat_natCast, Int.toNat_natCast, getD_some hz1'.out, getD_some hz2'.out] at HH
        have HH := hide HH
        clear ha hb hz1' hz2' HCZ HGK
        have HB1b := hide hB1
        have HB2b := hide (show BoxAt wc b2 86 #[.int .i64 5, .int .i64 0, .int .i64 0] from hB2)
        clear hB1 hB2
        go_wp2_with fail
        (with_reducible refine (l6Moved_c 6 (ja : Int) (jb : Int) Y k yy ys (fun x => ys.getD x.toNat 0) _ (HY3.out.ints (by omega)) HI.out).mono ?_)
        rw [hq]
        clear hq HI
        (try dsimp only)
        rintro e w5 ⟨rfl, he5⟩
        have hB1 := HB1b.out.ext he5
        have hB2 := HB2b.out.ext he5
        have HO4 := hide (HO3.out.ext he5)
        have HY4 := hide (HY3.out.ext he5)
        have HZ4 := hide (HZ3.out.ext he5)
        have HE4 := hide (HE3.out.trans he5)
        have v0' := he5.cell v0
        have v1' := he5.cell v1
        have v2' := he5.cell v2
        have dz1' := he5.cell dz1
        have dz2' := he5.cell dz2
        have hz1n : gZ ≠ b1 := fun hh => HZn.out (by simp [Value.ownBlock, hh])
        have hz2n : gZ ≠ b2 := fun hh => HZm.out (by simp [Value.ownBlock, hh])
        clear HO3 HY3 HZ3 HE3 v0 v1 v2 dz1 dz2 he5 HB1b HB2b
        have HB1 := hide (((BoxAt.set3 hB1).other hne).other hne : BoxAt (((((w5.setCell ⟨b1, 0, none⟩ (.int .i64 6)).setCell ⟨b1, 1, none⟩ (.int .i64 q2)).setCell ⟨b1, 2, none⟩ (.int .i64 q3)).setCell ⟨b2, 1, none⟩ (.int .i64 z1)).setCell ⟨b2, 2, none⟩ (.int .i64 z2)) b1 86 _)
        have HB2 := hide (((((hB2.other (Ne.symm hne)).other (Ne.symm hne)).other (Ne.symm hne)).set 1 _).set 2 _ : BoxAt (((((w5.setCell ⟨b1, 0, none⟩ (.int .i64 6)).setCell ⟨b1, 1, none⟩ (.int .i64 q2)).setCell ⟨b1, 2, none⟩ (.int .i64 q3)).setCell ⟨b2, 1, none⟩ (.int .i64 z1)).setCell ⟨b2, 2, none⟩ (.int .i64 z2)) b2 86 #[.int .i64 5, .int .i64 z1, .int .i64 z2])
        have HO := hide (((((HO4.out.storeOther (p := ⟨b1, 0, none⟩) (.int .i64 6) HOn.out).storeOther (p := ⟨b1, 1, none⟩) (.int .i64 q2) HOn.out).storeOther (p := ⟨b1, 2, none⟩) (.int .i64 q3) HOn.out).storeOther (p := ⟨b2, 1, none⟩) (.int .i64 z1) HOm.out).storeOther (p := ⟨b2, 2, none⟩) (.int .i64 z2) HOm.out)
        have HY := hide (((((HY4.out.storeOther (p := ⟨b1, 0, none⟩) (.int .i64 6) HYn.out).storeOther (p := ⟨b1, 1, none⟩) (.int .i64 q2) HYn.out).storeOther (p := ⟨b1, 2, none⟩) (.int .i64 q3) HYn.out).storeOther (p := ⟨b2, 1, none⟩) (.int .i64 z1) HYm.out).storeOther (p := ⟨b2, 2, none⟩) (.int .i64 z2) HYm.out)
        have HZ := hide (((((HZ4.out.storeOther (p := ⟨b1, 0, none⟩) (.int .i64 6) HZn.out).storeOther (p := ⟨b1, 1, none⟩) (.int .i64 q2) HZn.out).storeOther (p := ⟨b1, 2, none⟩) (.int .i64 q3) HZn.out).storeOther (p := ⟨b2, 1, none⟩) (.int .i64 z1) HZm.out).storeOther (p := ⟨b2, 2, none⟩) (.int .i64 z2) HZm.out)
        have HE := hide (((((HE4.out.setCell (p := ⟨b1, 0, none⟩) hwb1 (.int .i64 6)).setCell (p := ⟨b1, 1, none⟩) hwb1 (.int .i64 q2)).setCell (p := ⟨b1, 2, none⟩) hwb1 (.int .i64 q3)).setCell (p := ⟨b2, 1, none⟩) hwb2 (.int .i64 z1)).setCell (p := ⟨b2, 2, none⟩) hwb2 (.int .i64 z2))
        have t0 := hB2.cell 0 _ rfl
        have t1 := hB2.cell 1 _ rfl
        have t2 := hB2.cell 2 _ rfl
        have r0 := hB2.frozen 0
        have r1 := hB2.frozen 1
        have r2 := hB2.frozen 2
        have x0 := hB1.cell 0 _ rfl
        have x1 := hB1.cell 1 _ rfl
        have x2 := hB1.cell 2 _ rfl
        have y0 := hB1.frozen 0
        have y1 := hB1.frozen 1
        have y2 := hB1.frozen 2
        have hszz := HE.out.size
        clear HO4 HY4 HZ4 HE4 HOn HOm HYn HYm HZn HZm hB1 hB2
        have p00 := hide hap
        clear hap
        go_wp2_with (first | ((at_builtin; refine wpList_app rfl _ _ _ _ rfl Try.underlying37 _ 1 8 info_int rfl (by decide) rfl HY.out 1 [.int .i64 (N : Int)] (by first | rfl | simp [go_sem]) rfl ?_ ?_ ?_ ?_ ?_; (intro u hu; simp at hu; first | (subst hu; rfl) | (rcases hu with rfl | rfl <;> rfl) | (rcases hu with rfl | rfl | rfl <;> rfl) | (rcases hu with rfl | rfl | rfl | rfl <;> rfl) | (rcases hu with rfl | rfl | rfl | rfl | rfl <;> rfl) | (rcases hu with rfl | rfl | rfl | rfl | rfl | rfl <;> rfl)); omega; omega; (first | omega | (simp; omega)); intro A' c' w' ho' hg' hb'); have hYb := hide hb'; have HYn := hide ho'; have HOn := hide (HO.out.kept hg' (HO.out.ne_type HY.out (by decide))); have HZn := hide (HZ.out.kept hg' p00.out); have HB1n := hide (HB1.out.grown HY.out (by decide) hg'); have HB2n := hide (HB2.out.grown HY.out (by decide) hg'); have HEn := hide (HE.out.trans_own (Nat.le_refl _) HY.out hg'); have hapn := hide (apart_app p00.out hYb.out HZ.out); have hszn := HEn.out.size; clear hb' ho' hg' HO HY HZ HB1 HB2 HE hYb p00) | ((at_builtin; refine wpList_app rfl _ _ _ _ rfl Try.underlying37 _ 1 8 info_int rfl (by decide) rfl HZn.out 1 [.int .i64 ((N : Int) + 1)] (by first | rfl | simp [go_sem]) rfl ?_ ?_ ?_ ?_ ?_; (intro u hu; simp at hu; first | (subst hu; rfl) | (rcases hu with rfl | rfl <;> rfl) | (rcases hu with rfl | rfl | rfl <;> rfl) | (rcases hu with rfl | rfl | rfl | rfl <;> rfl) | (rcases hu with rfl | rfl | rfl | rfl | rfl <;> rfl) | (rcases hu with rfl | rfl | rfl | rfl | rfl | rfl <;> rfl)); omega; omega; (first | omega | (simp; omega)); intro A' c' w' ho' hg' hb'); have hZb := hide hb'; have HZm := hide ho'; have HOm := hide (HOn.out.kept hg' (HOn.out.ne_type HZn.out (by decide))); have HYm := hide (HYn.out.kept hg' (apart_sym hapn.out)); have HB1m := hide (HB1n.out.grown HZn.out (by decide) hg'); have HB2m := hide (HB2n.out.grown HZn.out (by decide) hg'); have HEm := hide (HEn.out.trans_own (Nat.le_refl _) HZn.out hg'); have hapm := hide (apart_sym (apart_app (apart_sym hapn.out) hZb.out HYn.out)); have hszm := HEm.out.size; have p0 := HB1m.out.cell 0 (.int .i64 6) rfl; have p1 := HB1m.out.cell 1 (.int .i64 q2) rfl; have p2 := HB1m.out.cell 2 (.int .i64 q3) rfl; have p3 := HB2m.out.cell 0 (.int .i64 5) rfl; have p4 := HB2m.out.cell 1 (.int .i64 z1) rfl; have p5 := HB2m.out.cell 2 (.int .i64 z2) rfl; clear hb' ho' hg' hZb HOn HYn HZn HB1n HB2n HEn hapn HB1m HB2m) | ((at_builtin; refine wpList_app rfl _ _ _ _ rfl Try.underlying24 _ 3 24 info_gate rfl (by decide) rfl HOm.out 2 [.int .i64 6, .int .i64 q2, .int .i64 q3, .int .i64 5, .int .i64 z1, .int .i64 z2] (by first | rfl | simp [go_sem]) rfl ?_ ?_ ?_ ?_ ?_; (intro u hu; simp at hu; first | (subst hu; rfl) | (rcases hu with rfl | rfl <;> rfl) | (rcases hu with rfl | rfl | rfl <;> rfl) | (rcases hu with rfl | rfl | rfl | rfl <;> rfl) | (rcases hu with rfl | rfl | rfl | rfl | rfl <;> rfl) | (rcases hu with rfl | rfl | rfl | rfl | rfl | rfl <;> rfl)); omega; omega; (first | omega | (simp; omega)); intro A' c' w' ho' hg' hb'); have HOx := hide (gate_snoc2 ho'); have HYx := hide (HYm.out.kept hg' (HYm.out.ne_type HOm.out (by decide))); have HZx := hide (HZm.out.kept hg' (HZm.out.ne_type HOm.out (by decide))); have HEx := hide (HEm.out.trans_own (Nat.le_refl _) HOm.out hg'); clear hb' ho' hg' HOm HYm HZm HEm p0 p1 p2 p3 p4 p5))
        exact ⟨⟨(by (repeat (first | exact trivial | refine ⟨rfl, ?_⟩))), HEx.out, k + 1, by omega, by go_num, ⟨_, _, _, rfl, by rw [HH.out]; simp [Hid, hNl.out], by rw [HH.out]; exact HOx.out⟩, ⟨_, _, _, _, rfl, rfl, by rw [HH.out, List.map_append]; exact HYx.out, by rw [HH.out, List.map_append]; exact HZx.out, hapm.out⟩⟩, (by simp [intOf] <;> omega)⟩
      have k5' : (kk == 5) = false := by simpa using k5
      have k6' : (kk == 6) = false := by simpa using k6
      have k23 : kk = 2 ∨ kk = 3 := by have := HGK.out.1; (try dsimp only at this); omega
      obtain ⟨rfl, rfl⟩ : a = 0 ∧ b = 0 := HCZ.out k23
      clear HCZ HGK HI
      rcases k23 with rfl | rfl
      · rw [show pushA ys (2, 0, 0) = (2, 0, 0) by simp [pushA, moveG], pushB_2] at HH
        have HH := hide HH
        have HB1 := hide hB1
        have HB2 := hide (show BoxAt wc b2 86 #[.int .i64 3, .int .i64 0, .int .i64 0] from hB2)
        have HO := HO3
        have HY := HY3
        have HZ := HZ3
        have HE := HE3
        have hszz := HE.out.size
        clear HO3 HY3 HZ3 HE3 HOn HOm HYn HYm HZn HZm hB1 hB2
        have p00 := hide hap
        clear hap
        go_wp2_with (first | ((at_builtin; refine wpList_app rfl _ _ _ _ rfl Try.underlying37 _ 1 8 info_int rfl (by decide) rfl HY.out 1 [.int .i64 (N : Int)] (by first | rfl | simp [go_sem]) rfl ?_ ?_ ?_ ?_ ?_; (intro u hu; simp at hu; first | (subst hu; rfl) | (rcases hu with rfl | rfl <;> rfl) | (rcases hu with rfl | rfl | rfl <;> rfl) | (rcases hu with rfl | rfl | rfl | rfl <;> rfl) | (rcases hu with rfl | rfl | rfl | rfl | rfl <;> rfl) | (rcases hu with rfl | rfl | rfl | rfl | rfl | rfl <;> rfl)); omega; omega; (first | omega | (simp; omega)); intro A' c' w' ho' hg' hb'); have hYb := hide hb'; have HYn := hide ho'; have HOn := hide (HO.out.kept hg' (HO.out.ne_type HY.out (by decide))); have HZn := hide (HZ.out.kept hg' p00.out); have HB1n := hide (HB1.out.grown HY.out (by decide) hg'); have HB2n := hide (HB2.out.grown HY.out (by decide) hg'); have HEn := hide (HE.out.trans_own (Nat.le_refl _) HY.out hg'); have hapn := hide (apart_app p00.out hYb.out HZ.out); have hszn := HEn.out.size; clear hb' ho' hg' HO HY HZ HB1 HB2 HE hYb p00) | ((at_builtin; refine wpList_app rfl _ _ _ _ rfl Try.underlying37 _ 1 8 info_int rfl (by decide) rfl HZn.out 1 [.int .i64 ((N : Int) + 1)] (by first | rfl | simp [go_sem]) rfl ?_ ?_ ?_ ?_ ?_; (intro u hu; simp at hu; first | (subst hu; rfl) | (rcases hu with rfl | rfl <;> rfl) | (rcases hu with rfl | rfl | rfl <;> rfl) | (rcases hu with rfl | rfl | rfl | rfl <;> rfl) | (rcases hu with rfl | rfl | rfl | rfl | rfl <;> rfl) | (rcases hu with rfl | rfl | rfl | rfl | rfl | rfl <;> rfl)); omega; omega; (first | omega | (simp; omega)); intro A' c' w' ho' hg' hb'); have hZb := hide hb'; have HZm := hide ho'; have HOm := hide (HOn.out.kept hg' (HOn.out.ne_type HZn.out (by decide))); have HYm := hide (HYn.out.kept hg' (apart_sym hapn.out)); have HB1m := hide (HB1n.out.grown HZn.out (by decide) hg'); have HB2m := hide (HB2n.out.grown HZn.out (by decide) hg'); have HEm := hide (HEn.out.trans_own (Nat.le_refl _) HZn.out hg'); have hapm := hide (apart_sym (apart_app (apart_sym hapn.out) hZb.out HYn.out)); have hszm := HEm.out.size; have p0 := HB1m.out.cell 0 (.int .i64 2) rfl; have p1 := HB1m.out.cell 1 (.int .i64 0) rfl; have p2 := HB1m.out.cell 2 (.int .i64 0) rfl; have p3 := HB2m.out.cell 0 (.int .i64 3) rfl; have p4 := HB2m.out.cell 1 (.int .i64 0) rfl; have p5 := HB2m.out.cell 2 (.int .i64 0) rfl; clear hb' ho' hg' hZb HOn HYn HZn HB1n HB2n HEn hapn HB1m HB2m) | ((at_builtin; refine wpList_app rfl _ _ _ _ rfl Try.underlying24 _ 3 24 info_gate rfl (by decide) rfl HOm.out 2 [.int .i64 2, .int .i64 0, .int .i64 0, .int .i64 3, .int .i64 0, .int .i64 0] (by first | rfl | simp [go_sem]) rfl ?_ ?_ ?_ ?_ ?_; (intro u hu; simp at hu; first | (subst hu; rfl) | (rcases hu with rfl | rfl <;> rfl) | (rcases hu with rfl | rfl | rfl <;> rfl) | (rcases hu with rfl | rfl | rfl | rfl <;> rfl) | (rcases hu with rfl | rfl | rfl | rfl | rfl <;> rfl) | (rcases hu with rfl | rfl | rfl | rfl | rfl | rfl <;> rfl)); omega; omega; (first | omega | (simp; omega)); intro A' c' w' ho' hg' hb'); have HOx := hide (gate_snoc2 ho'); have HYx := hide (HYm.out.kept hg' (HYm.out.ne_type HOm.out (by decide))); have HZx := hide (HZm.out.kept hg' (HZm.out.ne_type HOm.out (by decide))); have HEx := hide (HEm.out.trans_own (Nat.le_refl _) HOm.out hg'); clear hb' ho' hg' HOm HYm HZm HEm p0 p1 p2 p3 p4 p5))
        exact ⟨⟨(by (repeat (first | exact trivial | refine ⟨rfl, ?_⟩))), HEx.out, k + 1, by omega, by go_num, ⟨_, _, _, rfl, by rw [HH.out]; simp [Hid, hNl.out], by rw [HH.out]; exact HOx.out⟩, ⟨_, _, _, _, rfl, rfl, by rw [HH.out, List.map_append]; exact HYx.out, by rw [HH.out, List.map_append]; exact HZx.out, hapm.out⟩⟩, (by simp [intOf] <;> omega)⟩
      · rw [show pushA ys (3, 0, 0) = (3, 0, 0) by simp [pushA, moveG], pushB_3] at HH
        have HH := hide HH
        have HB1 := hide hB1
        have HB2 := hide (show BoxAt wc b2 86 #[.int .i64 2, .int .i64 0, .int .i64 0] from hB2)
        have HO := HO3
        have HY := HY3
        have HZ := HZ3
        have HE := HE3
        have hszz := HE.out.size
        clear HO3 HY3 HZ3 HE3 HOn HOm HYn HYm HZn HZm hB1 hB2
        have p00 := hide hap
        clear hap
        go_wp2_with (first | ((at_builtin; refine wpList_app rfl _ _ _ _ rfl Try.underlying37 _ 1 8 info_int rfl (by decide) rfl HY.out 1 [.int .i64 (N : Int)] (by first | rfl | simp [go_sem]) rfl ?_ ?_ ?_ ?_ ?_; (intro u hu; simp at hu; first | (subst hu; rfl) | (rcases hu with rfl | rfl <;> rfl) | (rcases hu with rfl | rfl | rfl <;> rfl) | (rcases hu with rfl | rfl | rfl | rfl <;> rfl) | (rcases hu with rfl | rfl | rfl | rfl | rfl <;> rfl) | (rcases hu with rfl | rfl | rfl | rfl | rfl | rfl <;> rfl)); omega; omega; (first | omega | (simp; omega)); intro A' c' w' ho' hg' hb'); have hYb := hide hb'; have HYn := hide ho'; have HOn := hide (HO.out.kept hg' (HO.out.ne_type HY.out (by decide))); have HZn := hide (HZ.out.kept hg' p00.out); have HB1n := hide (HB1.out.grown HY.out (by decide) hg'); have HB2n := hide (HB2.out.grown HY.out (by decide) hg'); have HEn := hide (HE.out.trans_own (Nat.le_refl _) HY.out hg'); have hapn := hide (apart_app p00.out hYb.out HZ.out); have hszn := HEn.out.size; clear hb' ho' hg' HO HY HZ HB1 HB2 HE hYb p00) | ((at_builtin; refine wpList_app rfl _ _ _ _ rfl Try.underlying37 _ 1 8 info_int rfl (by decide) rfl HZn.out 1 [.int .i64 ((N : Int) + 1)] (by first | rfl | simp [go_sem]) rfl ?_ ?_ ?_ ?_ ?_; (intro u hu; simp at hu; first | (subst hu; rfl) | (rcases hu with rfl | rfl <;> rfl) | (rcases hu with rfl | rfl | rfl <;> rfl) | (rcases hu with rfl | rfl | rfl | rfl <;> rfl) | (rcases hu with rfl | rfl | rfl | rfl | rfl <;> rfl) | (rcases hu with rfl | rfl | rfl | rfl | rfl | rfl <;> rfl)); omega; omega; (first | omega | (simp; omega)); intro A' c' w' ho' hg' hb'); have hZb := hide hb'; have HZm := hide ho'; have HOm := hide (HOn.out.kept hg' (HOn.out.ne_type HZn.out (by decide))); have HYm := hide (HYn.out.kept hg' (apart_sym hapn.out)); have HB1m := hide (HB1n.out.grown HZn.out (by decide) hg'); have HB2m := hide (HB2n.out.grown HZn.out (by decide) hg'); have HEm := hide (HEn.out.trans_own (Nat.le_refl _) HZn.out hg'); have hapm := hide (apart_sym (apart_app (apart_sym hapn.out) hZb.out HYn.out)); have hszm := HEm.out.size; have p0 := HB1m.out.cell 0 (.int .i64 3) rfl; have p1 := HB1m.out.cell 1 (.int .i64 0) rfl; have p2 := HB1m.out.cell 2 (.int .i64 0) rfl; have p3 := HB2m.out.cell 0 (.int .i64 2) rfl; have p4 := HB2m.out.cell 1 (.int .i64 0) rfl; have p5 := HB2m.out.cell 2 (.int .i64 0) rfl; clear hb' ho' hg' hZb HOn HYn HZn HB1n HB2n HEn hapn HB1m HB2m) | ((at_builtin; refine wpList_app rfl _ _ _ _ rfl Try.underlying24 _ 3 24 info_gate rfl (by decide) rfl HOm.out 2 [.int .i64 3, .int .i64 0, .int .i64 0, .int .i64 2, .int .i64 0, .int .i64 0] (by first | rfl | simp [go_sem]) rfl ?_ ?_ ?_ ?_ ?_; (intro u hu; simp at hu; first | (subst hu; rfl) | (rcases hu with rfl | rfl <;> rfl) | (rcases hu with rfl | rfl | rfl <;> rfl) | (rcases hu with rfl | rfl | rfl | rfl <;> rfl) | (rcases hu with rfl | rfl | rfl | rfl | rfl <;> rfl) | (rcases hu with rfl | rfl | rfl | rfl | rfl | rfl <;> rfl)); omega; omega; (first | omega | (simp; omega)); intro A' c' w' ho' hg' hb'); have HOx := hide (gate_snoc2 ho'); have HYx := hide (HYm.out.kept hg' (HYm.out.ne_type HOm.out (by decide))); have HZx := hide (HZm.out.kept hg' (HZm.out.ne_type HOm.out (by decide))); have HEx := hide (HEm.out.trans_own (Nat.le_refl _) HOm.out hg'); clear hb' ho' hg' HOm HYm HZm HEm p0 p1 p2 p3 p4 p5))
        exact ⟨⟨(by (repeat (first | exact trivial | refine ⟨rfl, ?_⟩))), HEx.out, k + 1, by omega, by go_num, ⟨_, _, _, rfl, by rw [HH.out]; simp [Hid, hNl.out], by rw [HH.out]; exact HOx.out⟩, ⟨_, _, _, _, rfl, rfl, by rw [HH.out, List.map_append]; exact HYx.out, by rw [HH.out, List.map_append]; exact HZx.out, hapm.out⟩⟩, (by simp [intOf] <;> omega)⟩
  · obtain rfl : k = n := by omega
    have hlg := hl.out
    obtain ⟨v3, hv⟩ : ∃ v, ys[k - 1]? = some v := ⟨_, List.getElem?_eq_getElem (by omega)⟩
    have hvr := hok.ry v3 (List.mem_of_getElem? hv)
    obtain ⟨m, rfl⟩ := int_nat hvr.1
    have hmN : m < N := by have := hNl.out; omega
    have hD2 : dec = decide (N ≤ 200) := by rw [HDec.out, ← hlg, hP, ← hNl.out]
    have hPG : pushG gs = trimG (O.take (m + 1)) := by
      unfold pushG
      rw [← hlg, hP]
      dsimp only
      rw [List.getD_eq_getElem?_getD, hv]; rfl
    have hR2 : RR = if decide (N ≤ 200) then trimG (O.take (m + 1)) else [] := by rw [← HRR.out, hD2, hPG]
    clear hPG HDec HRR
    by_cases hN : N ≤ 200
    · rw [show decide (N ≤ 200) = true by simpa using hN] at hD2 hR2
      rw [if_pos rfl] at hR2
      subst hD2
      have HR2 := hide hR2
      clear hR2
      have hcap := ho.capK
      obtain ⟨gY, rfl, -, -⟩ := hoy.form (by omega)
      have hdT : wr.cell? ⟨gY, k - 1, none⟩ = some (.int .i64 (m : Int)) := hoy.cell (get_map_int hv)
      have hGt := hide ((ObF.of (e := 86) (sz := 3) ho (by omega)).gates.take (m + 1) (by omega))
      have hGG := hide (hok.good.take (m + 1))
      have HE := hide he
      have HLe : Hid ((trimG (O.take (m + 1))).length ≤ 200) := hide (by unfold trimG; rw [trimTo_length]; have := countB_le (mark (O.take (m + 1))) (O.take (m + 1)).length; have := hNl.out; simp at *; omega)
      have hNi : (N : Int) ≤ 200 := by omega
      clear ho hoy hoz hP hok hv hvr he hap hlg HZc HG
      go_wp2_with fail
      (with_reducible refine (l6Trim_c _ _ _ (O.take (m + 1)) _ hGt.out hGG.out (by omega) (by omega)).mono ?_)
      rintro e w5 ⟨A5, n5, c5, rfl, hl5, ho5, he5⟩
      have hN5 : n5 ≤ 200 := by have := hl5.out; have := HLe.out; omega
      go_wp2_with fail
      go_ret2
      exact ⟨_, _, _, rfl, by rw [HR2.out]; exact ObF.of (ho5.lower hsz) (by omega), HE.out.trans he5⟩
    · rw [show decide (N ≤ 200) = false by simpa using hN] at hD2 hR2
      rw [if_neg (by simp)] at hR2
      subst hD2
      have HR2 := hide hR2
      clear hR2
      have hNi : (200 : Int) < (N : Int) := by omega
      have HE := hide he
      clear ho hoy hoz hP hok hv hvr he hap hlg HZc HG
      go_wp2_with fail
      go_ret2
      exact ⟨_, _, _, rfl, by rw [HR2.out]; simpa [fl] using ObF.empty (e := 86) (sz := 3) (W := wr) (lo := w.heap.size) hsz, HE.out.alloc _⟩
end Go.Proofs.Ytcbjaomjamfjcaa
