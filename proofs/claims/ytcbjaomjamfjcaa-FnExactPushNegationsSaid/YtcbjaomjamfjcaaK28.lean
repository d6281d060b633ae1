/-
  Pushing negations: the program's text; no condition.
-/
import Derived.Test.YtcbjaomjamfjcaaK28a
import Derived.Deep.DeepCutAuto
namespace Go.Proofs.Ytcbjaomjamfjcaa
set_option linter.unusedSimpArgs false
set_option linter.unusedVariables false
open Go.RowKit

theorem made_own {w : World} {base g n : Nat} (h : BoxAt w g 3 (madeCells #[.int .i64 0] n)) (hg : base ≤ g) (hn : n ≤ 200) : Own w base 3 1 (some ⟨g, 0, none⟩) n n ((List.replicate n (0 : Int)).map (Value.int .i64)) :=
  h.own hg (by omega) (by rw [toList_madeCells_one]; simp) (by simp)
theorem BoxAt.made_atK {w : World} {g : Nat} {t : TypeId} {cs : Array Value} (hg : g = w.heap.size) : BoxAt (w.alloc (.cells cs t)) g t cs := by subst hg; exact BoxAt.made _ _ _
theorem BoxAt.alloc_oldK {w : World} {g : Nat} {t : TypeId} {cs : Array Value} {o : Obj} (h : BoxAt w g t cs) : BoxAt (w.alloc o) g t cs := h.ext ((Ext.refl w).alloc o)
theorem BoxAt.drew_oldK {w : World} {g : Nat} {t : TypeId} {cs : Array Value} (h : BoxAt w g t cs) : BoxAt w.drew g t cs := h.ext (Ext.refl w).drew
theorem BoxAt.ne_own {w : World} {b : Nat} {t : TypeId} {cs : Array Value} (h : BoxAt w b t cs) {base : Nat} {e : TypeId} {size T n c : Nat} {us : List Value} (ho : Own w base e size (some ⟨T, 0, none⟩) n c us) (hne : t ≠ e) : b ≠ T :=
  fun e => h.ne ho hne (by simp [Value.ownBlock, e])
theorem getD_someK {xs : List Int} {j : Nat} {v : Int} (h : xs[j]? = some v) : xs.getD j 0 = v := by rw [List.getD_eq_getElem?_getD, h]; rfl
set_option maxRecDepth 100000 in
set_option maxHeartbeats 32000000 in
theorem impl_PushNegations_o (v : Int) (A : Option Addr) (n d : Nat) (gs : List Gt) (w : World) (h : Gates w A n gs) :
    Calls Try.prog 41 #[.int .i64 v, .slice A n d] w fun e w' =>
      ∃ A' n' c', e = .returned (.tuple #[.slice A' n' c', .bool (pushOkB v gs)]) ∧ ObF 86 3 w' w.heap.size w'.heap.size A' n' c' (fl (if pushOkB v gs then pushG gs else [])) ∧ Ext w w' := by
  have hl := hide h.len
  cases h1 : circB v gs
  · have hk : pushOkB v gs = false := by simp [pushOkB, h1]
    rw [hk]
    simp only [Bool.false_eq_true, if_false, fl]
    have H1 := hide h1
    clear h1 hk
    go_enter Try.func41, Try.ntmps41
    go_wp2_with (go_at_call 69; refine (impl_IsCircuit_c _ _ _ _ gs _ (h.ext (by (repeat (first | with_reducible exact Ext.refl _ | with_reducible assumption | ((with_reducible refine Ext.setCell ?_ ?_ _); rotate_left; focus (first | omega | (simp <;> omega))) | with_reducible refine Ext.alloc ?_ _ | with_reducible refine Ext.drewN ?_ _ | with_reducible refine Ext.drew ?_ | with_reducible refine Ext.trans ?_ (by with_reducible assumption)))))).mono ?_; rw [H1.out]; rintro e w1 ⟨rfl, he1⟩)
    go_ret2
    exact ⟨_, _, _, rfl, ObF.nil, by (repeat (first | with_reducible exact Ext.refl _ | with_reducible assumption | ((with_reducible refine Ext.setCell ?_ ?_ _); rotate_left; focus (first | omega | (simp <;> omega))) | with_reducible refine Ext.alloc ?_ _ | with_reducible refine Ext.drewN ?_ _ | with_reducible refine Ext.drew ?_ | with_reducible refine Ext.trans ?_ (by with_reducible assumption)))⟩
  obtain ⟨-, hc2, hc3⟩ := circ_facts h1
  have hn : n ≤ 200 := by rw [hl.out]; exact hc2.2
  have hn1 : 1 ≤ n := by rw [hl.out]; exact hc2.1
  have HG := hide hc3
  have H1 := hide h1
  have hpk := hide (show pushOkB v gs = decide ((pushTo gs gs.length).1.length ≤ 200) by simp [pushOkB, h1])
  rw [hpk.out]
  clear hpk h1 hc2 hc3
  obtain ⟨dec, hdec⟩ : ∃ dec, dec = decide ((pushTo gs gs.length).1.length ≤ 200) := ⟨_, rfl⟩
  rw [← hdec]
  have HDec := hide hdec
  clear hdec
  obtain ⟨RR, hRR⟩ : ∃ RR, (if dec = true then pushG gs else []) = RR := ⟨_, rfl⟩
  rw [hRR]
  have HRR := hide hRR
  clear hRR
  have hmk := fun W => make_eq (P := Try.prog) 37 3 Try.underlying37 _ 8 info_int rfl n (by omega) (by omega) W
  go_enter Try.func41, Try.ntmps41
  go_wp2_with fail
  refine (impl_IsCircuit_c _ _ _ _ gs _ (h.ext (by (repeat (first | with_reducible exact Ext.refl _ | with_reducible assumption | ((with_reducible refine Ext.setCell ?_ ?_ _); rotate_left; focus (first | omega | (simp <;> omega))) | with_reducible refine Ext.alloc ?_ _ | with_reducible refine Ext.drewN ?_ _ | with_reducible refine Ext.drew ?_ | with_reducible refine Ext.trans ?_ (by with_reducible assumption)))))).mono ?_; rw [H1.out]; rintro e w1 ⟨rfl, he1⟩
  have hz1 := he1.size
  go_wp2_with fail
  obtain ⟨W1, hW1⟩ : ∃ W1, W1 = w1.alloc (.cells #[.slice none 0 0] 24) := ⟨_, rfl⟩
  have e1 : Ext w W1 := by rw [hW1]; exact he1.alloc _
  have hX0 : BoxAt W1 w1.heap.size 24 #[.slice none 0 0] := by rw [hW1]; exact BoxAt.made _ _ _
  have hXl := hX0.lt
  rw [← hW1]
  clear hW1 he1
  go_cut [8, 9, 19, 22] (fun s8 s9 s19 s22 wx => ∃ b1 b2 T1 T2 : Nat, s19 = .slice (some ⟨T1, 0, none⟩) n n ∧ s22 = .slice (some ⟨T2, 0, none⟩) n n ∧ (b1 ≠ b2 ∧ T1 ≠ T2 ∧ w1.heap.size < b1 ∧ w1.heap.size < b2 ∧ w1.heap.size < T1 ∧ w1.heap.size < T2) ∧ s8 = .pointer (some ⟨b1, 0, none⟩) ∧ s9 = .pointer (some ⟨b2, 0, none⟩) ∧ BoxAt wx b1 37 #[.slice (some ⟨T1, 0, none⟩) n n] ∧ BoxAt wx b2 37 #[.slice (some ⟨T2, 0, none⟩) n n] ∧ BoxAt wx T1 3 (madeCells #[.int .i64 0] n) ∧ BoxAt wx T2 3 (madeCells #[.int .i64 0] n) ∧ Ext W1 wx)
  case first =>
    go_region_held3 (fun w' => True) (trivial) (fail)
    all_goals
      go_wp2_with fail
      go_meet
      refine ⟨_, _, _, _, rfl, rfl, ?hne, rfl, rfl, ?hb1, ?hb2, ?hm1, ?hm2, by (repeat (first | with_reducible exact Ext.refl _ | with_reducible assumption | ((with_reducible refine Ext.setCell ?_ ?_ _); rotate_left; focus (first | omega | (simp <;> omega))) | with_reducible refine Ext.alloc ?_ _ | with_reducible refine Ext.drewN ?_ _ | with_reducible refine Ext.drew ?_ | with_reducible refine Ext.trans ?_ (by with_reducible assumption)))⟩
      case hb1 => repeat (first | (with_reducible refine BoxAt.made_atK ?_; (first | rfl | (simp; done))) | with_reducible refine BoxAt.drew_oldK ?_ | with_reducible refine BoxAt.alloc_oldK ?_)
      case hb2 => repeat (first | (with_reducible refine BoxAt.made_atK ?_; (first | rfl | (simp; done))) | with_reducible refine BoxAt.drew_oldK ?_ | with_reducible refine BoxAt.alloc_oldK ?_)
      case hm1 => repeat (first | (with_reducible refine BoxAt.made_atK ?_; (first | rfl | (simp; done))) | with_reducible refine BoxAt.drew_oldK ?_ | with_reducible refine BoxAt.alloc_oldK ?_)
      case hm2 => repeat (first | (with_reducible refine BoxAt.made_atK ?_; (first | rfl | (simp; done))) | with_reducible refine BoxAt.drew_oldK ?_ | with_reducible refine BoxAt.alloc_oldK ?_)
      case hne => refine ⟨?_, ?_, ?_, ?_, ?_, ?_⟩ <;> first | omega | (simp <;> omega)
  case rest =>
  obtain ⟨b1, b2, T1, T2, rfl, rfl, ⟨hb12, hT12, hb1X, hb2X, hT1X, hT2X⟩, rfl, rfl, hB1, hB2, hM1, hM2, eC⟩ := hcut
  have hO0 : Outs wc w1.heap.size w.heap.size none 0 0 (pushTo gs 0).1 := ⟨hX0.ext eC, Own.nil _ _ _ _, rfl⟩
  have hT1 : Own wc w.heap.size 3 1 (some ⟨T1, 0, none⟩) n n (((pushTo gs 0).2.1 ++ List.replicate (n - 0) (0 : Int)).map (Value.int .i64)) := by simpa [pushTo] using made_own (base := w.heap.size) hM1 (by omega) hn
  have hT2 : Own wc w.heap.size 3 1 (some ⟨T2, 0, none⟩) n n (((pushTo gs 0).2.2 ++ List.replicate (n - 0) (0 : Int)).map (Value.int .i64)) := by simpa [pushTo] using made_own (base := w.heap.size) hM2 (by omega) hn
  have eC' := e1.trans eC
  have HO0 := hide hO0
  have HT1 := hide hT1
  have HT2 := hide hT2
  have HB1 := hide hB1
  have HB2 := hide hB2
  have HE0 := hide eC'
  clear hO0 hT1 hT2 hB1 hB2 hM1 hM2 eC eC' e1 hX0 hmk hXl
  go_wp2_with fail
  refine wp_loopF 97 _ rfl rfl [1, 6, 7, 8, 9, 23, 24, 84, 85, 86, 87, 88, 89, 90, 91, 92, 93, 94, 95, 96] rfl (fun fr wr => Ext w wr ∧ BoxAt wr b1 37 #[.slice (some ⟨T1, 0, none⟩) n n] ∧ BoxAt wr b2 37 #[.slice (some ⟨T2, 0, none⟩) n n] ∧ ∃ k : Nat, k ≤ n ∧ (fr 25) = .int .i64 k ∧ (∃ A' N y, Outs wr w1.heap.size w.heap.size A' N y (pushTo gs k).1) ∧ Own wr w.heap.size 3 1 (some ⟨T1, 0, none⟩) n n (((pushTo gs k).2.1 ++ List.replicate (n - k) (0 : Int)).map (Value.int .i64)) ∧ Own wr w.heap.size 3 1 (some ⟨T2, 0, none⟩) n n (((pushTo gs k).2.2 ++ List.replicate (n - k) (0 : Int)).map (Value.int .i64))) (fun fr wr => n - (intOf (fr 25)).toNat) ?_ ?_
  · (exact ⟨HE0.out, HB1.out, HB2.out, 0, by omega, rfl, ⟨_, _, _, HO0.out⟩, HT1.out, HT2.out⟩)
  intro ks fr wr hkept hrel; (try dsimp only at hrel)
  change Code.wp _ _ _ ⟨#[fr 0, ks 1, fr 2, fr 3, fr 4, fr 5, ks 6, ks 7, ks 8, ks 9, fr 10, fr 11, fr 12, fr 13, fr 14, fr 15, fr 16, fr 17, fr 18, fr 19, fr 20, fr 21, fr 22, ks 23, ks 24, fr 25, fr 26, fr 27, fr 28, fr 29, fr 30, fr 31, fr 32, fr 33, fr 34, fr 35, fr 36, fr 37, fr 38, fr 39, fr 40, fr 41, fr 42, fr 43, fr 44, fr 45, fr 46, fr 47, fr 48, fr 49, fr 50, fr 51, fr 52, fr 53, fr 54, fr 55, fr 56, fr 57, fr 58, fr 59, fr 60, fr 61, fr 62, fr 63, fr 64, fr 65, fr 66, fr 67, fr 68, fr 69, fr 70, fr 71, fr 72, fr 73, fr 74, fr 75, fr 76, fr 77, fr 78, fr 79, fr 80, fr 81, fr 82, fr 83, ks 84, ks 85, ks 86, ks 87, ks 88, ks 89, ks 90, ks 91, ks 92, ks 93, ks 94, ks 95, ks 96], []⟩ wr
  simp only [KeptV, List.getD_cons_zero, List.getD_cons_succ] at hkept; obtain ⟨hk1, hk6, hk7, hk8, hk9, hk23, hk24, hk84, hk85, hk86, hk87, hk88, hk89, hk90, hk91, hk92, hk93, hk94, hk95, hk96, -⟩ := hkept
  generalize ks 1 = k1 at hk1 ⊢; subst hk1
  generalize ks 6 = k6 at hk6 ⊢; subst hk6
  generalize ks 7 = k7 at hk7 ⊢; subst hk7
  generalize ks 8 = k8 at hk8 ⊢; subst hk8
  generalize ks 9 = k9 at hk9 ⊢; subst hk9
  generalize ks 23 = k23 at hk23 ⊢; subst hk23
  generalize ks 24 = k24 at hk24 ⊢; subst hk24
  generalize ks 84 = k84 at hk84 ⊢; subst hk84
  generalize ks 85 = k85 at hk85 ⊢; subst hk85
  generalize ks 86 = k86 at hk86 ⊢; subst hk86
  generalize ks 87 = k87 at hk87 ⊢; subst hk87
  generalize ks 88 = k88 at hk88 ⊢; subst hk88
  generalize ks 89 = k89 at hk89 ⊢; subst hk89
  generalize ks 90 = k90 at hk90 ⊢; subst hk90
  generalize ks 91 = k91 at hk91 ⊢; subst hk91
  generalize ks 92 = k92 at hk92 ⊢; subst hk92
  generalize ks 93 = k93 at hk93 ⊢; subst hk93
  generalize ks 94 = k94 at hk94 ⊢; subst hk94
  generalize ks 95 = k95 at hk95 ⊢; subst hk95
  generalize ks 96 = k96 at hk96 ⊢; subst hk96
  generalize fr 25 = s25 at hrel ⊢
  clear HO0 HT1 HT2 HB1 HB2 HE0
  obtain ⟨he, hB1, hB2, k, hk, hs1', ⟨A', N, y, hO⟩, hT1, hT2⟩ := hrel
  subst hs1'
  have hsz := he.size
  have hok := pushTo_ok HG.out k (by rw [← hl.out]; exact hk)
  obtain ⟨⟨O, ys, ns⟩, hP⟩ : ∃ P, pushTo gs k = P := ⟨_, rfl⟩
  rw [hP] at hok hO hT1 hT2
  dsimp only at hok hO hT1 hT2
  have hly := hok.ly
  have hln := hok.ln
  have hNle := hok.le
  have hNl := hO.len
  have hN2 : N ≤ 400 := by omega
  have n11 := hB1.ne_own hT1 (by decide)
  have n12 := hB1.ne_own hT2 (by decide)
  have n21 := hB2.ne_own hT1 (by decide)
  have n22 := hB2.ne_own hT2 (by decide)
  have hB1l := hB1.lt
  have hB2l := hB2.lt
  have hT1l := (hT1.lt T1 rfl).2
  have hT2l := (hT2.lt T2 rfl).2
  have hXl := hO.box.lt
  by_cases hlt : k < n
  · obtain ⟨gb, kk, a, b, rfl, hx, c0, c1, c2⟩ := (h.ext he).at_ hlt
    have hgk := HG.out k _ hx.out
    by_cases h4 : kk = 4
    · subst h4
      have ha := hgk.2.1 a (by simp [insG])
      obtain ⟨j, rfl⟩ := int_nat ha.1
      have hjk : j < k := by omega
      have hjn : j < n := by omega
      obtain ⟨v1, hv1⟩ : ∃ v1, ns[j]? = some v1 := ⟨_, List.getElem?_eq_getElem (by omega)⟩
      obtain ⟨v2, hv2⟩ : ∃ v2, ys[j]? = some v2 := ⟨_, List.getElem?_eq_getElem (by omega)⟩
      have HH := pushTo_not hx
      rw [hP] at HH
      dsimp only at HH
      rw [Int.toNat_natCast, getD_someK hv1, getD_someK hv2] at HH
      have HH := hide HH
      obtain ⟨W2, hW2⟩ : ∃ W2, W2 = wr.alloc (.cells #[.int .i64 4, .int .i64 (j : Int), .int .i64 b] 86) := ⟨_, rfl⟩
      have e2 : Ext wr W2 := by rw [hW2]; exact (Ext.refl wr).alloc _
      have hbg : BoxAt W2 wr.heap.size 86 #[.int .i64 4, .int .i64 (j : Int), .int .i64 b] := by rw [hW2]; exact BoxAt.made _ _ _
      have eD1 := e2.drew
      -- the first store's world
      have hT1s := (hT1.ext eD1).setInt k v1
      have hT2s := (hT2.ext eD1).storeOther (p := ⟨T1, k, none⟩) (.int .i64 v1) (by simp [Value.ownBlock]; omega)
      have hB1s := (hB1.ext eD1).setOther (p := ⟨T1, k, none⟩) n11 (.int .i64 v1)
      have hB2s := (hB2.ext eD1).setOther (p := ⟨T1, k, none⟩) n21 (.int .i64 v1)
      have hbgs := (hbg.ext (Ext.refl W2).drew).setOther (p := ⟨T1, k, none⟩) (by simp; omega) (.int .i64 v1)
      have hOs := (hO.ext eD1).store (hT1.ext eD1) (by omega) k (.int .i64 v1)
      have eS1 := (he.trans eD1).setCell (p := ⟨T1, k, none⟩) (by simp; omega) (.int .i64 v1)
      have eD2 := (Ext.refl (W2.drew.setCell ⟨T1, k, none⟩ (.int .i64 v1))).drew
      -- the second store's world
      have hT2t := (hT2s.ext eD2).setInt k v2
      have hT1t := (hT1s.ext eD2).storeOther (p := ⟨T2, k, none⟩) (.int .i64 v2) (by simp [Value.ownBlock]; omega)
      have hB1t := (hB1s.ext eD2).setOther (p := ⟨T2, k, none⟩) n12 (.int .i64 v2)
      have hB2t := (hB2s.ext eD2).setOther (p := ⟨T2, k, none⟩) n22 (.int .i64 v2)
      have hbgt := (hbgs.ext eD2).setOther (p := ⟨T2, k, none⟩) (by simp; omega) (.int .i64 v2)
      have hOt := (hOs.ext eD2).store (hT2s.ext eD2) (by omega) k (.int .i64 v2)
      have eS2 := (eS1.drew).setCell (p := ⟨T2, k, none⟩) (by simp; omega) (.int .i64 v2)
      -- the cells
      have r1 : W2.cell? ⟨wr.heap.size, 0, none⟩ = some (.int .i64 4) := hbg.cell 0 _ rfl
      have a1 := (hB1.ext eD1).cell 0 (.slice (some ⟨T1, 0, none⟩) n n) rfl
      have a2 := (hB2.ext eD1).cell 0 (.slice (some ⟨T2, 0, none⟩) n n) rfl
      have a3 := (hbg.ext (Ext.refl W2).drew).cell 1 (.int .i64 (j : Int)) rfl
      have a4 : W2.drew.cell? ⟨T2, j, none⟩ = some (.int .i64 v1) := (hT2.ext eD1).cell (get_map_int (by rw [List.getElem?_append_left (by omega)]; exact hv1))
      obtain ⟨o1, -, a5, a6⟩ := (hT1.ext eD1).int_at (q := k) hlt
      have p1 := hB1s.cell 0 (.slice (some ⟨T1, 0, none⟩) n n) rfl
      have p2 := hB2s.cell 0 (.slice (some ⟨T2, 0, none⟩) n n) rfl
      have p3 := hbgs.cell 1 (.int .i64 (j : Int)) rfl
      have p4 : (W2.drew.setCell ⟨T1, k, none⟩ (.int .i64 v1)).cell? ⟨T2, j, none⟩ = some (.int .i64 v1) := hT2s.cell (get_map_int (by rw [List.getElem?_append_left (by omega)]; exact hv1))
      have s1 := (hB1s.ext eD2).cell 0 (.slice (some ⟨T1, 0, none⟩) n n) rfl
      have s2 := (hB2s.ext eD2).cell 0 (.slice (some ⟨T2, 0, none⟩) n n) rfl
      have s3 := (hbgs.ext eD2).cell 1 (.int .i64 (j : Int)) rfl
      have s4 : (W2.drew.setCell ⟨T1, k, none⟩ (.int .i64 v1)).drew.cell? ⟨T1, j, none⟩ = some (.int .i64 v2) := (hT1s.ext eD2).cell (get_map_int (by rw [List.getElem?_set_ne (by omega), List.getElem?_append_left (by omega)]; exact hv2))
      obtain ⟨o2, -, s5, s6⟩ := (hT2s.ext eD2).int_at (q := k) hlt
      have t1 := hB1t.cell 0 (.slice (some ⟨T1, 0, none⟩) n n) rfl
      have t2 := hB2t.cell 0 (.slice (some ⟨T2, 0, none⟩) n n) rfl
      have t3 := hbgt.cell 1 (.int .i64 (j : Int)) rfl
      have t4 : ((W2.drew.setCell ⟨T1, k, none⟩ (.int .i64 v1)).drew.setCell ⟨T2, k, none⟩ (.int .i64 v2)).cell? ⟨T1, j, none⟩ = some (.int .i64 v2) := hT1t.cell (get_map_int (by rw [List.getElem?_set_ne (by omega), List.getElem?_append_left (by omega)]; exact hv2))
      rw [fold_ts hly hlt] at hT1t
      rw [fold_ts hln hlt] at hT2t
      have HT1t := hide hT1t
      have HT2t := hide hT2t
      have HB1t := hide hB1t
      have HB2t := hide hB2t
      have HOt := hide hOt
      have HEt := hide eS2
      obtain ⟨S1, hS1⟩ : ∃ S1, S1 = (W2.setCell ⟨T1, k, none⟩ (.int .i64 v1)).drew := ⟨_, rfl⟩
      have hcm : W2.drew.setCell ⟨T1, k, none⟩ (.int .i64 v1) = S1 := by rw [hS1]; rfl
      rw [hcm] at s1 s2 s3 s4 s5 s6 t1 t2 t3 t4 HT1t HT2t HB1t HB2t HOt HEt
      rw [show S1.drew.setCell ⟨T2, k, none⟩ (.int .i64 v2) = (S1.setCell ⟨T2, k, none⟩ (.int .i64 v2)).drew from rfl] at HT1t HT2t HB1t HB2t HOt HEt
      clear hT1s hT2s hB1s hB2s hbgs hOs eS1 hT1t hT2t hB1t hB2t hbgt hOt eS2 hO hT1 hT2 hB1 hB2 he hbg eD1 eD2 e2 hx hgk hok hv1 hv2 hP ha
      go_wp2_with fail
      rw [← hW2]
      clear hW2
      go_wp2_with fail
      go_region_held3 (fun w' => w'.cell? ⟨b1, 0, none⟩ = some (.slice (some ⟨T1, 0, none⟩) n n) ∧ w'.cell? ⟨b2, 0, none⟩ = some (.slice (some ⟨T2, 0, none⟩) n n) ∧ w'.cell? ⟨wr.heap.size, 1, none⟩ = some (.int .i64 (j : Int)) ∧ w'.cell? ⟨T2, j, none⟩ = some (.int .i64 v1)) (refine ⟨?_, ?_, ?_, ?_⟩ <;> assumption) (fail)
      go_wp2_with fail
      rw [← hS1]
      clear hS1 hcm a1 a2 a3 a4 a5 a6 p1 p2 p3 p4
      go_region_held3 (fun w' => w'.cell? ⟨b1, 0, none⟩ = some (.slice (some ⟨T1, 0, none⟩) n n) ∧ w'.cell? ⟨b2, 0, none⟩ = some (.slice (some ⟨T2, 0, none⟩) n n) ∧ w'.cell? ⟨wr.heap.size, 1, none⟩ = some (.int .i64 (j : Int)) ∧ w'.cell? ⟨T1, j, none⟩ = some (.int .i64 v2)) (refine ⟨?_, ?_, ?_, ?_⟩ <;> assumption) (fail)
      go_wp2_with fail
      exact ⟨⟨(by (repeat (first | exact trivial | refine ⟨rfl, ?_⟩))), HEt.out, HB1t.out, HB2t.out, k + 1, by omega, by go_num, ⟨_, _, _, by rw [HH.out]; exact HOt.out⟩, by rw [HH.out]; exact HT1t.out, by rw [HH.out]; exact HT2t.out⟩, (by simp [intOf] <;> omega)⟩
    · have h4' : (kk == 4) = false := by simpa using h4
      have HH := pushTo_put hx h4
      rw [hP] at HH
      dsimp only at HH
      rw [hNl] at HH
      obtain ⟨q2, q3, hq⟩ := moveG_kind (fun x => ys.getD x.toNat 0) kk a b
      rw [show pushA ys (kk, a, b) = (kk, q2, q3) from hq] at HH
      have HI := hide (push_ins (n := n) (fun x hxi => hgk.2.1 x hxi) hly)
      have HI2 := hide (fun (kd : Int) (hkd : ∀ x ∈ insG (kd, a, b), x ∈ insG (kk, a, b)) => push_ins (n := n) (g := (kd, a, b)) (fun x hxi => hgk.2.1 x (hkd x hxi)) hln)
      obtain ⟨W2, hW2⟩ : ∃ W2, W2 = wr.alloc (.cells #[.int .i64 kk, .int .i64 a, .int .i64 b] 86) := ⟨_, rfl⟩
      have e2 : Ext wr W2 := by rw [hW2]; exact (Ext.refl wr).alloc _
      have hbg : BoxAt W2 wr.heap.size 86 #[.int .i64 kk, .int .i64 a, .int .i64 b] := by rw [hW2]; exact BoxAt.made _ _ _
      have hcf1 := (hB1.ext e2).cell 0 (.slice (some ⟨T1, 0, none⟩) n n) rfl
      have HM := hide (fun wq (hE : Ext W2 wq) => moved_c kk a b 91 #[.pointer (some ⟨b1, 0, none⟩)] (fun x => ys.getD x.toNat 0) wq Push_yes_enters (fun x hxi w2 hE2 => Push_yes_c x b1 T1 n n _ (fun x => ys.getD x.toNat 0) w2 (((hT1.ext e2).ints (by omega)).ext (hE.trans hE2)) ((hE.trans hE2).cell hcf1) (HI.out x hxi)))
      rw [hq] at HM
      have HA := hide (fun wq (hE : Ext W2 wq) => Push_add_o w1.heap.size w.heap.size A' N y kk q2 q3 O wq ((hO.ext e2).ext hE) (by omega) (Nat.le_trans (Nat.le_trans hsz e2.size) hE.size))
      have HHd := hide HH
      have HO := hide (hO.ext e2)
      have HT1 := hide (hT1.ext e2)
      have HT2 := hide (hT2.ext e2)
      have HB1 := hide (hB1.ext e2)
      have HB2 := hide (hB2.ext e2)
      have HBG := hide hbg
      have HE := hide (he.trans e2)
      have HOB := hide (fun k' hh => (hO.own.lt k' hh).2)
      have hk16 := hide hgk.1
      have u0 := hbg.cell 0 (.int .i64 kk) rfl
      have u1 := hbg.cell 1 (.int .i64 a) rfl
      have u2 := hbg.cell 2 (.int .i64 b) rfl
      clear hO hT1 hT2 hB1 hB2 he e2 hx hgk hok hP hq HH HI hbg
      go_wp2_with fail
      rw [← hW2]
      clear hW2
      go_region_held3 (fun w' => w'.cell? ⟨b1, 0, none⟩ = some (.slice (some ⟨T1, 0, none⟩) n n) ∧ w'.cell? ⟨wr.heap.size, 0, none⟩ = some (.int .i64 kk) ∧ w'.cell? ⟨wr.heap.size, 1, none⟩ = some (.int .i64 a) ∧ w'.cell? ⟨wr.heap.size, 2, none⟩ = some (.int .i64 b)) (first | (refine ⟨?_, ?_, ?_, ?_⟩ <;> assumption) | (exact ⟨(show Ext W2 _ by (repeat (first | with_reducible exact Ext.refl _ | with_reducible assumption | ((with_reducible refine Ext.setCell ?_ ?_ _); rotate_left; focus (first | omega | (simp <;> omega))) | with_reducible refine Ext.alloc ?_ _ | with_reducible refine Ext.drewN ?_ _ | with_reducible refine Ext.drew ?_ | with_reducible refine Ext.trans ?_ (by with_reducible assumption)))).cell hcf1, (show Ext W2 _ by (repeat (first | with_reducible exact Ext.refl _ | with_reducible assumption | ((with_reducible refine Ext.setCell ?_ ?_ _); rotate_left; focus (first | omega | (simp <;> omega))) | with_reducible refine Ext.alloc ?_ _ | with_reducible refine Ext.drewN ?_ _ | with_reducible refine Ext.drew ?_ | with_reducible refine Ext.trans ?_ (by with_reducible assumption)))).cell u0, (show Ext W2 _ by (repeat (first | with_reducible exact Ext.refl _ | with_reducible assumption | ((with_reducible refine Ext.setCell ?_ ?_ _); rotate_left; focus (first | omega | (simp <;> omega))) | with_reducible refine Ext.alloc ?_ _ | with_reducible refine Ext.drewN ?_ _ | with_reducible refine Ext.drew ?_ | with_reducible refine Ext.trans ?_ (by with_reducible assumption)))).cell u1, (show Ext W2 _ by (repeat (first | with_reducible exact Ext.refl _ | with_reducible assumption | ((with_reducible refine Ext.setCell ?_ ?_ _); rotate_left; focus (first | omega | (simp <;> omega))) | with_reducible refine Ext.alloc ?_ _ | with_reducible refine Ext.drewN ?_ _ | with_reducible refine Ext.drew ?_ | with_reducible refine Ext.trans ?_ (by with_reducible assumption)))).cell u2⟩)) (first | (go_at_call 71; (with_reducible refine (HM.out _ (by (repeat (first | with_reducible exact Ext.refl _ | with_reducible assumption | ((with_reducible refine Ext.setCell ?_ ?_ _); rotate_left; focus (first | omega | (simp <;> omega))) | with_reducible refine Ext.alloc ?_ _ | with_reducible refine Ext.drewN ?_ _ | with_reducible refine Ext.drew ?_ | with_reducible refine Ext.trans ?_ (by with_reducible assumption))))).mono ?_); rintro e w3 ⟨rfl, he3⟩; have ew3 : Ext W2 w3 := (by (repeat (first | with_reducible exact Ext.refl _ | with_reducible assumption | ((with_reducible refine Ext.setCell ?_ ?_ _); rotate_left; focus (first | omega | (simp <;> omega))) | with_reducible refine Ext.alloc ?_ _ | with_reducible refine Ext.drewN ?_ _ | with_reducible refine Ext.drew ?_ | with_reducible refine Ext.trans ?_ (by with_reducible assumption))))) | (go_at_call 90; (with_reducible refine (HA.out _ ew3).mono ?_); rintro e w4 ⟨rfl, hPd⟩; have hO3 := HO.out.ext ew3; have z1 := hPd.other hO3 (HB1.out.ext ew3) (by decide) (by omega); have z2 := hPd.other hO3 (HB2.out.ext ew3) (by decide) (by omega); have zg := hPd.box (HBG.out.ext ew3) (by omega) (fun hh => by have := HOB.out _ hh; omega); have zT := hPd.row hO3 (HT1.out.ext ew3) (by omega); have zU := hPd.row hO3 (HT2.out.ext ew3) (by omega); obtain ⟨zu, -, zd, zf⟩ := zT.int_at (q := k) hlt; have za := z1.cell 0 (.slice (some ⟨T1, 0, none⟩) n n) rfl; have zb := zg.cell 0 (.int .i64 kk) rfl; have zc := zg.cell 1 (.int .i64 a) rfl; have ze := zg.cell 2 (.int .i64 b) rfl; have y1 := (z1.setOther (p := ⟨T1, k, none⟩) n11 (.int .i64 (N : Int))); have y2 := (z2.setOther (p := ⟨T1, k, none⟩) n21 (.int .i64 (N : Int))); have yg := (zg.setOther (p := ⟨T1, k, none⟩) (by simp; omega) (.int .i64 (N : Int))); have ya := y1.cell 0 (.slice (some ⟨T1, 0, none⟩) n n) rfl; have yb := yg.cell 0 (.int .i64 kk) rfl; have yc := yg.cell 1 (.int .i64 a) rfl; have ye := yg.cell 2 (.int .i64 b) rfl; have Y1 := hide y1; have Y2 := hide y2; have YG := hide yg; have YT := hide zT; have YU := hide zU; have YP := hide hPd; clear hO3 z1 z2 zg zT zU hPd y1 y2 yg))
      clear HM HA
      obtain ⟨S4, hS4⟩ : ∃ S4, S4 = w4.setCell ⟨T1, k, none⟩ (.int .i64 (N : Int)) := ⟨_, rfl⟩
      have e4 := YP.out.ext (HO.out.ext ew3) (HE.out.trans ew3) (Nat.le_refl _) hz1
      have e5 : Ext w S4 := by rw [hS4]; exact e4.setCell (p := ⟨T1, k, none⟩) (by simp; omega) (.int .i64 (N : Int))
      have hT1 := YT.out.setInt k (N : Int)
      have hT2 := YU.out.storeOther (p := ⟨T1, k, none⟩) (.int .i64 (N : Int)) (by simp [Value.ownBlock]; omega)
      have hW2l := HBG.out.lt
      have hw3l := ew3.size
      obtain ⟨A4, c4, hO4, hbk, -⟩ := YP.out
      have HGB : Hid ((Value.slice A4 (N + 1) c4).ownBlock ≠ some wr.heap.size) := hide (by
        rcases hbk with hh | ⟨q, hh, hq⟩
        · rw [hh]; intro e; have := HOB.out _ e; omega
        · rw [hh]; intro e; injection e; omega)
      have hO5 := hO4.store YT.out (by omega) k (.int .i64 (N : Int))
      rw [fold_ts hly hlt] at hT1
      have hB1 := Y1.out
      have hB2 := Y2.out
      have hbg := YG.out
      rw [← hS4] at hT1 hT2 hO5 hB1 hB2 hbg
      rw [← hS4]
      have hszS : wr.heap.size < S4.heap.size := hbg.lt
      clear hS4 hO4 hbk hW2l hw3l e4 ew3 HO HE HT1 HT2 HB1 HB2 HBG HOB YT YU YP Y1 Y2 YG hcf1 u0 u1 u2 za zb zc ze ya yb yc ye zd zf
      have hOl := hO5.own.lt
      have hlen5 := hO5.len
      have v0 := hbg.cell 0 (.int .i64 kk) rfl
      have v1 := hbg.cell 1 (.int .i64 a) rfl
      have v2 := hbg.cell 2 (.int .i64 b) rfl
      have c1' := hB1.cell 0 (.slice (some ⟨T1, 0, none⟩) n n) rfl
      have c2' := hB2.cell 0 (.slice (some ⟨T2, 0, none⟩) n n) rfl
      have HO := hide hO5
      have HT1 := hide hT1
      have HT2 := hide hT2
      have HB1 := hide hB1
      have HB2 := hide hB2
      have HE := hide e5
      by_cases k1 : kk = 1
      · subst k1
        rw [pushB_varK] at HHd
        have d3 : S4.cell? ⟨T1, k, none⟩ = some (.int .i64 (N : Int)) := hT1.cell (get_map_int (by rw [List.getElem?_append_left (by simp; omega), List.getElem?_append_right (by omega)]; simp [hly]))
        have HA := hide (fun wq (hE : Ext S4 wq) => Push_add_o w1.heap.size w.heap.size A4 (N + 1) c4 4 (N : Int) 0 _ wq (hO5.ext hE) (by omega) (Nat.le_trans HE.out.size hE.size))
        clear hT1 hT2 hO5 hB1 hB2 hbg e5 hOl HI2 v1 v2
        go_wp2_with fail
        go_region_held3 (fun w' => w'.cell? ⟨b1, 0, none⟩ = some (.slice (some ⟨T1, 0, none⟩) n n) ∧ w'.cell? ⟨b2, 0, none⟩ = some (.slice (some ⟨T2, 0, none⟩) n n) ∧ w'.cell? ⟨T1, k, none⟩ = some (.int .i64 (N : Int))) (first | (refine ⟨?_, ?_, ?_⟩ <;> assumption) | (exact ⟨(show Ext S4 _ by (repeat (first | with_reducible exact Ext.refl _ | with_reducible assumption | ((with_reducible refine Ext.setCell ?_ ?_ _); rotate_left; focus (first | omega | (simp <;> omega))) | with_reducible refine Ext.alloc ?_ _ | with_reducible refine Ext.drewN ?_ _ | with_reducible refine Ext.drew ?_ | with_reducible refine Ext.trans ?_ (by with_reducible assumption)))).cell c1', (show Ext S4 _ by (repeat (first | with_reducible exact Ext.refl _ | with_reducible assumption | ((with_reducible refine Ext.setCell ?_ ?_ _); rotate_left; focus (first | omega | (simp <;> omega))) | with_reducible refine Ext.alloc ?_ _ | with_reducible refine Ext.drewN ?_ _ | with_reducible refine Ext.drew ?_ | with_reducible refine Ext.trans ?_ (by with_reducible assumption)))).cell c2', (show Ext S4 _ by (repeat (first | with_reducible exact Ext.refl _ | with_reducible assumption | ((with_reducible refine Ext.setCell ?_ ?_ _); rotate_left; focus (first | omega | (simp <;> omega))) | with_reducible refine Ext.alloc ?_ _ | with_reducible refine Ext.drewN ?_ _ | with_reducible refine Ext.drew ?_ | with_reducible refine Ext.trans ?_ (by with_reducible assumption)))).cell d3⟩)) (first | (go_at_call 90; (with_reducible refine (HA.out _ (by (repeat (first | with_reducible exact Ext.refl _ | with_reducible assumption | ((with_reducible refine Ext.setCell ?_ ?_ _); rotate_left; focus (first | omega | (simp <;> omega))) | with_reducible refine Ext.alloc ?_ _ | with_reducible refine Ext.drewN ?_ _ | with_reducible refine Ext.drew ?_ | with_reducible refine Ext.trans ?_ (by with_reducible assumption))))).mono ?_); rintro e w6 ⟨rfl, hPd⟩; have eW3 : Ext S4 S4.drew := (Ext.refl S4).drew; have hO3 := HO.out.ext eW3; have z1 := hPd.other hO3 (HB1.out.ext eW3) (by decide) (by omega); have z2 := hPd.other hO3 (HB2.out.ext eW3) (by decide) (by omega); have zT := hPd.row hO3 (HT2.out.ext eW3) (by omega); have zU := hPd.row hO3 (HT1.out.ext eW3) (by omega); obtain ⟨zu, -, zd, zf⟩ := zT.int_at (q := k) hlt; have za := z1.cell 0 (.slice (some ⟨T1, 0, none⟩) n n) rfl; have zb := z2.cell 0 (.slice (some ⟨T2, 0, none⟩) n n) rfl; have zc : w6.cell? ⟨T1, k, none⟩ = some (.int .i64 (N : Int)) := zU.cell (get_map_int (by rw [List.getElem?_append_left (by simp; omega), List.getElem?_append_right (by omega)]; simp [hly])); have y1 := (z1.setOther (p := ⟨T2, k, none⟩) n12 (.int .i64 ((N : Int) + 1))); have y2 := (z2.setOther (p := ⟨T2, k, none⟩) n22 (.int .i64 ((N : Int) + 1))); have yU := zU.storeOther (p := ⟨T2, k, none⟩) (.int .i64 ((N : Int) + 1)) (by simp [Value.ownBlock]; omega); have ya := y1.cell 0 (.slice (some ⟨T1, 0, none⟩) n n) rfl; have yb := y2.cell 0 (.slice (some ⟨T2, 0, none⟩) n n) rfl; have yc : (w6.setCell ⟨T2, k, none⟩ (.int .i64 ((N : Int) + 1))).cell? ⟨T1, k, none⟩ = some (.int .i64 (N : Int)) := yU.cell (get_map_int (by rw [List.getElem?_append_left (by simp; omega), List.getElem?_append_right (by omega)]; simp [hly])); have Y1 := hide y1; have Y2 := hide y2; have YT := hide zT; have YU := hide yU; have YP := hide hPd; have YO := hide hO3; clear hO3 z1 z2 zT zU hPd y1 y2 yU))
        clear HA
        have e6 := YP.out.ext YO.out (HE.out.trans eW3) (Nat.le_refl _) hz1
        have e7 := hide (e6.setCell (p := ⟨T2, k, none⟩) (by simp; omega) (.int .i64 ((N : Int) + 1)))
        have hT2' := YT.out.setInt k ((N : Int) + 1)
        obtain ⟨A6, c6, hO6, -, -⟩ := YP.out
        have hO7 := hide (hO6.store YT.out (by omega) k (.int .i64 ((N : Int) + 1)))
        rw [fold_ts hln hlt] at hT2'
        have YT2 := hide hT2'
        clear hT2' hO6 e6 YP YT YO
        go_wp2_with fail
        exact ⟨⟨(by (repeat (first | exact trivial | refine ⟨rfl, ?_⟩))), e7.out, Y1.out, Y2.out, k + 1, by omega, by go_num, ⟨_, _, _, by rw [HHd.out]; simpa using hO7.out⟩, by rw [HHd.out]; exact YU.out, by rw [HHd.out]; exact YT2.out⟩, (by simp [intOf] <;> omega)⟩
      have k1' : (kk == 1) = false := by simpa using k1
      have hdl : (dualK kk = 5 ∨ dualK kk = 6 ∨ dualK kk = 2 ∨ dualK kk = 3) ∧ (∀ x ∈ insG (dualK kk, a, b), x ∈ insG (kk, a, b)) := by
        have hc : kk = 2 ∨ kk = 3 ∨ kk = 5 ∨ kk = 6 := by have := hk16.out; (try dsimp only at this); omega
        rcases hc with rfl | rfl | rfl | rfl <;> simp [dualK, insG]
      rw [pushB_other k1] at HHd
      obtain ⟨s2, s3, hs⟩ := moveG_kind (fun x => ns.getD x.toNat 0) (dualK kk) a b
      rw [hs] at HHd
      have HI3 := hide (HI2.out (dualK kk) hdl.2)
      have HDK := hide (fun W => dualKind_c kk W)
      clear HI2 hdl hk16 hT1 hT2 hO5 hB1 hB2 e5 hOl
      generalize dualK kk = dk at *
      obtain ⟨S5, hS5⟩ : ∃ S5, S5 = S4.setCell ⟨wr.heap.size, 0, none⟩ (.int .i64 dk) := ⟨_, rfl⟩
      have hbg5 : BoxAt S5 wr.heap.size 86 #[.int .i64 dk, .int .i64 a, .int .i64 b] := by rw [hS5]; exact hbg.set 0 _
      have HO5 : Hid (Outs S5 w1.heap.size w.heap.size A4 (N + 1) c4 (O ++ [(kk, q2, q3)])) := hide (by rw [hS5]; exact ⟨HO.out.box.setOther (by simp; omega) _, HO.out.own.storeOther _ HGB.out, HO.out.len⟩)
      have HT15 : Hid (Own S5 w.heap.size 3 1 (some ⟨T1, 0, none⟩) n n ((ys ++ [(N : Int)] ++ List.replicate (n - (k + 1)) 0).map (Value.int .i64))) := hide (by rw [hS5]; exact HT1.out.storeOther _ (by simp [Value.ownBlock]; omega))
      have HT25 : Hid (Own S5 w.heap.size 3 1 (some ⟨T2, 0, none⟩) n n ((ns ++ List.replicate (n - k) 0).map (Value.int .i64))) := hide (by rw [hS5]; exact HT2.out.storeOther _ (by simp [Value.ownBlock]; omega))
      have HB15 : Hid (BoxAt S5 b1 37 #[.slice (some ⟨T1, 0, none⟩) n n]) := hide (by rw [hS5]; exact HB1.out.setOther (by simp; omega) _)
      have HB25 : Hid (BoxAt S5 b2 37 #[.slice (some ⟨T2, 0, none⟩) n n]) := hide (by rw [hS5]; exact HB2.out.setOther (by simp; omega) _)
      have HE5 : Hid (Ext w S5) := hide (by rw [hS5]; exact HE.out.setCell (p := ⟨wr.heap.size, 0, none⟩) hsz _)
      have hx0 := hbg.frozen 0
      have w0' := hbg5.cell 0 (.int .i64 dk) rfl
      have w1' := hbg5.cell 1 (.int .i64 a) rfl
      have w2' := hbg5.cell 2 (.int .i64 b) rfl
      have c25 := HB25.out.cell 0 (.slice (some ⟨T2, 0, none⟩) n n) rfl
      have HM := hide (fun wq (hE : Ext S5 wq) => moved_c dk a b 93 #[.pointer (some ⟨b2, 0, none⟩)] (fun x => ns.getD x.toNat 0) wq Push_no_enters (fun x hxi w2 hE2 => Push_no_c x b2 T2 n n _ (fun x => ns.getD x.toNat 0) w2 ((HT25.out.ints (by omega)).ext (hE.trans hE2)) ((hE.trans hE2).cell c25) (HI3.out x hxi)))
      rw [hs] at HM
      have HA := hide (fun wq (hE : Ext S5 wq) => Push_add_o w1.heap.size w.heap.size A4 (N + 1) c4 dk s2 s3 _ wq (HO5.out.ext hE) (by omega) (Nat.le_trans HE5.out.size hE.size))
      have HBG5 := hide hbg5
      clear hbg hbg5 HO HT1 HT2 HB1 HB2 HE hs HI3
      go_wp2_with fail
      (with_reducible refine (HDK.out _).mono ?_)
      rintro e w7 ⟨rfl, rfl⟩
      go_wp2_with fail
      rw [← hS5]
      clear hS5 v0 v1 v2 c1' c2' HDK hx0
      go_region_held3 (fun w' => w'.cell? ⟨b2, 0, none⟩ = some (.slice (some ⟨T2, 0, none⟩) n n) ∧ w'.cell? ⟨wr.heap.size, 0, none⟩ = some (.int .i64 dk) ∧ w'.cell? ⟨wr.heap.size, 1, none⟩ = some (.int .i64 a) ∧ w'.cell? ⟨wr.heap.size, 2, none⟩ = some (.int .i64 b)) (first | (refine ⟨?_, ?_, ?_, ?_⟩ <;> assumption) | (exact ⟨(show Ext S5 _ by (repeat (first | with_reducible exact Ext.refl _ | with_reducible assumption | ((with_reducible refine Ext.setCell ?_ ?_ _); rotate_left; focus (first | omega | (simp <;> omega))) | with_reducible refine Ext.alloc ?_ _ | with_reducible refine Ext.drewN ?_ _ | with_reducible refine Ext.drew ?_ | with_reducible refine Ext.trans ?_ (by with_reducible assumption)))).cell c25, (show Ext S5 _ by (repeat (first | with_reducible exact Ext.refl _ | with_reducible assumption | ((with_reducible refine Ext.setCell ?_ ?_ _); rotate_left; focus (first | omega | (simp <;> omega))) | with_reducible refine Ext.alloc ?_ _ | with_reducible refine Ext.drewN ?_ _ | with_reducible refine Ext.drew ?_ | with_reducible refine Ext.trans ?_ (by with_reducible assumption)))).cell w0', (show Ext S5 _ by (repeat (first | with_reducible exact Ext.refl _ | with_reducible assumption | ((with_reducible refine Ext.setCell ?_ ?_ _); rotate_left; focus (first | omega | (simp <;> omega))) | with_reducible refine Ext.alloc ?_ _ | with_reducible refine Ext.drewN ?_ _ | with_reducible refine Ext.drew ?_ | with_reducible refine Ext.trans ?_ (by with_reducible assumption)))).cell w1', (show Ext S5 _ by (repeat (first | with_reducible exact Ext.refl _ | with_reducible assumption | ((with_reducible refine Ext.setCell ?_ ?_ _); rotate_left; focus (first | omega | (simp <;> omega))) | with_reducible refine Ext.alloc ?_ _ | with_reducible refine Ext.drewN ?_ _ | with_reducible refine Ext.drew ?_ | with_reducible refine Ext.trans ?_ (by with_reducible assumption)))).cell w2'⟩)) (first | (go_at_call 71; (with_reducible refine (HM.out _ (by (repeat (first | with_reducible exact Ext.refl _ | with_reducible assumption | ((with_reducible refine Ext.setCell ?_ ?_ _); rotate_left; focus (first | omega | (simp <;> omega))) | with_reducible refine Ext.alloc ?_ _ | with_reducible refine Ext.drewN ?_ _ | with_reducible refine Ext.drew ?_ | with_reducible refine Ext.trans ?_ (by with_reducible assumption))))).mono ?_); rintro e w5 ⟨rfl, he5⟩; have eW3 : Ext S5 w5 := (by (repeat (first | with_reducible exact Ext.refl _ | with_reducible assumption | ((with_reducible refine Ext.setCell ?_ ?_ _); rotate_left; focus (first | omega | (simp <;> omega))) | with_reducible refine Ext.alloc ?_ _ | with_reducible refine Ext.drewN ?_ _ | with_reducible refine Ext.drew ?_ | with_reducible refine Ext.trans ?_ (by with_reducible assumption))))) | (go_at_call 90; (with_reducible refine (HA.out _ eW3).mono ?_); rintro e w6 ⟨rfl, hPd⟩; have hO3 := HO5.out.ext eW3; have z1 := hPd.other hO3 (HB15.out.ext eW3) (by decide) (by omega); have z2 := hPd.other hO3 (HB25.out.ext eW3) (by decide) (by omega); have zg := hPd.box (HBG5.out.ext eW3) (by omega) HGB.out; have zT := hPd.row hO3 (HT25.out.ext eW3) (by omega); have zU := hPd.row hO3 (HT15.out.ext eW3) (by omega); obtain ⟨zu, -, zd, zf⟩ := zT.int_at (q := k) hlt; have zb := z2.cell 0 (.slice (some ⟨T2, 0, none⟩) n n) rfl; have za := zg.cell 0 (.int .i64 dk) rfl; have zc := zg.cell 1 (.int .i64 a) rfl; have ze := zg.cell 2 (.int .i64 b) rfl; have y1 := (z1.setOther (p := ⟨T2, k, none⟩) n12 (.int .i64 ((N : Int) + 1))); have y2 := (z2.setOther (p := ⟨T2, k, none⟩) n22 (.int .i64 ((N : Int) + 1))); have yg := (zg.setOther (p := ⟨T2, k, none⟩) (by simp; omega) (.int .i64 ((N : Int) + 1))); have yU := zU.storeOther (p := ⟨T2, k, none⟩) (.int .i64 ((N : Int) + 1)) (by simp [Value.ownBlock]; omega); have ya := yg.cell 0 (.int .i64 dk) rfl; have yc := yg.cell 1 (.int .i64 a) rfl; have ye := yg.cell 2 (.int .i64 b) rfl; have yb := y2.cell 0 (.slice (some ⟨T2, 0, none⟩) n n) rfl; have Y1 := hide y1; have Y2 := hide y2; have YT := hide zT; have YU := hide yU; have YP := hide hPd; have YO := hide hO3; clear hO3 z1 z2 zg zT zU hPd y1 y2 yg yU))
      clear HA
      have e6 := YP.out.ext YO.out (HE5.out.trans eW3) (Nat.le_refl _) hz1
      have e7 := hide (e6.setCell (p := ⟨T2, k, none⟩) (by simp; omega) (.int .i64 ((N : Int) + 1)))
      have hT2' := YT.out.setInt k ((N : Int) + 1)
      obtain ⟨A6, c6, hO6, -, -⟩ := YP.out
      have hO7 := hide (hO6.store YT.out (by omega) k (.int .i64 ((N : Int) + 1)))
      rw [fold_ts hln hlt] at hT2'
      have YT2 := hide hT2'
      clear hT2' hO6 e6 YP YT YO
      go_wp2_with fail
      exact ⟨⟨(by (repeat (first | exact trivial | refine ⟨rfl, ?_⟩))), e7.out, Y1.out, Y2.out, k + 1, by omega, by go_num, ⟨_, _, _, by rw [HHd.out]; simpa using hO7.out⟩, by rw [HHd.out]; exact YU.out, by rw [HHd.out]; exact YT2.out⟩, (by simp [intOf] <;> omega)⟩
  · obtain rfl : k = n := by omega
    have hlg := hl.out
    obtain ⟨v3, hv⟩ : ∃ v, ys[k - 1]? = some v := ⟨_, List.getElem?_eq_getElem (by omega)⟩
    have hvr := hok.ry v3 (List.mem_of_getElem? hv)
    obtain ⟨m, rfl⟩ := int_nat hvr.1
    have hmN : m < N := by omega
    have hD2 : dec = decide (N ≤ 200) := by rw [HDec.out, ← hlg, hP, ← hNl]
    have hPG : pushG gs = trimG (O.take (m + 1)) := by
      unfold pushG
      rw [← hlg, hP]
      dsimp only
      rw [List.getD_eq_getElem?_getD, hv]; rfl
    have hR2 : RR = if decide (N ≤ 200) then trimG (O.take (m + 1)) else [] := by rw [← HRR.out, hD2, hPG]
    clear hPG HDec HRR
    have hXc := hO.box.cell 0 (.slice A' N y) rfl
    by_cases hN : N ≤ 200
    · rw [show decide (N ≤ 200) = true by simpa using hN] at hD2 hR2
      rw [if_pos rfl] at hR2
      subst hD2
      have HR2 := hide hR2
      clear hR2
      have hcap := hO.own.capK
      have hdT : wr.cell? ⟨T1, k - 1, none⟩ = some (.int .i64 (m : Int)) := hT1.cell (get_map_int (by rw [List.getElem?_append_left (by omega)]; exact hv))
      have hdB := hB1.cell 0 (.slice (some ⟨T1, 0, none⟩) k k) rfl
      have hGt := hide (fun W (E : Ext wr W) => ((ObF.of (e := 86) (sz := 3) (hO.own.ext E) (by omega)).gates.take (m + 1) (by omega)))
      have hGG := hide (hok.good.take (m + 1))
      have HL := hide (fun W (E : Ext wr W) => trim_c A' (m + 1) y (O.take (m + 1)) W (hGt.out W E) hGG.out (by omega) (by omega))
      have HLe : Hid ((trimG (O.take (m + 1))).length ≤ 200) := hide (by unfold trimG; rw [trimTo_length]; have := countB_le (mark (O.take (m + 1))) (O.take (m + 1)).length; simp at *; omega)
      have hNi : (N : Int) ≤ 200 := by omega
      have HE := hide he
      clear hT1 hT2 hB1 hB2 hO hP hok hv hvr he hGt hGG hlg HG hlt
      obtain ⟨p, rfl⟩ : ∃ p, k = p + 1 := ⟨k - 1, by omega⟩
      rw [Nat.add_sub_cancel] at hdT
      have hw1 : IntKind.i64.wrap (p : Int) = (p : Int) := IntWalk.i64_in _ (by omega)
      have hw2 : IntKind.i64.wrap ((m : Int) + 1) = (m : Int) + 1 := IntWalk.i64_in _ (by omega)
      have hp0 : (0 : Int) ≤ (p : Int) := by omega
      have hp1 : (p : Int) < (p : Int) + 1 := by omega
      have hm0 : (0 : Int) ≤ (m : Int) + 1 := by omega
      have hm1 : (m : Int) + 1 ≤ (y : Int) := by omega
      have hm2 : ((m : Int) + 1).toNat = m + 1 := by omega
      have hm3 : m + 1 ≤ y := by omega
      go_wp2_with fail
      go_region_held3 (fun w' => w'.cell? ⟨w1.heap.size, 0, none⟩ = some (.slice A' N y) ∧ w'.cell? ⟨b1, 0, none⟩ = some (.slice (some ⟨T1, 0, none⟩) (p + 1) (p + 1)) ∧ w'.cell? ⟨T1, p, none⟩ = some (.int .i64 (m : Int))) (exact ⟨(show Ext wr _ by (repeat (first | with_reducible exact Ext.refl _ | with_reducible assumption | ((with_reducible refine Ext.setCell ?_ ?_ _); rotate_left; focus (first | omega | (simp <;> omega))) | with_reducible refine Ext.alloc ?_ _ | with_reducible refine Ext.drewN ?_ _ | with_reducible refine Ext.drew ?_ | with_reducible refine Ext.trans ?_ (by with_reducible assumption)))).cell hXc, (show Ext wr _ by (repeat (first | with_reducible exact Ext.refl _ | with_reducible assumption | ((with_reducible refine Ext.setCell ?_ ?_ _); rotate_left; focus (first | omega | (simp <;> omega))) | with_reducible refine Ext.alloc ?_ _ | with_reducible refine Ext.drewN ?_ _ | with_reducible refine Ext.drew ?_ | with_reducible refine Ext.trans ?_ (by with_reducible assumption)))).cell hdB, (show Ext wr _ by (repeat (first | with_reducible exact Ext.refl _ | with_reducible assumption | ((with_reducible refine Ext.setCell ?_ ?_ _); rotate_left; focus (first | omega | (simp <;> omega))) | with_reducible refine Ext.alloc ?_ _ | with_reducible refine Ext.drewN ?_ _ | with_reducible refine Ext.drew ?_ | with_reducible refine Ext.trans ?_ (by with_reducible assumption)))).cell hdT⟩) (first | (go_at_call 81; (with_reducible refine (HL.out _ (by (repeat (first | with_reducible exact Ext.refl _ | with_reducible assumption | ((with_reducible refine Ext.setCell ?_ ?_ _); rotate_left; focus (first | omega | (simp <;> omega))) | with_reducible refine Ext.alloc ?_ _ | with_reducible refine Ext.drewN ?_ _ | with_reducible refine Ext.drew ?_ | with_reducible refine Ext.trans ?_ (by with_reducible assumption))))).mono ?_); rintro e w5 ⟨A5, n5, c5, rfl, hl5, ho5, he5⟩; have ew5 : Ext wr w5 := (by (repeat (first | with_reducible exact Ext.refl _ | with_reducible assumption | ((with_reducible refine Ext.setCell ?_ ?_ _); rotate_left; focus (first | omega | (simp <;> omega))) | with_reducible refine Ext.alloc ?_ _ | with_reducible refine Ext.drewN ?_ _ | with_reducible refine Ext.drew ?_ | with_reducible refine Ext.trans ?_ (by with_reducible assumption)))); have ho5' := hide ho5; clear ho5))
      have hN5 : n5 ≤ 200 := by have := hl5.out; have := HLe.out; omega
      go_wp2_with fail
      go_ret2
      exact ⟨_, _, _, rfl, by rw [HR2.out]; exact ObF.of (ho5'.out.lower hsz) (by omega), HE.out.trans ew5⟩
    · rw [show decide (N ≤ 200) = false by simpa using hN] at hD2 hR2
      rw [if_neg (by simp)] at hR2
      subst hD2
      have HR2 := hide hR2
      clear hR2
      have hNi : (200 : Int) < (N : Int) := by omega
      have HE := hide he
      clear hT1 hT2 hB1 hB2 hO hP hok hv hvr he hlg HG
      go_wp2_with fail
      go_ret2
      exact ⟨_, _, _, rfl, by rw [HR2.out]; simpa [fl] using ObF.nil, HE.out⟩
end Go.Proofs.Ytcbjaomjamfjcaa
