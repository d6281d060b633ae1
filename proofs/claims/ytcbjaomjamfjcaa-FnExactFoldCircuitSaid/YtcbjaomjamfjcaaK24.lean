/-
  FoldCircuit: the program's fold, and both answers; no condition.
-/
import Derived.Test.YtcbjaomjamfjcaaK22
import Derived.Test.YtcbjaomjamfjcaaK23p
namespace Go.Proofs.Ytcbjaomjamfjcaa
set_option linter.unusedSimpArgs false
set_option linter.unusedVariables false
open Go.RowKit

section
variable {w w' : World} {X base : Nat} {A : Option Addr} {n c : Nat} {gs gs' : List Gt}
theorem Folded.box (h : Folded w w' X base A n c gs) {b : Nat} {t : TypeId} {cs : Array Value} (hb : BoxAt w b t cs) (h1 : b ≠ X) (h2 : (Value.slice A n c).ownBlock ≠ some b) : BoxAt w' b t cs := by
  obtain ⟨_, _, _, _, wm, g1, g2⟩ := h
  have hlt := hb.lt
  exact (g2.block b (Nat.lt_of_lt_of_le hlt g1.size) (fun e => h1 (by injection e))).trans ((g1.block b hlt (fun e => h2 e.symm)).trans hb)
theorem Folded.own (h : Folded w w' X base A n c gs) {b2 : Nat} {e2 : TypeId} {s2 : Nat} {B : Option Addr} {m d : Nat} {us : List Value} (ho : Own w b2 e2 s2 B m d us)
    (h1 : (Value.slice B m d).ownBlock = none ∨ (Value.slice B m d).ownBlock ≠ (Value.slice A n c).ownBlock) (h2 : (Value.slice B m d).ownBlock ≠ some X) : Own w' b2 e2 s2 B m d us := by
  obtain ⟨_, _, _, _, wm, g1, g2⟩ := h
  exact (ho.kept g1 h1).kept g2 (.inr h2)
theorem Folded.ext {w0 : World} (h : Folded w w' X base A n c gs) (hf : Folder w X base A n c gs') (he : Ext w0 w) (hb : w0.heap.size ≤ base) (hX : w0.heap.size ≤ X) : Ext w0 w' := by
  obtain ⟨_, _, _, _, wm, g1, g2⟩ := h
  exact (he.trans_own hb hf.own g1).grown g2 (fun k hk => by injection hk with hk; omega)
theorem Folder.store (h : Folder w X base A n c gs) {b2 T m d : Nat} {us : List Value} (ht : Own w b2 3 1 (some ⟨T, 0, none⟩) m d us) (hX : X ≠ T) (j : Nat) (u : Value) : Folder (w.setCell ⟨T, j, none⟩ u) X base A n c gs :=
  ⟨h.box.setOther hX _, h.own.storeOther _ (fun hh => by have := h.own.ne_type ht (by decide); rcases this with h1 | h1 <;> simp_all [Value.ownBlock]), h.len⟩
end
theorem Fold_lit_c (x : Int) (b T n yT : Nat) (ts : List Int) (f : Int → Int) (w : World) (h : Ints w (some ⟨T, 0, none⟩) n ts) (hc : w.cell? ⟨b, 0, none⟩ = some (.slice (some ⟨T, 0, none⟩) n yT)) (hx : ∃ j : Nat, x = j ∧ ts[j]? = some (f x)) :
    Calls Try.prog 135 #[.int .i64 x, .pointer (some ⟨b, 0, none⟩)] w fun e w' => e = .returned (.int .i64 (f x)) ∧ Ext w w' := by
  obtain ⟨j, rfl, hj⟩ := hx
  obtain ⟨ad, e, hcj, hjn⟩ := h.get hj
  injection e with e
  subst e
  have hbd := h.bound
  generalize f j = v at *
  have HJ := hide hj
  have hcj : w.cell? ⟨T, j, none⟩ = some (.int .i64 v) := by rwa [show (⟨T, 0, none⟩ : Addr).add j = ⟨T, j, none⟩ by unfold Addr.add; split <;> simp_all] at hcj
  clear hj
  go_enter Try.func135, Try.ntmps135
  go_wp2
  go_ret
  exact ⟨rfl, Ext.refl _⟩
theorem Fold_lit_enters : Enters Try.prog 135 := enters_of Try.func135 (by kernel_rfl) (by kernel_rfl)
set_option maxRecDepth 100000 in
set_option maxHeartbeats 6400000 in
theorem foldCircuit_c (A : Option Addr) (n c : Nat) (gs : List Gt) (w : World) (h : Gates w A n gs) (hg : GoodG gs) (hn : n ≤ 200) (hn1 : 1 ≤ n) :
    Calls Try.prog 95 #[.slice A n c] w fun e w' => ∃ A' n' c', e = .returned (.slice A' n' c') ∧ Hid ((foldG gs).length = n') ∧ Own w' w.heap.size 86 3 A' n' c' ((fl (foldG gs)).map (Value.int .i64)) ∧ Ext w w' := by
  have hmk := fun W => make_eq (P := Try.prog) 37 3 Try.underlying37 _ 8 info_int rfl n (by omega) (by omega) W
  have HG := hide hg
  have hl := hide h.len
  clear hg
  go_enter Try.func95, Try.ntmps95
  go_wp2_with fail
  obtain ⟨W1, hW1⟩ : ∃ W1, W1 = ((w.alloc (.cells #[.slice none 0 0] 144)).alloc (.cells (madeCells #[.int .i64 0] n) 3)).alloc (.cells #[.slice (some ⟨w.heap.size + 1, 0, none⟩) n n] 37) := ⟨_, rfl⟩
  have hF0 : Folder W1 w.heap.size w.heap.size none 0 0 (foldTo gs 0).1 := by
    rw [hW1]
    exact ⟨((BoxAt.made w _ _).ext ((Ext.refl _).alloc _)).ext ((Ext.refl _).alloc _), Own.nil _ _ _ _, rfl⟩
  have hT0 : Own W1 w.heap.size 3 1 (some ⟨w.heap.size + 1, 0, none⟩) n n (((foldTo gs 0).2 ++ List.replicate (n - 0) (0 : Int)).map (Value.int .i64)) := by
    rw [hW1]
    exact (Own.arr_at (madeCells #[.int .i64 0] n) n _ (by simp) (by simp) (by omega) (by simp [foldTo]) (by rw [toList_madeCells_one]; simp [foldTo])).alloc _
  have hB0 : BoxAt W1 (w.heap.size + 2) 37 #[.slice (some ⟨w.heap.size + 1, 0, none⟩) n n] := by
    rw [hW1]
    have := BoxAt.made ((w.alloc (.cells #[.slice none 0 0] 144)).alloc (.cells (madeCells #[.int .i64 0] n) 3)) #[.slice (some ⟨w.heap.size + 1, 0, none⟩) n n] 37
    simpa using this
  have e1 : Ext w W1 := by rw [hW1]; exact (((Ext.refl w).alloc _).alloc _).alloc _
  rw [← hW1]
  clear hW1 hmk
  refine wp_loopF 41 _ rfl rfl [0, 3, 4, 12, 13, 28, 29, 30, 31, 32, 33, 34, 35, 36, 37, 38, 39, 40] rfl (fun fr wr => Ext w wr ∧ BoxAt wr (w.heap.size + 2) 37 #[.slice (some ⟨w.heap.size + 1, 0, none⟩) n n] ∧ ∃ k : Nat, k ≤ n ∧ (fr 14) = .int .i64 k ∧ (∃ A' N y, Folder wr w.heap.size w.heap.size A' N y (foldTo gs k).1) ∧ Own wr w.heap.size 3 1 (some ⟨w.heap.size + 1, 0, none⟩) n n (((foldTo gs k).2 ++ List.replicate (n - k) (0 : Int)).map (Value.int .i64))) (fun fr wr => n - (intOf (fr 14)).toNat) ?_ ?_
  · (exact ⟨e1, hB0, 0, by omega, rfl, ⟨_, _, _, hF0⟩, hT0⟩)
  intro ks fr wr hkept hrel; (try dsimp only at hrel)
  change Code.wp _ _ _ ⟨#[ks 0, fr 1, fr 2, ks 3, ks 4, fr 5, fr 6, fr 7, fr 8, fr 9, fr 10, fr 11, ks 12, ks 13, fr 14, fr 15, fr 16, fr 17, fr 18, fr 19, fr 20, fr 21, fr 22, fr 23, fr 24, fr 25, fr 26, fr 27, ks 28, ks 29, ks 30, ks 31, ks 32, ks 33, ks 34, ks 35, ks 36, ks 37, ks 38, ks 39, ks 40], []⟩ wr
  simp only [KeptV, List.getD_cons_zero, List.getD_cons_succ] at hkept; obtain ⟨hk0, hk3, hk4, hk12, hk13, hk28, hk29, hk30, hk31, hk32, hk33, hk34, hk35, hk36, hk37, hk38, hk39, hk40, -⟩ := hkept
  generalize ks 0 = k0 at hk0 ⊢; subst hk0
  generalize ks 3 = k3 at hk3 ⊢; subst hk3
  generalize ks 4 = k4 at hk4 ⊢; subst hk4
  generalize ks 12 = k12 at hk12 ⊢; subst hk12
  generalize ks 13 = k13 at hk13 ⊢; subst hk13
  generalize ks 28 = k28 at hk28 ⊢; subst hk28
  generalize ks 29 = k29 at hk29 ⊢; subst hk29
  generalize ks 30 = k30 at hk30 ⊢; subst hk30
  generalize ks 31 = k31 at hk31 ⊢; subst hk31
  generalize ks 32 = k32 at hk32 ⊢; subst hk32
  generalize ks 33 = k33 at hk33 ⊢; subst hk33
  generalize ks 34 = k34 at hk34 ⊢; subst hk34
  generalize ks 35 = k35 at hk35 ⊢; subst hk35
  generalize ks 36 = k36 at hk36 ⊢; subst hk36
  generalize ks 37 = k37 at hk37 ⊢; subst hk37
  generalize ks 38 = k38 at hk38 ⊢; subst hk38
  generalize ks 39 = k39 at hk39 ⊢; subst hk39
  generalize ks 40 = k40 at hk40 ⊢; subst hk40
  generalize fr 14 = s14 at hrel ⊢
  clear e1 hB0 hF0 hT0
  obtain ⟨he, hbx, k, hk, hs1', ⟨A', N, y, hf⟩, ht⟩ := hrel
  subst hs1'
  have hsz := he.size
  have hok := foldTo_ok HG.out k (by rw [← hl.out]; exact hk)
  obtain ⟨⟨K, B⟩, hP⟩ : ∃ P, foldTo gs k = P := ⟨_, rfl⟩
  rw [hP] at hok hf ht
  dsimp only at hok hf ht
  have hBl := hok.len
  have hNl := hf.len
  have hN2 : N ≤ 200 := by have := hok.le; omega
  have hcf := hbx.cell 0 _ rfl
  by_cases hlt : k < n
  · obtain ⟨gb, kk, a, b, rfl, hx, c0, c1, c2⟩ := (h.ext he).at_ hlt
    have HI := hide (fold_ins (n := n) HG.out hok hx)
    have HF := hide (fold_fit HG.out hok hx)
    obtain ⟨q2, q3, hq⟩ := moveG_kind (fun x => B.getD x.toNat 0) kk a b
    have HH := hide (fold_succ hP hx hq)
    have HL := hide (fun x hxi wq (hE : Ext wr wq) => Fold_lit_c x (w.heap.size + 2) (w.heap.size + 1) n n _ (fun x => B.getD x.toNat 0) wq ((ht.ints (by omega)).ext hE) (hE.cell hcf) (HI.out x hxi))
    have HM := hide (fun wq (hE : Ext wr wq) => moved_c kk a b 135 #[.pointer (some ⟨w.heap.size + 2, 0, none⟩)] (fun x => B.getD x.toNat 0) wq Fold_lit_enters (fun x hxi w2 hE2 => HL.out x hxi w2 (hE.trans hE2)))
    rw [hq] at HF HM
    have HFO := hide (fun wq (hE : Ext wr wq) => fold_o w.heap.size w.heap.size A' N y kk q2 q3 K wq (hf.ext hE) hN2 (Nat.le_trans hsz hE.size) HF.out)
    obtain ⟨⟨F1, F2⟩, hFA⟩ : ∃ P, foldAt K (kk, q2, q3) = P := ⟨_, rfl⟩
    rw [hFA] at HH HFO
    dsimp only at HH HFO
    have HX := hide hf
    have HT := hide ht
    have HB := hide hbx
    have HE := hide he
    have hz2 := hbx.lt
    clear ht he hx hP hq HL hf hbx HI hFA
    go_wp2_with fail
    obtain ⟨W2, hW2⟩ : ∃ W2, W2 = wr.alloc (.cells #[.int .i64 kk, .int .i64 a, .int .i64 b] 86) := ⟨_, rfl⟩
    have e2 : Ext wr W2 := by rw [hW2]; exact (Ext.refl wr).alloc _
    have hb2 : BoxAt W2 wr.heap.size 86 #[.int .i64 kk, .int .i64 a, .int .i64 b] := by rw [hW2]; exact BoxAt.made _ _ _
    rw [← hW2]
    have u0 := hb2.cell 0 _ rfl
    have u1 := hb2.cell 1 _ rfl
    have u2 := hb2.cell 2 _ rfl
    have u3 := e2.cell hcf
    have HB2 := hide hb2
    clear hW2 c0 c1 c2 hcf hb2
    go_region_held3 (fun w' => w'.cell? ⟨w.heap.size + 2, 0, none⟩ = some (.slice (some ⟨w.heap.size + 1, 0, none⟩) n n) ∧ w'.cell? ⟨wr.heap.size, 0, none⟩ = some (.int .i64 kk) ∧ w'.cell? ⟨wr.heap.size, 1, none⟩ = some (.int .i64 a) ∧ w'.cell? ⟨wr.heap.size, 2, none⟩ = some (.int .i64 b)) (first | (refine ⟨?_, ?_, ?_, ?_⟩ <;> assumption) | (exact ⟨(show Ext W2 _ by (repeat (first | with_reducible exact Ext.refl _ | with_reducible assumption | ((with_reducible refine Ext.setCell ?_ ?_ _); rotate_left; focus (first | omega | (simp <;> omega))) | with_reducible refine Ext.alloc ?_ _ | with_reducible refine Ext.drewN ?_ _ | with_reducible refine Ext.drew ?_ | with_reducible refine Ext.trans ?_ (by with_reducible assumption)))).cell u3, (show Ext W2 _ by (repeat (first | with_reducible exact Ext.refl _ | with_reducible assumption | ((with_reducible refine Ext.setCell ?_ ?_ _); rotate_left; focus (first | omega | (simp <;> omega))) | with_reducible refine Ext.alloc ?_ _ | with_reducible refine Ext.drewN ?_ _ | with_reducible refine Ext.drew ?_ | with_reducible refine Ext.trans ?_ (by with_reducible assumption)))).cell u0, (show Ext W2 _ by (repeat (first | with_reducible exact Ext.refl _ | with_reducible assumption | ((with_reducible refine Ext.setCell ?_ ?_ _); rotate_left; focus (first | omega | (simp <;> omega))) | with_reducible refine Ext.alloc ?_ _ | with_reducible refine Ext.drewN ?_ _ | with_reducible refine Ext.drew ?_ | with_reducible refine Ext.trans ?_ (by with_reducible assumption)))).cell u1, (show Ext W2 _ by (repeat (first | with_reducible exact Ext.refl _ | with_reducible assumption | ((with_reducible refine Ext.setCell ?_ ?_ _); rotate_left; focus (first | omega | (simp <;> omega))) | with_reducible refine Ext.alloc ?_ _ | with_reducible refine Ext.drewN ?_ _ | with_reducible refine Ext.drew ?_ | with_reducible refine Ext.trans ?_ (by with_reducible assumption)))).cell u2⟩)) (first | (go_at_call 71; (with_reducible refine (HM.out _ (e2.trans (by (repeat (first | with_reducible exact Ext.refl _ | with_reducible assumption | ((with_reducible refine Ext.setCell ?_ ?_ _); rotate_left; focus (first | omega | (simp <;> omega))) | with_reducible refine Ext.alloc ?_ _ | with_reducible refine Ext.drewN ?_ _ | with_reducible refine Ext.drew ?_ | with_reducible refine Ext.trans ?_ (by with_reducible assumption)))))).mono ?_); rintro e w3 ⟨rfl, he3⟩; have ew3 : Ext W2 w3 := (by (repeat (first | with_reducible exact Ext.refl _ | with_reducible assumption | ((with_reducible refine Ext.setCell ?_ ?_ _); rotate_left; focus (first | omega | (simp <;> omega))) | with_reducible refine Ext.alloc ?_ _ | with_reducible refine Ext.drewN ?_ _ | with_reducible refine Ext.drew ?_ | with_reducible refine Ext.trans ?_ (by with_reducible assumption))))) | (go_at_call 134; (with_reducible refine (HFO.out _ (e2.trans ew3)).mono ?_); rintro e w4 ⟨rfl, hFd⟩; have HFd := hide hFd; have HTd := hide (hFd.own (HT.out.ext (e2.trans ew3)) ((HT.out.ext (e2.trans ew3)).ne_type (HX.out.ext (e2.trans ew3)).own (by decide)) (by simp [Value.ownBlock])); have z0 := (hFd.box (HB.out.ext (e2.trans ew3)) (by omega) (fun hh => by have := ((HX.out.ext (e2.trans ew3)).own.block_type hh); obtain ⟨cs, hcs⟩ := this; have hq := (HB.out.ext (e2.trans ew3)); unfold BoxAt at hq; rw [hq] at hcs; simp at hcs)); have zb := z0.cell 0 (.slice (some ⟨w.heap.size + 1, 0, none⟩) n n) rfl; have zg := hFd.box (HB2.out.ext ew3) (by omega) (fun hh => by have := (HX.out.own.lt _ hh).2; omega); have z1 := zg.cell 0 (.int .i64 kk) rfl; have z2 := zg.cell 1 (.int .i64 a) rfl; have z3 := zg.cell 2 (.int .i64 b) rfl; have y0 := (z0.setOther (p := ⟨w.heap.size + 1, k, none⟩) (by simp) (.int .i64 F1)).cell 0 (.slice (some ⟨w.heap.size + 1, 0, none⟩) n n) rfl; have yg := zg.setOther (p := ⟨w.heap.size + 1, k, none⟩) (by simp; omega) (.int .i64 F1); have y1 := yg.cell 0 (.int .i64 kk) rfl; have y2 := yg.cell 1 (.int .i64 a) rfl; have y3 := yg.cell 2 (.int .i64 b) rfl; have zt := HTd.out.int_atS (q := k) (by omega); obtain ⟨zu, -, zd, zf⟩ := zt; have HB4 := hide z0; clear z0 zg yg hFd))
    go_wp2_with fail
    have e4 := HFd.out.ext (HX.out.ext (e2.trans ew3)) (HE.out.trans (e2.trans ew3)) (Nat.le_refl _) (Nat.le_refl _)
    have e5 := e4.setCell (p := ⟨w.heap.size + 1, k, none⟩) (by simp) (.int .i64 F1)
    have ht5 := HTd.out.setInt k F1
    have hb5 := HB4.out.setOther (p := ⟨w.heap.size + 1, k, none⟩) (by simp) (.int .i64 F1)
    obtain ⟨A5, n5, c5, hf4, -⟩ := HFd.out
    have hf5 := hf4.store HTd.out (by simp) k (.int .i64 F1)
    have HE5 := hide e5
    have HT5 := hide ht5
    have HB5 := hide hb5
    have HF5 := hide hf5
    clear e4 e5 ht5 hb5 hf4 hf5 HFd HTd HB4
    exact ⟨⟨(by (repeat (first | exact trivial | refine ⟨rfl, ?_⟩))), HE5.out, HB5.out, k + 1, by omega, by go_num, ⟨_, _, _, by rw [HH.out]; exact HF5.out⟩, by rw [HH.out, ← fold_ts hBl (by omega)]; exact HT5.out⟩, (by simp [intOf] <;> omega)⟩
  · obtain rfl : k = n := by omega
    obtain ⟨v, hv⟩ : ∃ v, B[k - 1]? = some v := ⟨_, List.getElem?_eq_getElem (by omega)⟩
    have hvr := hok.rng v (List.mem_of_getElem? hv)
    obtain ⟨m, rfl⟩ := int_nat hvr.1
    have hmN : m < N := by omega
    have hFo : Hid (foldG gs = trimG (K.take (m + 1))) := hide (by
      unfold foldG
      rw [← hl.out, hP]
      dsimp only
      rw [List.getD_eq_getElem?_getD, hv]; rfl)
    have hcap := hf.own.capK
    have hdT : wr.cell? ⟨w.heap.size + 1, k - 1, none⟩ = some (.int .i64 (m : Int)) := ht.cell (by
      rw [List.getElem?_map, List.getElem?_append_left (by omega), hv]; rfl)
    have hdX : wr.cell? ⟨w.heap.size, 0, none⟩ = some (.slice A' N y) := hf.box.cell 0 _ rfl
    have hGt := hide (fun W (E : Ext wr W) => ((hf.gates hN2).ext E).take (m + 1) (by omega))
    have hGG := hide (hok.good.take (m + 1))
    have HE := hide he
    have HL := hide (fun W (E : Ext wr W) => trim_c A' (m + 1) y (K.take (m + 1)) W (hGt.out W E) hGG.out (by omega) (by omega))
    clear ht hP hok hv hvr he hf hbx hGt hGG hlt
    obtain ⟨p, rfl⟩ : ∃ p, k = p + 1 := ⟨k - 1, by omega⟩
    rw [Nat.add_sub_cancel] at hdT
    have hw1 : IntKind.i64.wrap (p : Int) = (p : Int) := IntWalk.i64_in _ (by omega)
    have hw2 : IntKind.i64.wrap ((m : Int) + 1) = (m : Int) + 1 := IntWalk.i64_in _ (by omega)
    have hp0 : (0 : Int) ≤ (p : Int) := by omega
    have hp1 : (p : Int) < (p : Int) + 1 := by omega
    have hm0 : (0 : Int) ≤ (m : Int) + 1 := by omega
    have hm1 : (m : Int) + 1 ≤ (y : Int) := by omega
    have hm2 : ((m : Int) + 1).toNat = m + 1 := by omega
    have hm3 : m + 1 ≤ y := by omega
    go_wp2_with fail
    go_region_held3 (fun w' => w'.cell? ⟨w.heap.size, 0, none⟩ = some (.slice A' N y) ∧ w'.cell? ⟨w.heap.size + 2, 0, none⟩ = some (.slice (some ⟨w.heap.size + 1, 0, none⟩) (p + 1) (p + 1)) ∧ w'.cell? ⟨w.heap.size + 1, p, none⟩ = some (.int .i64 (m : Int))) (exact ⟨(show Ext wr _ by (repeat (first | with_reducible exact Ext.refl _ | with_reducible assumption | ((with_reducible refine Ext.setCell ?_ ?_ _); rotate_left; focus (first | omega | (simp <;> omega))) | with_reducible refine Ext.alloc ?_ _ | with_reducible refine Ext.drewN ?_ _ | with_reducible refine Ext.drew ?_ | with_reducible refine Ext.trans ?_ (by with_reducible assumption)))).cell hdX, (show Ext wr _ by (repeat (first | with_reducible exact Ext.refl _ | with_reducible assumption | ((with_reducible refine Ext.setCell ?_ ?_ _); rotate_left; focus (first | omega | (simp <;> omega))) | with_reducible refine Ext.alloc ?_ _ | with_reducible refine Ext.drewN ?_ _ | with_reducible refine Ext.drew ?_ | with_reducible refine Ext.trans ?_ (by with_reducible assumption)))).cell hcf, (show Ext wr _ by (repeat (first | with_reducible exact Ext.refl _ | with_reducible assumption | ((with_reducible refine Ext.setCell ?_ ?_ _); rotate_left; focus (first | omega | (simp <;> omega))) | with_reducible refine Ext.alloc ?_ _ | with_reducible refine Ext.drewN ?_ _ | with_reducible refine Ext.drew ?_ | with_reducible refine Ext.trans ?_ (by with_reducible assumption)))).cell hdT⟩) (first | (go_at_call 81; (with_reducible refine (HL.out _ (by (repeat (first | with_reducible exact Ext.refl _ | with_reducible assumption | ((with_reducible refine Ext.setCell ?_ ?_ _); rotate_left; focus (first | omega | (simp <;> omega))) | with_reducible refine Ext.alloc ?_ _ | with_reducible refine Ext.drewN ?_ _ | with_reducible refine Ext.drew ?_ | with_reducible refine Ext.trans ?_ (by with_reducible assumption))))).mono ?_); rintro e w5 ⟨A5, n5, c5, rfl, hl5, ho5, he5⟩; have ew5 : Ext wr w5 := (by (repeat (first | with_reducible exact Ext.refl _ | with_reducible assumption | ((with_reducible refine Ext.setCell ?_ ?_ _); rotate_left; focus (first | omega | (simp <;> omega))) | with_reducible refine Ext.alloc ?_ _ | with_reducible refine Ext.drewN ?_ _ | with_reducible refine Ext.drew ?_ | with_reducible refine Ext.trans ?_ (by with_reducible assumption)))); have ho5' := hide ho5; have hz5 : Hid (wr.heap.size ≤ _) := hide (show Ext wr _ by (repeat (first | with_reducible exact Ext.refl _ | with_reducible assumption | ((with_reducible refine Ext.setCell ?_ ?_ _); rotate_left; focus (first | omega | (simp <;> omega))) | with_reducible refine Ext.alloc ?_ _ | with_reducible refine Ext.drewN ?_ _ | with_reducible refine Ext.drew ?_ | with_reducible refine Ext.trans ?_ (by with_reducible assumption)))).size; clear ho5))
    go_wp2_with fail
    go_ret

    exact ⟨_, _, _, rfl, by rw [hFo.out]; exact hl5, by rw [hFo.out]; exact ho5'.out.lower hsz, HE.out.trans ew5⟩
end Go.Proofs.Ytcbjaomjamfjcaa
