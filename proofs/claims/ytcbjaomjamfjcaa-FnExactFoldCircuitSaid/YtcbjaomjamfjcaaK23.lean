/-
  Folding: the reference's fold; no condition.
-/
import Derived.Test.YtcbjaomjamfjcaaK23p
namespace Go.Proofs.Ytcbjaomjamfjcaa
set_option linter.unusedSimpArgs false
set_option linter.unusedVariables false
open Go.RowKit

set_option maxRecDepth 100000 in
set_option maxHeartbeats 6400000 in
theorem l6Fold_c (A : Option Addr) (n c : Nat) (gs : List Gt) (w : World) (h : Gates w A n gs) (hg : GoodG gs) (hn : n ≤ 200) (hn1 : 1 ≤ n) :
    Calls Try.prog 94 #[.slice A n c] w fun e w' => ∃ A' n' c', e = .returned (.slice A' n' c') ∧ Hid ((foldG gs).length = n') ∧ Own w' w.heap.size 86 3 A' n' c' ((fl (foldG gs)).map (Value.int .i64)) ∧ Ext w w' := by
  have hmk := fun W => make_eq (P := Try.prog) 37 3 Try.underlying37 _ 8 info_int rfl n (by omega) (by omega) W
  have HG := hide hg
  have hl := hide h.len
  have hoa : Own (((w.alloc (.cells #[] 86)).alloc (.cells (madeCells #[.int .i64 0] n) 3)).drew) w.heap.size 86 3 (some ⟨w.heap.size, 0, none⟩) 0 0 ((fl (foldTo gs 0).1).map (Value.int .i64)) :=
    ((Own.arr #[] 0 [] (Nat.le_refl _) (by decide) rfl rfl).alloc _).ext ((Ext.refl _).drew)
  have hob : Own (((w.alloc (.cells (madeCells #[.int .i64 0] n) 3)).alloc (.cells #[] 86)).drew) w.heap.size 86 3 (some ⟨w.heap.size + 1, 0, none⟩) 0 0 ((fl (foldTo gs 0).1).map (Value.int .i64)) :=
    (Own.arr_at #[] 0 [] (by simp) (by simp) (by decide) rfl rfl).ext ((Ext.refl _).drew)
  have hta : Own (((w.alloc (.cells #[] 86)).alloc (.cells (madeCells #[.int .i64 0] n) 3)).drew) w.heap.size 3 1 (some ⟨w.heap.size + 1, 0, none⟩) n n (((foldTo gs 0).2 ++ List.replicate (n - 0) (0 : Int)).map (Value.int .i64)) :=
    (Own.arr_at (madeCells #[.int .i64 0] n) n _ (by simp) (by simp) (by omega) (by simp [foldTo]) (by rw [toList_madeCells_one]; simp [foldTo])).ext ((Ext.refl _).drew)
  have htb : Own (((w.alloc (.cells (madeCells #[.int .i64 0] n) 3)).alloc (.cells #[] 86)).drew) w.heap.size 3 1 (some ⟨w.heap.size, 0, none⟩) n n (((foldTo gs 0).2 ++ List.replicate (n - 0) (0 : Int)).map (Value.int .i64)) :=
    ((Own.arr_at (madeCells #[.int .i64 0] n) n _ rfl (Nat.le_refl _) (by omega) (by simp [foldTo]) (by rw [toList_madeCells_one]; simp [foldTo])).alloc _).ext ((Ext.refl _).drew)
  have ea : Ext w (((w.alloc (.cells #[] 86)).alloc (.cells (madeCells #[.int .i64 0] n) 3)).drew) := (((Ext.refl w).alloc _).alloc _).drew
  have eb : Ext w (((w.alloc (.cells (madeCells #[.int .i64 0] n) 3)).alloc (.cells #[] 86)).drew) := (((Ext.refl w).alloc _).alloc _).drew
  have HOA := hide hoa
  have HOB := hide hob
  have HTA := hide hta
  have HTB := hide htb
  have HEA := hide ea
  have HEB := hide eb
  clear hoa hob hta htb ea eb hg
  go_enter Try.func94, Try.ntmps94
  go_wp2_with fail
  go_region
  all_goals
    clear hmk
    go_wp2_with fail
    refine wp_loopF 80 _ rfl rfl [0, 70, 71, 72, 73, 74, 75, 76, 77, 78, 79] rfl (fun fr wr => Ext w wr ∧ ∃ k : Nat, k ≤ n ∧ (fr 5) = .int .i64 k ∧ (∃ X N y, (fr 3) = .slice X N y ∧ Hid ((foldTo gs k).1.length = N) ∧ Own wr w.heap.size 86 3 X N y ((fl (foldTo gs k).1).map (Value.int .i64))) ∧ ∃ T yT, (fr 4) = .slice (some ⟨T, 0, none⟩) n yT ∧ Own wr w.heap.size 3 1 (some ⟨T, 0, none⟩) n yT (((foldTo gs k).2 ++ List.replicate (n - k) (0 : Int)).map (Value.int .i64))) (fun fr wr => n - (intOf (fr 5)).toNat) ?_ ?_
    · (exact ⟨by first | exact HEA.out | exact HEB.out, 0, by omega, rfl, ⟨_, _, _, rfl, rfl, by first | exact HOA.out | exact HOB.out⟩, _, _, rfl, by first | exact HTA.out | exact HTB.out⟩)
    intro ks fr wr hkept hrel; (try dsimp only at hrel)
    change Code.wp _ _ _ ⟨#[ks 0, fr 1, fr 2, fr 3, fr 4, fr 5, fr 6, fr 7, fr 8, fr 9, fr 10, fr 11, fr 12, fr 13, fr 14, fr 15, fr 16, fr 17, fr 18, fr 19, fr 20, fr 21, fr 22, fr 23, fr 24, fr 25, fr 26, fr 27, fr 28, fr 29, fr 30, fr 31, fr 32, fr 33, fr 34, fr 35, fr 36, fr 37, fr 38, fr 39, fr 40, fr 41, fr 42, fr 43, fr 44, fr 45, fr 46, fr 47, fr 48, fr 49, fr 50, fr 51, fr 52, fr 53, fr 54, fr 55, fr 56, fr 57, fr 58, fr 59, fr 60, fr 61, fr 62, fr 63, fr 64, fr 65, fr 66, fr 67, fr 68, fr 69, ks 70, ks 71, ks 72, ks 73, ks 74, ks 75, ks 76, ks 77, ks 78, ks 79], []⟩ wr
    simp only [KeptV, List.getD_cons_zero, List.getD_cons_succ] at hkept; obtain ⟨hk0, hk70, hk71, hk72, hk73, hk74, hk75, hk76, hk77, hk78, hk79, -⟩ := hkept
    generalize ks 0 = k0 at hk0 ⊢; subst hk0
    generalize ks 70 = k70 at hk70 ⊢; subst hk70
    generalize ks 71 = k71 at hk71 ⊢; subst hk71
    generalize ks 72 = k72 at hk72 ⊢; subst hk72
    generalize ks 73 = k73 at hk73 ⊢; subst hk73
    generalize ks 74 = k74 at hk74 ⊢; subst hk74
    generalize ks 75 = k75 at hk75 ⊢; subst hk75
    generalize ks 76 = k76 at hk76 ⊢; subst hk76
    generalize ks 77 = k77 at hk77 ⊢; subst hk77
    generalize ks 78 = k78 at hk78 ⊢; subst hk78
    generalize ks 79 = k79 at hk79 ⊢; subst hk79
    generalize fr 3 = s3 at hrel ⊢
    generalize fr 4 = s4 at hrel ⊢
    generalize fr 5 = s5 at hrel ⊢
    clear HOA HOB HTA HTB HEA HEB
    obtain ⟨he, k, hk, hs1', ⟨X, N, y, hs2', hNl, ho⟩, T, yT, hs3', ht⟩ := hrel
    subst hs1'; subst hs2'; subst hs3'
    have hsz := he.size
    have hok := foldTo_ok HG.out k (by rw [← hl.out]; exact hk)
    obtain ⟨⟨K, B⟩, hP⟩ : ∃ P, foldTo gs k = P := ⟨_, rfl⟩
    rw [hP] at hok hNl ho ht
    dsimp only at hok hNl ho ht
    have hBl := hok.len
    have hN2 : N ≤ 200 := by have := hok.le; have := hNl.out; omega
    by_cases hlt : k < n
    · obtain ⟨gb, kk, a, b, rfl, hx, c0, c1, c2⟩ := (h.ext he).at_ hlt
      have HI := hide (fold_ins (n := n) HG.out hok hx)
      have HF := hide (fold_fit HG.out hok hx)
      obtain ⟨q2, q3, hq⟩ := moveG_kind (fun x => B.getD x.toNat 0) kk a b
      have HH := hide (fold_succ hP hx hq)
      have hrg := hok.good
      have HT := hide ht
      have HO := hide ho
      have HE := hide he
      clear ht ho he hx hP
      go_wp2_with fail
      (with_reducible refine (l6Moved_c kk a b _ n yT _ (fun x => B.getD x.toNat 0) _ (HT.out.ints (by omega)) HI.out).mono ?_)
      rw [hq] at HF ⊢
      clear hq HI
      (try dsimp only at HF ⊢)
      rintro e w4 ⟨rfl, he4⟩
      have e5 : Ext w (w4.alloc (.cells #[.int .i64 kk, .int .i64 q2, .int .i64 q3] 86)) := (HE.out.trans he4).alloc _
      have ox5 := HO.out.ext (he4.alloc (.cells #[.int .i64 kk, .int .i64 q2, .int .i64 q3] 86))
      have ht5 := HT.out.ext (he4.alloc (.cells #[.int .i64 kk, .int .i64 q2, .int .i64 q3] 86))
      have hb5 : BoxAt (w4.alloc (.cells #[.int .i64 kk, .int .i64 q2, .int .i64 q3] 86)) w4.heap.size 86 #[.int .i64 kk, .int .i64 q2, .int .i64 q3] := BoxAt.made _ _ _
      have hs4 : w.heap.size ≤ w4.heap.size := (HE.out.trans he4).size
      have ONE' := fun k' hh => ((HO.out.ext he4).lt k' hh).2
      have TNE' := fun k' hh => ((HT.out.ext he4).lt k' hh).2
      clear he4 HE HO HT c0 c1 c2
      have ONE := hide ONE'
      have TNE := hide TNE'
      clear ONE' TNE'
      have HKG : Gates (w4.alloc (.cells #[.int .i64 kk, .int .i64 q2, .int .i64 q3] 86)) X N K := (ObF.of (e := 86) (sz := 3) ox5 (by omega)).gates
      by_cases h5 : kk = 5
      · subst h5
        rw [foldAt_5'] at HH
        have ha := HF.out.2.1 q2 (by simp [insG])
        have hb := HF.out.2.1 q3 (by simp [insG])
        have HS := hide (l6Same_c X N y 5 q2 q3 3 2 K _ HKG ha hb)
        generalize sameG K q2 q3 3 2 = sm at HH HS
        clear HF HKG ha hb
        have E5 := hide e5
        have O5 := hide ox5
        have T5 := hide ht5
        have B5 := hide hb5
        clear e5 ox5 ht5 hb5
        go_wp2_with fail
        (with_reducible refine HS.out.mono ?_)
        rintro e w5 ⟨rfl, he5⟩
        have e5 := E5.out.trans he5
        have ox5 := O5.out.ext he5
        have ht5 := T5.out.ext he5
        have hb5 := B5.out.ext he5
        clear HS he5 E5 O5 T5 B5
        by_cases hneg : sm < 0
        · rw [if_pos hneg] at HH
          have d0 := hb5.cell 0 _ rfl
          have d1 := hb5.cell 1 _ rfl
          have d2 := hb5.cell 2 _ rfl
          have E5 := hide e5
          have O5 := hide ox5
          have T5 := hide ht5
          clear e5 ox5 ht5 hb5
          go_wp2_with fail
          have e5 := E5.out
          have ox5 := O5.out
          have ht5 := T5.out
          clear E5 O5 T5 d0 d1 d2
          have hs5 := e5.size
          (with_reducible refine (l6Keep_o w.heap.size X N y (5) (q2) (q3) K _ (ox5.ext (by (repeat (first | with_reducible exact Ext.refl _ | with_reducible assumption | ((with_reducible refine Ext.setCell ?_ ?_ _); rotate_left; focus (first | omega | (simp <;> omega))) | with_reducible refine Ext.alloc ?_ _ | with_reducible refine Ext.drewN ?_ _ | with_reducible refine Ext.drew ?_ | with_reducible refine Ext.trans ?_ (by with_reducible assumption))))) (by omega) hNl (by first | omega | (simp <;> omega))).mono ?_)
          generalize keepG K (5, q2, q3) = KP at HH ⊢
          obtain ⟨F1, F2⟩ := KP
          dsimp only at HH ⊢
          rintro e w6 ⟨X6, N6, y6, rfl, hL6, ho6, hg6⟩
          have e5x := e5
          have ox5x := ox5
          have ht5x := ht5
          have e6 := hide (e5x.trans_own (Nat.le_refl _) ox5x hg6)
          have ht6 := hide (ht5x.kept hg6 (ht5x.ne_type ox5x (by decide)))
          have ho6 := hide ho6
          clear e5x ox5x ht5x hg6 e5 ox5 ht5
          have e6 := e6.out
          have ht6 := ht6.out
          have ho6 := ho6.out
          have e7 := e6.setCell (p := ⟨T, k, none⟩) (by have := (ht6.lt T rfl).1; exact this) (.int .i64 (F1))
          have ht7 := ht6.setInt k (F1)
          have ho7 := ho6.storeOther (p := ⟨T, k, none⟩) (.int .i64 (F1)) (by have h1 := ho6.ne_type ht6 (by decide); rcases h1 with h1 | h1 <;> simp [h1]; simpa [Value.ownBlock] using h1)
          obtain ⟨u, -, dT, fT⟩ := ht6.int_atS (q := k) (by omega)
          have HE := hide e7
          have HO := hide ho7
          have HT := hide ht7
          clear e6 ht6 ho6 e7 ho7 ht7
          go_wp2_with fail
          exact ⟨⟨(by (repeat (first | exact trivial | refine ⟨rfl, ?_⟩))), HE.out, k + 1, by omega, by go_num, ⟨_, _, _, rfl, by rw [HH.out]; exact hL6, by rw [HH.out]; exact HO.out⟩, _, _, rfl, by rw [HH.out, ← fold_ts hBl (by omega)]; exact HT.out⟩, (by simp [intOf] <;> omega)⟩
        · rw [if_neg hneg] at HH
          dsimp only at HH
          have e7 := e5.setCell (p := ⟨T, k, none⟩) (by have := (ht5.lt T rfl).1; exact this) (.int .i64 (sm))
          have ht7 := ht5.setInt k (sm)
          have ho7 := ox5.storeOther (p := ⟨T, k, none⟩) (.int .i64 (sm)) (by have h1 := ox5.ne_type ht5 (by decide); rcases h1 with h1 | h1 <;> simp [h1]; simpa [Value.ownBlock] using h1)
          obtain ⟨u, -, dT, fT⟩ := ht5.int_atS (q := k) (by omega)
          have HE := hide e7
          have HO := hide ho7
          have HT := hide ht7
          clear e5 ht5 ox5 e7 ho7 ht7
          go_wp2_with fail
          exact ⟨⟨(by (repeat (first | exact trivial | refine ⟨rfl, ?_⟩))), HE.out, k + 1, by omega, by go_num, ⟨_, _, _, rfl, by rw [HH.out]; exact hNl, by rw [HH.out]; exact HO.out⟩, _, _, rfl, by rw [HH.out, ← fold_ts hBl (by omega)]; exact HT.out⟩, (by simp [intOf] <;> omega)⟩
      by_cases h6 : kk = 6
      · subst h6
        rw [foldAt_6'] at HH
        have ha := HF.out.2.1 q2 (by simp [insG])
        have hb := HF.out.2.1 q3 (by simp [insG])
        have HS := hide (l6Same_c X N y 6 q2 q3 2 3 K _ HKG ha hb)
        generalize sameG K q2 q3 2 3 = sm at HH HS
        clear HF HKG ha hb
        have E5 := hide e5
        have O5 := hide ox5
        have T5 := hide ht5
        have B5 := hide hb5
        clear e5 ox5 ht5 hb5
        go_wp2_with fail
        (with_reducible refine HS.out.mono ?_)
        rintro e w5 ⟨rfl, he5⟩
        have e5 := E5.out.trans he5
        have ox5 := O5.out.ext he5
        have ht5 := T5.out.ext he5
        have hb5 := B5.out.ext he5
        clear HS he5 E5 O5 T5 B5
        by_cases hneg : sm < 0
        · rw [if_pos hneg] at HH
          have d0 := hb5.cell 0 _ rfl
          have d1 := hb5.cell 1 _ rfl
          have d2 := hb5.cell 2 _ rfl
          have E5 := hide e5
          have O5 := hide ox5
          have T5 := hide ht5
          clear e5 ox5 ht5 hb5
          go_wp2_with fail
          have e5 := E5.out
          have ox5 := O5.out
          have ht5 := T5.out
          clear E5 O5 T5 d0 d1 d2
          have hs5 := e5.size
          (with_reducible refine (l6Keep_o w.heap.size X N y (6) (q2) (q3) K _ (ox5.ext (by (repeat (first | with_reducible exact Ext.refl _ | with_reducible assumption | ((with_reducible refine Ext.setCell ?_ ?_ _); rotate_left; focus (first | omega | (simp <;> omega))) | with_reducible refine Ext.alloc ?_ _ | with_reducible refine Ext.drewN ?_ _ | with_reducible refine Ext.drew ?_ | with_reducible refine Ext.trans ?_ (by with_reducible assumption))))) (by omega) hNl (by first | omega | (simp <;> omega))).mono ?_)
          generalize keepG K (6, q2, q3) = KP at HH ⊢
          obtain ⟨F1, F2⟩ := KP
          dsimp only at HH ⊢
          rintro e w6 ⟨X6, N6, y6, rfl, hL6, ho6, hg6⟩
          have e5x := e5
          have ox5x := ox5
          have ht5x := ht5
          have e6 := hide (e5x.trans_own (Nat.le_refl _) ox5x hg6)
          have ht6 := hide (ht5x.kept hg6 (ht5x.ne_type ox5x (by decide)))
          have ho6 := hide ho6
          clear e5x ox5x ht5x hg6 e5 ox5 ht5
          have e6 := e6.out
          have ht6 := ht6.out
          have ho6 := ho6.out
          have e7 := e6.setCell (p := ⟨T, k, none⟩) (by have := (ht6.lt T rfl).1; exact this) (.int .i64 (F1))
          have ht7 := ht6.setInt k (F1)
          have ho7 := ho6.storeOther (p := ⟨T, k, none⟩) (.int .i64 (F1)) (by have h1 := ho6.ne_type ht6 (by decide); rcases h1 with h1 | h1 <;> simp [h1]; simpa [Value.ownBlock] using h1)
          obtain ⟨u, -, dT, fT⟩ := ht6.int_atS (q := k) (by omega)
          have HE := hide e7
          have HO := hide ho7
          have HT := hide ht7
          clear e6 ht6 ho6 e7 ho7 ht7
          go_wp2_with fail
          exact ⟨⟨(by (repeat (first | exact trivial | refine ⟨rfl, ?_⟩))), HE.out, k + 1, by omega, by go_num, ⟨_, _, _, rfl, by rw [HH.out]; exact hL6, by rw [HH.out]; exact HO.out⟩, _, _, rfl, by rw [HH.out, ← fold_ts hBl (by omega)]; exact HT.out⟩, (by simp [intOf] <;> omega)⟩
        · rw [if_neg hneg] at HH
          dsimp only at HH
          have e7 := e5.setCell (p := ⟨T, k, none⟩) (by have := (ht5.lt T rfl).1; exact this) (.int .i64 (sm))
          have ht7 := ht5.setInt k (sm)
          have ho7 := ox5.storeOther (p := ⟨T, k, none⟩) (.int .i64 (sm)) (by have h1 := ox5.ne_type ht5 (by decide); rcases h1 with h1 | h1 <;> simp [h1]; simpa [Value.ownBlock] using h1)
          obtain ⟨u, -, dT, fT⟩ := ht5.int_atS (q := k) (by omega)
          have HE := hide e7
          have HO := hide ho7
          have HT := hide ht7
          clear e5 ht5 ox5 e7 ho7 ht7
          go_wp2_with fail
          exact ⟨⟨(by (repeat (first | exact trivial | refine ⟨rfl, ?_⟩))), HE.out, k + 1, by omega, by go_num, ⟨_, _, _, rfl, by rw [HH.out]; exact hNl, by rw [HH.out]; exact HO.out⟩, _, _, rfl, by rw [HH.out, ← fold_ts hBl (by omega)]; exact HT.out⟩, (by simp [intOf] <;> omega)⟩
      by_cases h4 : kk = 4
      rotate_left
      · rw [foldAt_no' h4 h5 h6] at HH
        have h4' : (kk == 4) = false := by simpa using h4
        have h5' : (kk == 5) = false := by simpa using h5
        have h6' : (kk == 6) = false := by simpa using h6
        clear HF HKG hb5
        have E5 := hide e5
        have O5 := hide ox5
        have T5 := hide ht5
        clear e5 ox5 ht5
        go_wp2_with fail
        have e5 := E5.out
        have ox5 := O5.out
        have ht5 := T5.out
        clear E5 O5 T5
        have hs5 := e5.size
        (with_reducible refine (l6Keep_o w.heap.size X N y (kk) (q2) (q3) K _ (ox5.ext (by (repeat (first | with_reducible exact Ext.refl _ | with_reducible assumption | ((with_reducible refine Ext.setCell ?_ ?_ _); rotate_left; focus (first | omega | (simp <;> omega))) | with_reducible refine Ext.alloc ?_ _ | with_reducible refine Ext.drewN ?_ _ | with_reducible refine Ext.drew ?_ | with_reducible refine Ext.trans ?_ (by with_reducible assumption))))) (by omega) hNl (by first | omega | (simp <;> omega))).mono ?_)
        generalize keepG K (kk, q2, q3) = KP at HH ⊢
        obtain ⟨F1, F2⟩ := KP
        dsimp only at HH ⊢
        rintro e w6 ⟨X6, N6, y6, rfl, hL6, ho6, hg6⟩
        have e5x := e5
        have ox5x := ox5
        have ht5x := ht5
        have e6 := hide (e5x.trans_own (Nat.le_refl _) ox5x hg6)
        have ht6 := hide (ht5x.kept hg6 (ht5x.ne_type ox5x (by decide)))
        have ho6 := hide ho6
        clear e5x ox5x ht5x hg6 e5 ox5 ht5
        have e6 := e6.out
        have ht6 := ht6.out
        have ho6 := ho6.out
        have e7 := e6.setCell (p := ⟨T, k, none⟩) (by have := (ht6.lt T rfl).1; exact this) (.int .i64 (F1))
        have ht7 := ht6.setInt k (F1)
        have ho7 := ho6.storeOther (p := ⟨T, k, none⟩) (.int .i64 (F1)) (by have h1 := ho6.ne_type ht6 (by decide); rcases h1 with h1 | h1 <;> simp [h1]; simpa [Value.ownBlock] using h1)
        obtain ⟨u, -, dT, fT⟩ := ht6.int_atS (q := k) (by omega)
        have HE := hide e7
        have HO := hide ho7
        have HT := hide ht7
        clear e6 ht6 ho6 e7 ho7 ht7
        go_wp2_with fail
        exact ⟨⟨(by (repeat (first | exact trivial | refine ⟨rfl, ?_⟩))), HE.out, k + 1, by omega, by go_num, ⟨_, _, _, rfl, by rw [HH.out]; exact hL6, by rw [HH.out]; exact HO.out⟩, _, _, rfl, by rw [HH.out, ← fold_ts hBl (by omega)]; exact HT.out⟩, (by simp [intOf] <;> omega)⟩
      subst h4
      have ha := HF.out.2.1 q2 (by simp [insG])
      obtain ⟨j, rfl⟩ := int_nat ha.1
      obtain ⟨g, r1, r2, r3, rfl, hy, d0, d1, d2⟩ := HKG.at_ (i := j) (by have := hNl.out; omega)
      have hjN : j < N := by have := hNl.out; omega
      rw [foldAt_4 (c1 := r1) (c2 := r2) (c3 := r3) (by simpa using hy)] at HH
      have hy' := hy
      clear HF HKG ha hy hb5
      have O5b := hide (show (Value.slice (some ⟨g, 0, none⟩) N y).ownBlock ≠ some w4.heap.size from fun hh => by have := ONE.out _ hh; omega)
      have T5b := hide (show (Value.slice (some ⟨T, 0, none⟩) n yT).ownBlock ≠ some w4.heap.size from fun hh => by have := TNE.out _ hh; omega)
      clear ONE TNE
      by_cases p2 : r1 = 2
      · subst p2
        rw [if_pos rfl] at HH
        have E5 := hide e5
        have O5 := hide ox5
        have T5 := hide ht5
        clear e5 ox5 ht5
        go_wp2_with fail
        (with_reducible refine (l6Constant_c false _).mono ?_)
        rintro e w5 ⟨rfl, he5⟩
        have e5 := E5.out.trans he5
        have ox5 := O5.out.ext he5
        have ht5 := T5.out.ext he5
        have hz5 := he5.size
        simp at hz5
        have bc0 := he5.cell (p := ⟨w4.heap.size, 0, none⟩) (u := .int .i64 4) (by first | simp [go_sem] | simp [go_sem, *]); have bf0 := he5.frozen (p := ⟨w4.heap.size, 0, none⟩) (by first | omega | (simp <;> omega)) (by first | simp [go_sem] | simp [go_sem, *]); have bc1 := he5.cell (p := ⟨w4.heap.size, 1, none⟩) (u := .int .i64 (j : Int)) (by first | simp [go_sem] | simp [go_sem, *]); have bf1 := he5.frozen (p := ⟨w4.heap.size, 1, none⟩) (by first | omega | (simp <;> omega)) (by first | simp [go_sem] | simp [go_sem, *]); have bc2 := he5.cell (p := ⟨w4.heap.size, 2, none⟩) (u := .int .i64 q3) (by first | simp [go_sem] | simp [go_sem, *]); have bf2 := he5.frozen (p := ⟨w4.heap.size, 2, none⟩) (by first | omega | (simp <;> omega)) (by first | simp [go_sem] | simp [go_sem, *])
        have E5 := hide e5
        have O5 := hide ox5
        have T5 := hide ht5
        clear e5 ox5 ht5
        go_wp2_with fail
        have e5 := E5.out
        have ox5 := O5.out
        have ht5 := T5.out
        clear E5 O5 T5
        obtain ⟨Wz, hWz⟩ : ∃ Wz, Wz = ((w5.setCell ⟨w4.heap.size, 0, none⟩ (.int .i64 (3))).setCell ⟨w4.heap.size, 1, none⟩ (.int .i64 0)).setCell ⟨w4.heap.size, 2, none⟩ (.int .i64 0) := ⟨_, rfl⟩
        rw [← hWz]
        have ez : Ext w Wz := by rw [hWz]; exact ((e5.setCell (p := ⟨w4.heap.size, 0, none⟩) hs4 _).setCell (p := ⟨w4.heap.size, 1, none⟩) hs4 _).setCell (p := ⟨w4.heap.size, 2, none⟩) hs4 _
        have hne1 := O5b.out
        have hne2 := T5b.out
        have oz : Own Wz w.heap.size 86 3 (some ⟨g, 0, none⟩) N y ((fl K).map (Value.int .i64)) := by rw [hWz]; exact ((ox5.storeOther (p := ⟨w4.heap.size, 0, none⟩) _ hne1).storeOther (p := ⟨w4.heap.size, 1, none⟩) _ hne1).storeOther (p := ⟨w4.heap.size, 2, none⟩) _ hne1
        have tz : Own Wz w.heap.size 3 1 (some ⟨T, 0, none⟩) n yT ((B ++ List.replicate (n - k) (0 : Int)).map (Value.int .i64)) := by rw [hWz]; exact ((ht5.storeOther (p := ⟨w4.heap.size, 0, none⟩) _ hne2).storeOther (p := ⟨w4.heap.size, 1, none⟩) _ hne2).storeOther (p := ⟨w4.heap.size, 2, none⟩) _ hne2
        clear hWz e5 ox5 ht5 hne1 hne2 O5b T5b
        have e5 := ez
        have ox5 := oz
        have ht5 := tz
        clear ez oz tz
        have hs5 := e5.size
        (with_reducible refine (l6Keep_o w.heap.size _ N y (3) (0) (0) K _ (ox5.ext (by (repeat (first | with_reducible exact Ext.refl _ | with_reducible assumption | ((with_reducible refine Ext.setCell ?_ ?_ _); rotate_left; focus (first | omega | (simp <;> omega))) | with_reducible refine Ext.alloc ?_ _ | with_reducible refine Ext.drewN ?_ _ | with_reducible refine Ext.drew ?_ | with_reducible refine Ext.trans ?_ (by with_reducible assumption))))) (by omega) hNl (by first | omega | (simp <;> omega))).mono ?_)
        generalize keepG K (3, 0, 0) = KP at HH ⊢
        obtain ⟨F1, F2⟩ := KP
        dsimp only at HH ⊢
        rintro e w6 ⟨X6, N6, y6, rfl, hL6, ho6, hg6⟩
        have e5x := e5
        have ox5x := ox5
        have ht5x := ht5
        have e6 := hide (e5x.trans_own (Nat.le_refl _) ox5x hg6)
        have ht6 := hide (ht5x.kept hg6 (ht5x.ne_type ox5x (by decide)))
        have ho6 := hide ho6
        clear e5x ox5x ht5x hg6 e5 ox5 ht5
        have e6 := e6.out
        have ht6 := ht6.out
        have ho6 := ho6.out
        have e7 := e6.setCell (p := ⟨T, k, none⟩) (by have := (ht6.lt T rfl).1; exact this) (.int .i64 (F1))
        have ht7 := ht6.setInt k (F1)
        have ho7 := ho6.storeOther (p := ⟨T, k, none⟩) (.int .i64 (F1)) (by have h1 := ho6.ne_type ht6 (by decide); rcases h1 with h1 | h1 <;> simp [h1]; simpa [Value.ownBlock] using h1)
        obtain ⟨u, -, dT, fT⟩ := ht6.int_atS (q := k) (by omega)
        have HE := hide e7
        have HO := hide ho7
        have HT := hide ht7
        clear e6 ht6 ho6 e7 ho7 ht7
        go_wp2_with fail
        exact ⟨⟨(by (repeat (first | exact trivial | refine ⟨rfl, ?_⟩))), HE.out, k + 1, by omega, by go_num, ⟨_, _, _, rfl, by rw [HH.out]; exact hL6, by rw [HH.out]; exact HO.out⟩, _, _, rfl, by rw [HH.out, ← fold_ts hBl (by omega)]; exact HT.out⟩, (by simp [intOf] <;> omega)⟩
      have p2' : (r1 == 2) = false := by simpa using p2
      rw [if_neg p2] at HH
      by_cases p3 : r1 = 3
      · subst p3
        rw [if_pos rfl] at HH
        have E5 := hide e5
        have O5 := hide ox5
        have T5 := hide ht5
        clear e5 ox5 ht5
        go_wp2_with fail
        (with_reducible refine (l6Constant_c true _).mono ?_)
        rintro e w5 ⟨rfl, he5⟩
        have e5 := E5.out.trans he5
        have ox5 := O5.out.ext he5
        have ht5 := T5.out.ext he5
        have hz5 := he5.size
        simp at hz5
        have bc3 := he5.cell (p := ⟨w4.heap.size, 0, none⟩) (u := .int .i64 4) (by first | simp [go_sem] | simp [go_sem, *]); have bf3 := he5.frozen (p := ⟨w4.heap.size, 0, none⟩) (by first | omega | (simp <;> omega)) (by first | simp [go_sem] | simp [go_sem, *]); have bc4 := he5.cell (p := ⟨w4.heap.size, 1, none⟩) (u := .int .i64 (j : Int)) (by first | simp [go_sem] | simp [go_sem, *]); have bf4 := he5.frozen (p := ⟨w4.heap.size, 1, none⟩) (by first | omega | (simp <;> omega)) (by first | simp [go_sem] | simp [go_sem, *]); have bc5 := he5.cell (p := ⟨w4.heap.size, 2, none⟩) (u := .int .i64 q3) (by first | simp [go_sem] | simp [go_sem, *]); have bf5 := he5.frozen (p := ⟨w4.heap.size, 2, none⟩) (by first | omega | (simp <;> omega)) (by first | simp [go_sem] | simp [go_sem, *])
        have E5 := hide e5
        have O5 := hide ox5
        have T5 := hide ht5
        clear e5 ox5 ht5
        go_wp2_with fail
        have e5 := E5.out
        have ox5 := O5.out
        have ht5 := T5.out
        clear E5 O5 T5
        obtain ⟨Wz, hWz⟩ : ∃ Wz, Wz = ((w5.setCell ⟨w4.heap.size, 0, none⟩ (.int .i64 (2))).setCell ⟨w4.heap.size, 1, none⟩ (.int .i64 0)).setCell ⟨w4.heap.size, 2, none⟩ (.int .i64 0) := ⟨_, rfl⟩
        rw [← hWz]
        have ez : Ext w Wz := by rw [hWz]; exact ((e5.setCell (p := ⟨w4.heap.size, 0, none⟩) hs4 _).setCell (p := ⟨w4.heap.size, 1, none⟩) hs4 _).setCell (p := ⟨w4.heap.size, 2, none⟩) hs4 _
        have hne1 := O5b.out
        have hne2 := T5b.out
        have oz : Own Wz w.heap.size 86 3 (some ⟨g, 0, none⟩) N y ((fl K).map (Value.int .i64)) := by rw [hWz]; exact ((ox5.storeOther (p := ⟨w4.heap.size, 0, none⟩) _ hne1).storeOther (p := ⟨w4.heap.size, 1, none⟩) _ hne1).storeOther (p := ⟨w4.heap.size, 2, none⟩) _ hne1
        have tz : Own Wz w.heap.size 3 1 (some ⟨T, 0, none⟩) n yT ((B ++ List.replicate (n - k) (0 : Int)).map (Value.int .i64)) := by rw [hWz]; exact ((ht5.storeOther (p := ⟨w4.heap.size, 0, none⟩) _ hne2).storeOther (p := ⟨w4.heap.size, 1, none⟩) _ hne2).storeOther (p := ⟨w4.heap.size, 2, none⟩) _ hne2
        clear hWz e5 ox5 ht5 hne1 hne2 O5b T5b
        have e5 := ez
        have ox5 := oz
        have ht5 := tz
        clear ez oz tz
        have hs5 := e5.size
        (with_reducible refine (l6Keep_o w.heap.size _ N y (2) (0) (0) K _ (ox5.ext (by (repeat (first | with_reducible exact Ext.refl _ | with_reducible assumption | ((with_reducible refine Ext.setCell ?_ ?_ _); rotate_left; focus (first | omega | (simp <;> omega))) | with_reducible refine Ext.alloc ?_ _ | with_reducible refine Ext.drewN ?_ _ | with_reducible refine Ext.drew ?_ | with_reducible refine Ext.trans ?_ (by with_reducible assumption))))) (by omega) hNl (by first | omega | (simp <;> omega))).mono ?_)
        generalize keepG K (2, 0, 0) = KP at HH ⊢
        obtain ⟨F1, F2⟩ := KP
        dsimp only at HH ⊢
        rintro e w6 ⟨X6, N6, y6, rfl, hL6, ho6, hg6⟩
        have e5x := e5
        have ox5x := ox5
        have ht5x := ht5
        have e6 := hide (e5x.trans_own (Nat.le_refl _) ox5x hg6)
        have ht6 := hide (ht5x.kept hg6 (ht5x.ne_type ox5x (by decide)))
        have ho6 := hide ho6
        clear e5x ox5x ht5x hg6 e5 ox5 ht5
        have e6 := e6.out
        have ht6 := ht6.out
        have ho6 := ho6.out
        have e7 := e6.setCell (p := ⟨T, k, none⟩) (by have := (ht6.lt T rfl).1; exact this) (.int .i64 (F1))
        have ht7 := ht6.setInt k (F1)
        have ho7 := ho6.storeOther (p := ⟨T, k, none⟩) (.int .i64 (F1)) (by have h1 := ho6.ne_type ht6 (by decide); rcases h1 with h1 | h1 <;> simp [h1]; simpa [Value.ownBlock] using h1)
        obtain ⟨u, -, dT, fT⟩ := ht6.int_atS (q := k) (by omega)
        have HE := hide e7
        have HO := hide ho7
        have HT := hide ht7
        clear e6 ht6 ho6 e7 ho7 ht7
        go_wp2_with fail
        exact ⟨⟨(by (repeat (first | exact trivial | refine ⟨rfl, ?_⟩))), HE.out, k + 1, by omega, by go_num, ⟨_, _, _, rfl, by rw [HH.out]; exact hL6, by rw [HH.out]; exact HO.out⟩, _, _, rfl, by rw [HH.out, ← fold_ts hBl (by omega)]; exact HT.out⟩, (by simp [intOf] <;> omega)⟩
      have p3' : (r1 == 3) = false := by simpa using p3
      rw [if_neg p3] at HH
      by_cases p4 : r1 = 4
      · subst p4
        rw [if_pos rfl] at HH
        dsimp only at HH
        have hr2 : 0 ≤ r2 := by have := (hrg j _ (by simpa using hy'.out)).2.1 r2 (by simp [insG]); omega
        have hr2' : ¬ (r2 < 0) := by omega
        clear hr2
        have e7 := e5.setCell (p := ⟨T, k, none⟩) (by have := (ht5.lt T rfl).1; exact this) (.int .i64 (r2))
        have ht7 := ht5.setInt k (r2)
        have ho7 := ox5.storeOther (p := ⟨T, k, none⟩) (.int .i64 (r2)) (by have h1 := ox5.ne_type ht5 (by decide); rcases h1 with h1 | h1 <;> simp [h1]; simpa [Value.ownBlock] using h1)
        obtain ⟨u, -, dT, fT⟩ := ht5.int_atS (q := k) (by omega)
        have HE := hide e7
        have HO := hide ho7
        have HT := hide ht7
        clear e5 ht5 ox5 e7 ho7 ht7
        go_wp2_with fail
        exact ⟨⟨(by (repeat (first | exact trivial | refine ⟨rfl, ?_⟩))), HE.out, k + 1, by omega, by go_num, ⟨_, _, _, rfl, by rw [HH.out]; exact hNl, by rw [HH.out]; exact HO.out⟩, _, _, rfl, by rw [HH.out, ← fold_ts hBl (by omega)]; exact HT.out⟩, (by simp [intOf] <;> omega)⟩
      · have p4' : (r1 == 4) = false := by simpa using p4
        rw [if_neg p4] at HH
        have E5 := hide e5
        have O5 := hide ox5
        have T5 := hide ht5
        clear e5 ox5 ht5
        go_wp2_with fail
        have e5 := E5.out
        have ox5 := O5.out
        have ht5 := T5.out
        clear E5 O5 T5
        have hs5 := e5.size
        (with_reducible refine (l6Keep_o w.heap.size _ N y (4) (j) (q3) K _ (ox5.ext (by (repeat (first | with_reducible exact Ext.refl _ | with_reducible assumption | ((with_reducible refine Ext.setCell ?_ ?_ _); rotate_left; focus (first | omega | (simp <;> omega))) | with_reducible refine Ext.alloc ?_ _ | with_reducible refine Ext.drewN ?_ _ | with_reducible refine Ext.drew ?_ | with_reducible refine Ext.trans ?_ (by with_reducible assumption))))) (by omega) hNl (by first | omega | (simp <;> omega))).mono ?_)
        generalize keepG K (4, j, q3) = KP at HH ⊢
        obtain ⟨F1, F2⟩ := KP
        dsimp only at HH ⊢
        rintro e w6 ⟨X6, N6, y6, rfl, hL6, ho6, hg6⟩
        have e5x := e5
        have ox5x := ox5
        have ht5x := ht5
        have e6 := hide (e5x.trans_own (Nat.le_refl _) ox5x hg6)
        have ht6 := hide (ht5x.kept hg6 (ht5x.ne_type ox5x (by decide)))
        have ho6 := hide ho6
        clear e5x ox5x ht5x hg6 e5 ox5 ht5
        have e6 := e6.out
        have ht6 := ht6.out
        have ho6 := ho6.out
        have e7 := e6.setCell (p := ⟨T, k, none⟩) (by have := (ht6.lt T rfl).1; exact this) (.int .i64 (F1))
        have ht7 := ht6.setInt k (F1)
        have ho7 := ho6.storeOther (p := ⟨T, k, none⟩) (.int .i64 (F1)) (by have h1 := ho6.ne_type ht6 (by decide); rcases h1 with h1 | h1 <;> simp [h1]; simpa [Value.ownBlock] using h1)
        obtain ⟨u, -, dT, fT⟩ := ht6.int_atS (q := k) (by omega)
        have HE := hide e7
        have HO := hide ho7
        have HT := hide ht7
        clear e6 ht6 ho6 e7 ho7 ht7
        go_wp2_with fail
        exact ⟨⟨(by (repeat (first | exact trivial | refine ⟨rfl, ?_⟩))), HE.out, k + 1, by omega, by go_num, ⟨_, _, _, rfl, by rw [HH.out]; exact hL6, by rw [HH.out]; exact HO.out⟩, _, _, rfl, by rw [HH.out, ← fold_ts hBl (by omega)]; exact HT.out⟩, (by simp [intOf] <;> omega)⟩
    · obtain rfl : k = n := by omega
      obtain ⟨v, hv⟩ : ∃ v, B[k - 1]? = some v := ⟨_, List.getElem?_eq_getElem (by omega)⟩
      have hvr := hok.rng v (List.mem_of_getElem? hv)
      obtain ⟨m, rfl⟩ := int_nat hvr.1
      have hmN : m < N := by have := hNl.out; omega
      have hFo : Hid (foldG gs = trimG (K.take (m + 1))) := hide (by
        unfold foldG
        rw [← hl.out, hP]
        dsimp only
        rw [List.getD_eq_getElem?_getD, hv]; rfl)
      have hcap := ho.capK
      obtain ⟨gT, eT, hcT⟩ := (show Reads wr (some ⟨T, 0, none⟩) _ from ht.reads) (by intro hh; have := congrArg List.length hh; simp [hBl] at this; omega)
      have hdT : wr.cell? ⟨T, k - 1, none⟩ = some (.int .i64 (m : Int)) := ht.cell (by
        rw [List.getElem?_map, List.getElem?_append_left (by omega), hv]; rfl)
      have hGt := hide ((ObF.of (e := 86) (sz := 3) ho (by omega)).gates.take (m + 1) (by omega))
      have hGG := hide (hok.good.take (m + 1))
      have HE := hide he
      clear ho ht hcT eT hP hok hv hvr he
      go_wp2_with fail
      (with_reducible refine (l6Trim_c _ _ _ (K.take (m + 1)) _ hGt.out hGG.out (by omega) (by omega)).mono ?_)
      rintro e w5 ⟨A5, n5, c5, rfl, hl5, ho5, he5⟩
      go_wp2_with fail
      go_ret
      exact ⟨_, _, _, rfl, by rw [hFo.out]; exact hl5, by rw [hFo.out]; exact ho5.lower hsz, HE.out.trans he5⟩
end Go.Proofs.Ytcbjaomjamfjcaa
