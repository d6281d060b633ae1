/-
  TrimCircuit: both texts return the same.
-/
import Derived.Test.YtcbjaomjamfjcaaK14
import Derived.Test.YtcbjaomjamfjcaaC15
import Derived.Test.YtcbjaomjamfjcaaK9
namespace Go.Proofs.Ytcbjaomjamfjcaa
set_option linter.unusedSimpArgs false
set_option linter.unusedVariables false
open Go.RowKit

theorem idxOf_append {α : Type} {p : α → Bool} {xs ys : List α} (h : ∀ x ∈ xs, p x = false) : ∀ m, idxOf p (xs ++ ys) m = idxOf p ys (m + xs.length) := by
  induction xs with
  | nil => intro m; rfl
  | cons x xs ih =>
    intro m
    simp only [List.cons_append, idxOf, h x (by simp), Bool.false_eq_true, if_false, List.length_cons]
    rw [ih (fun y hy => h y (by simp [hy]))]
    congr 1; omega
theorem needTo_split (gs : List Gt) {k : Nat} (hk : mark gs k = true) : ∀ n, k < n → ∃ rest, needTo gs n = needTo gs k ++ (k : Int) :: rest := by
  intro n
  induction n with
  | zero => intro h; omega
  | succ n ih =>
    intro h
    by_cases hkn : k = n
    · subst hkn; exact ⟨[], by rw [needTo_hit hk]⟩
    · obtain ⟨rest, hr⟩ := ih (by omega)
      simp only [needTo, hr]
      exact ⟨_, by rw [List.append_assoc, List.cons_append]⟩
theorem needTo_idx {gs : List Gt} {k n : Nat} (hk : mark gs k = true) (hn : k < n) : idxOf (· == (k : Int)) (needTo gs n) 0 = posG gs k := by
  obtain ⟨rest, hr⟩ := needTo_split gs hk n hn
  rw [hr, idxOf_append (fun x hx => by have := (needTo_mem.1 hx).2.1; simp; omega)]
  simp [idxOf, posG, needTo_length]
theorem trimTo_hit {gs : List Gt} {k : Nat} {g : Gt} (h : mark gs k = true) (hg : Hid (gs[k]? = some g)) : trimTo gs (k + 1) = trimTo gs k ++ [moveG (posG gs) g] := by simp only [trimTo, h, if_true, getD_of hg]
theorem trimTo_miss {gs : List Gt} {k : Nat} (h : mark gs k = false) : trimTo gs (k + 1) = trimTo gs k := by simp [trimTo, h]
/-- The list of new indices, when k gates are done. -/
def ToAt (gs : List Gt) (k : Nat) (ts : List Int) : Prop := ts.length = gs.length ∧ ∀ j, j < k → mark gs j = true → ts[j]? = some (posG gs j)
theorem ToAt.miss {gs : List Gt} {k : Nat} {ts : List Int} (h : ToAt gs k ts) (hm : mark gs k = false) : ToAt gs (k + 1) ts := ⟨h.1, fun j hj hmj => by
  by_cases hjk : j = k
  · subst hjk; rw [hm] at hmj; cases hmj
  · exact h.2 j (by omega) hmj⟩
theorem ToAt.hit {gs : List Gt} {k : Nat} {ts : List Int} (h : ToAt gs k ts) (hk : k < gs.length) : ToAt gs (k + 1) (ts.set k (countB (mark gs) k : Int)) := ⟨by simpa using h.1, fun j hj hmj => by
  rw [List.getElem?_set]
  by_cases hjk : k = j
  · subst hjk; rw [if_pos rfl, if_pos (by rw [h.1]; exact hk)]; rfl
  · rw [if_neg hjk]; exact h.2 j (by omega) hmj⟩
theorem ToAt.ins {gs : List Gt} {k : Nat} {ts : List Int} (h : ToAt gs k ts) (hg : GoodG gs) {g : Gt} (hx : Hid (gs[k]? = some g)) (hm : mark gs k = true) : ∀ x ∈ insG g, ∃ j : Nat, x = j ∧ ts[j]? = some (posG gs x) := by
  intro x hxi
  have hk := (List.getElem?_eq_some_iff.1 hx.out).1
  obtain ⟨h0, h1⟩ := (hg k g hx.out).2.1 x hxi
  have hc := mark_closed hg hk hm x (by rw [getD_of hx]; exact hxi)
  refine ⟨x.toNat, by omega, ?_⟩
  rw [h.2 x.toNat (by omega) hc]
  congr 2; omega
set_option maxRecDepth 100000 in
set_option maxHeartbeats 3200000 in
theorem l6Trim_c (A : Option Addr) (n c : Nat) (gs : List Gt) (w : World) (h : Gates w A n gs) (hg : GoodG gs) (hn : n ≤ 200) (hn1 : 1 ≤ n) :
    Calls Try.prog 80 #[.slice A n c] w fun e w' => ∃ A' n' c', e = .returned (.slice A' n' c') ∧ Hid ((trimG gs).length = n') ∧ Own w' w.heap.size 86 3 A' n' c' ((fl (trimG gs)).map (Value.int .i64)) ∧ Ext w w' := by
  have hmk := fun W => make_eq (P := Try.prog) 37 3 Try.underlying37 _ 8 info_int rfl n (by omega) (by omega) W
  have HG := hide hg
  have hl := hide h.len
  go_enter Try.func80, Try.ntmps80
  go_wp2_with fail
  refine (l6Needed_c _ _ _ gs _ h hg hn hn1).mono ?_
  rintro e w1 ⟨g, cM, rfl, hm, e1⟩
  clear hg
  have hs1 := e1.size
  have hoa : Own (((w1.alloc (.cells #[] 86)).alloc (.cells (madeCells #[.int .i64 0] n) 3)).drew) w.heap.size 86 3 (some ⟨w1.heap.size, 0, none⟩) 0 0 ((fl (trimTo gs 0)).map (Value.int .i64)) :=
    ((Own.arr #[] 0 [] hs1 (by decide) rfl rfl).alloc _).ext ((Ext.refl _).drew)
  have hob : Own (((w1.alloc (.cells (madeCells #[.int .i64 0] n) 3)).alloc (.cells #[] 86)).drew) w.heap.size 86 3 (some ⟨w1.heap.size + 1, 0, none⟩) 0 0 ((fl (trimTo gs 0)).map (Value.int .i64)) :=
    (Own.arr_at #[] 0 [] (by simp) (by simp; omega) (by decide) rfl rfl).ext ((Ext.refl _).drew)
  have hta : Own (((w1.alloc (.cells #[] 86)).alloc (.cells (madeCells #[.int .i64 0] n) 3)).drew) w.heap.size 3 1 (some ⟨w1.heap.size + 1, 0, none⟩) n n ((List.replicate n (0 : Int)).map (Value.int .i64)) :=
    (Own.arr_at (madeCells #[.int .i64 0] n) n _ (by simp) (by simp; omega) (by omega) (by simp) (by rw [toList_madeCells_one]; simp)).ext ((Ext.refl _).drew)
  have htb : Own (((w1.alloc (.cells (madeCells #[.int .i64 0] n) 3)).alloc (.cells #[] 86)).drew) w.heap.size 3 1 (some ⟨w1.heap.size, 0, none⟩) n n ((List.replicate n (0 : Int)).map (Value.int .i64)) :=
    ((Own.arr_at (madeCells #[.int .i64 0] n) n _ rfl hs1 (by omega) (by simp) (by rw [toList_madeCells_one]; simp)).alloc _).ext ((Ext.refl _).drew)
  have hT0 : Hid (ToAt gs 0 (List.replicate n (0 : Int))) := hide ⟨by rw [← hl.out]; simp, fun j hj => by omega⟩
  have ea : Ext w (((w1.alloc (.cells #[] 86)).alloc (.cells (madeCells #[.int .i64 0] n) 3)).drew) := ((e1.alloc _).alloc _).drew
  have eb : Ext w (((w1.alloc (.cells (madeCells #[.int .i64 0] n) 3)).alloc (.cells #[] 86)).drew) := ((e1.alloc _).alloc _).drew
  have hma := Own.ext hm (((Ext.refl w1).alloc (.cells #[] 86)).alloc (.cells (madeCells #[.int .i64 0] n) 3)).drew
  have hmb := Own.ext hm (((Ext.refl w1).alloc (.cells (madeCells #[.int .i64 0] n) 3)).alloc (.cells #[] 86)).drew
  have HOA := hide hoa
  have HOB := hide hob
  have HTA := hide hta
  have HTB := hide htb
  have HMA := hide hma
  have HMB := hide hmb
  have HEA := hide ea
  have HEB := hide eb
  clear hoa hob hta htb hma hmb ea eb hm e1
  go_wp2_with fail
  go_region
  all_goals
    clear hmk
    go_wp2_with fail
    refine wp_loopF 38 _ rfl rfl [0, 3, 37] rfl (fun fr wr => Ext w wr ∧ Own wr w.heap.size 4 1 (some ⟨g, 0, none⟩) n cM ((marks gs).map Value.bool) ∧ ∃ k : Nat, k ≤ n ∧ (fr 6) = .int .i64 k ∧ (∃ X N y, (fr 4) = .slice X N y ∧ N ≤ k ∧ Hid ((trimTo gs k).length = N) ∧ Own wr w.heap.size 86 3 X N y ((fl (trimTo gs k)).map (Value.int .i64))) ∧ ∃ ts T yT, (fr 5) = .slice (some ⟨T, 0, none⟩) n yT ∧ Hid (ToAt gs k ts) ∧ Own wr w.heap.size 3 1 (some ⟨T, 0, none⟩) n yT (ts.map (Value.int .i64))) (fun fr wr => n - (intOf (fr 6)).toNat) ?_ ?_
    · (exact ⟨by first | exact HEA.out | exact HEB.out, by first | exact HMA.out | exact HMB.out, 0, by omega, rfl, ⟨_, _, _, rfl, by omega, rfl, by first | exact HOA.out | exact HOB.out⟩, _, _, _, rfl, hT0, by first | exact HTA.out | exact HTB.out⟩)
    intro ks fr wr hkept hrel; (try dsimp only at hrel)
    change Code.wp _ _ _ ⟨#[ks 0, fr 1, fr 2, ks 3, fr 4, fr 5, fr 6, fr 7, fr 8, fr 9, fr 10, fr 11, fr 12, fr 13, fr 14, fr 15, fr 16, fr 17, fr 18, fr 19, fr 20, fr 21, fr 22, fr 23, fr 24, fr 25, fr 26, fr 27, fr 28, fr 29, fr 30, fr 31, fr 32, fr 33, fr 34, fr 35, fr 36, ks 37], []⟩ wr
    simp only [KeptV, List.getD_cons_zero, List.getD_cons_succ] at hkept; obtain ⟨hk0, hk3, hk37, -⟩ := hkept
    generalize ks 0 = k0 at hk0 ⊢; subst hk0
    generalize ks 3 = k3 at hk3 ⊢; subst hk3
    generalize ks 37 = k37 at hk37 ⊢; subst hk37
    generalize fr 4 = s4 at hrel ⊢
    generalize fr 5 = s5 at hrel ⊢
    generalize fr 6 = s6 at hrel ⊢
    clear HOA HOB HTA HTB HMA HMB HEA HEB hT0
    obtain ⟨he, hm, k, hk, hs1', ⟨X, N, y, hs2', hN, hNl, ho⟩, ts, T, yT, hs3', hT, ht⟩ := hrel
    subst hs1'; subst hs2'; subst hs3'
    have hsz := he.size
    by_cases hlt : k < n
    · have d := OwnM.at_ hm (k := k) (by rw [← hl.out]; exact hlt)
      cases hc : mark gs k
      · have HH := hide (trimTo_miss hc)
        have HT2 := hide (hT.out.miss hc)
        rw [hc] at d
        clear hc
        have HO := hide ho
        have HM := hide hm
        have HE := hide he
        have HT := hide ht
        clear ho hm he ht
        go_wp2_with fail
        exact ⟨⟨(by (repeat (first | exact trivial | refine ⟨rfl, ?_⟩))), HE.out, HM.out, k + 1, by omega, by go_num, ⟨_, _, _, rfl, by omega, by rw [HH.out]; exact hNl, by rw [HH.out]; exact HO.out⟩, _, _, _, rfl, HT2, HT.out⟩, (by simp [intOf] <;> omega)⟩
      · obtain ⟨gb, kk, a, b, rfl, hx, -, -, -⟩ := (h.ext he).at_ hlt
        have hNc : Hid (countB (mark gs) k = N) := hide (by rw [← trimTo_length]; exact hNl.out)
        have HH := hide (trimTo_hit hc hx)
        have HT2 := hide (hT.out.hit (by rw [← hl.out]; exact hlt))
        have HI := hide (fun x hxi => by
          have hxk := ((HG.out k _ hx.out).2.1 x hxi).2
          obtain ⟨j, hj, hts⟩ := hT.out.ins HG.out hx hc x hxi
          exact (⟨j, hj, by rw [List.getElem?_set_ne (by omega)]; exact hts⟩ : ∃ j : Nat, x = j ∧ (ts.set k (countB (mark gs) k : Int))[j]? = some (posG gs x)))
        rw [hNc.out] at HT2 HI
        rw [hc] at d
        clear hc
        obtain ⟨u, -, dT, fT⟩ := ht.int_atS (q := k) (by omega)
        have ht2 := ht.setInt k (N : Int)
        have e2 := he.setCell (p := ⟨T, k, none⟩) (by have := (ht.lt T rfl).1; exact this) (.int .i64 (N : Int))
        have hm2 := Own.storeOther hm (p := ⟨T, k, none⟩) (.int .i64 (N : Int)) (by have h1 := hm.ne_type ht (by decide); simp [Value.ownBlock] at h1 ⊢; exact h1)
        have ho2 := ho.storeOther (p := ⟨T, k, none⟩) (.int .i64 (N : Int)) (by have h1 := ho.ne_type ht (by decide); rcases h1 with h1 | h1 <;> simp [h1]; simpa [Value.ownBlock] using h1)
        obtain ⟨c0, c1, c2⟩ := (h.ext e2).get hx
        have HE := hide e2
        have HM := hide hm2
        have HO := hide ho2
        have HT := hide ht2
        clear he hm ho ht ht2 hm2 ho2 e2
        go_wp2_with fail
        refine (l6Moved_c kk a b _ n yT _ (posG gs) _ (HT.out.ints (by omega)) HI.out).mono ?_
        obtain ⟨⟨q1, q2, q3⟩, hG⟩ : ∃ G, moveG (posG gs) (kk, a, b) = G := ⟨_, rfl⟩
        rw [hG] at HH ⊢
        clear hG hx HI
        (try dsimp only at HH ⊢)
        rintro e w4 ⟨rfl, he4⟩
        have e4 := HE.out.trans he4
        have ox4 := HO.out.ext he4
        have HT4 := hide (HT.out.ext he4)
        have HM4 := hide (HM.out.ext he4)
        have hz4 := e4.size
        clear he4 HE HO HT HM
        go_wp2_with (at_builtin; refine wpList_app rfl _ _ _ _ rfl Try.underlying24 _ 3 24 info_gate rfl (by decide) rfl ox4 1 [.int .i64 q1, .int .i64 q2, .int .i64 q3] (by first | rfl | simp [go_sem]) rfl ?_ ?_ ?_ ?_ ?_; (intro u hu; simp at hu; first | (subst hu; rfl) | (rcases hu with rfl | rfl <;> rfl) | (rcases hu with rfl | rfl | rfl <;> rfl) | (rcases hu with rfl | rfl | rfl | rfl <;> rfl) | (rcases hu with rfl | rfl | rfl | rfl | rfl <;> rfl) | (rcases hu with rfl | rfl | rfl | rfl | rfl | rfl <;> rfl)); omega; omega; (first | omega | (simp; omega)); intro A' c' w' ho' hg' hb')
        have HO := hide (gate_snoc ho')
        have HE := hide (e4.trans_own (Nat.le_refl _) ox4 hg')
        have HT := hide (HT4.out.kept hg' (HT4.out.ne_type ox4 (by decide)))
        have HM := hide (HM4.out.kept hg' (HM4.out.ne_type ox4 (by decide)))
        clear ho' e4 ox4 HT4 HM4 hg' hb'
        exact ⟨⟨(by (repeat (first | exact trivial | refine ⟨rfl, ?_⟩))), HE.out, HM.out, k + 1, by omega, by go_num, ⟨_, _, _, rfl, by omega, by rw [HH.out]; simp [Hid, hNl.out], by rw [HH.out]; exact HO.out⟩, _, _, _, rfl, HT2, HT.out⟩, (by simp [intOf] <;> omega)⟩
    · obtain rfl : k = n := by omega
      have hF : Hid (trimG gs = trimTo gs k) := hide (by unfold trimG; rw [← hl.out])
      go_wp2_with fail
      go_ret
      exact ⟨_, _, _, rfl, by rw [hF.out]; exact hNl, by rw [hF.out]; exact ho, he⟩
end Go.Proofs.Ytcbjaomjamfjcaa
