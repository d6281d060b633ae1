/-
  CircuitVars: both texts' answers; no condition.
-/
import Derived.Test.YtcbjaomjamfjcaaK31
import Derived.Test.YtcbjaomjamfjcaaSh
namespace Go.Proofs.Ytcbjaomjamfjcaa
set_option linter.unusedSimpArgs false
set_option linter.unusedVariables false
open Go.RowKit

theorem varTo_hit {gs : List Gt} {k : Nat} {a b : Int} (h : mark gs k = true) (hx : Hid (gs[k]? = some (1, a, b))) : varTo gs (k + 1) = varTo gs k ++ [a] := by simp only [varTo, h, getD_of hx]; simp
theorem varTo_miss {gs : List Gt} {k : Nat} (h : mark gs k = false) : varTo gs (k + 1) = varTo gs k := by simp [varTo, h]
theorem varTo_no {gs : List Gt} {k : Nat} {kd a b : Int} (hx : Hid (gs[k]? = some (kd, a, b))) (hk : kd ≠ 1) : varTo gs (k + 1) = varTo gs k := by simp only [varTo, getD_of hx]; simp [hk]
set_option maxRecDepth 100000 in
set_option maxHeartbeats 1600000 in
theorem spec_CircuitVars_o (v : Int) (A : Option Addr) (n d : Nat) (gs : List Gt) (w : World) (h : Gates w A n gs) :
    Calls Try.prog 44 #[.int .i64 v, .slice A n d] w fun e w' =>
      ∃ A' n' c', e = .returned (.tuple #[.slice A' n' c', .bool (circB v gs)]) ∧ ObI 3 w' w.heap.size w'.heap.size A' n' c' (if circB v gs then cvarsG gs else []) ∧ Ext w w' := by
  have hl := hide h.len
  have hbd := h.bound
  cases h1 : circB v gs
  · simp only [Bool.false_eq_true, if_false]
    have H1 := hide h1
    clear h1
    go_enter Try.func44, Try.ntmps44
    go_wp2_with (go_at_call 66; refine (l6Good_c _ _ _ _ gs _ (h.ext (by (repeat (first | with_reducible exact Ext.refl _ | with_reducible assumption | ((with_reducible refine Ext.setCell ?_ ?_ _); rotate_left; focus (first | omega | (simp <;> omega))) | with_reducible refine Ext.alloc ?_ _ | with_reducible refine Ext.drewN ?_ _ | with_reducible refine Ext.drew ?_ | with_reducible refine Ext.trans ?_ (by with_reducible assumption)))))).mono ?_; rw [H1.out]; rintro e w1 ⟨rfl, he1⟩)
    go_ret2
    have hs := he1.size
    exact ⟨_, _, _, rfl, by simpa using ((ObI.empty (e := 3) (W := w) (lo := w.heap.size) (Nat.le_refl _)).ext he1).wider (hi' := w1.heap.size) (by simp at hs; omega), by (repeat (first | with_reducible exact Ext.refl _ | with_reducible assumption | ((with_reducible refine Ext.setCell ?_ ?_ _); rotate_left; focus (first | omega | (simp <;> omega))) | with_reducible refine Ext.alloc ?_ _ | with_reducible refine Ext.drewN ?_ _ | with_reducible refine Ext.drew ?_ | with_reducible refine Ext.trans ?_ (by with_reducible assumption)))⟩
  · simp only [if_true]
    obtain ⟨-, hc2, hc3⟩ := circ_facts h1
    have hn : n ≤ 200 := by rw [hl.out]; exact hc2.2
    have hn1 : 1 ≤ n := by rw [hl.out]; exact hc2.1
    have HC := hide hc3
    have H1 := hide h1
    have hcv : cvarsG gs = (varTo gs n).foldl putS [] := by unfold cvarsG; rw [← hl.out]
    rw [hcv]
    clear h1 hc2 hc3 hcv
    go_enter Try.func44, Try.ntmps44
    go_wp2_with fail
    refine (l6Good_c _ _ _ _ gs _ (h.ext (by (repeat (first | with_reducible exact Ext.refl _ | with_reducible assumption | ((with_reducible refine Ext.setCell ?_ ?_ _); rotate_left; focus (first | omega | (simp <;> omega))) | with_reducible refine Ext.alloc ?_ _ | with_reducible refine Ext.drewN ?_ _ | with_reducible refine Ext.drew ?_ | with_reducible refine Ext.trans ?_ (by with_reducible assumption)))))).mono ?_; rw [H1.out]; rintro e w1 ⟨rfl, he1⟩
    have hs1 := he1.size
    have h0 : Own w1 w.heap.size 3 1 (some ⟨w.heap.size, 0, none⟩) 0 0 (((varTo gs 0).foldl putS []).map (Value.int .i64)) := ((ObI.empty (e := 3) (W := w) (lo := w.heap.size) (Nat.le_refl _)).ext he1).own
    have e1 : Ext w w1 := by (repeat (first | with_reducible exact Ext.refl _ | with_reducible assumption | ((with_reducible refine Ext.setCell ?_ ?_ _); rotate_left; focus (first | omega | (simp <;> omega))) | with_reducible refine Ext.alloc ?_ _ | with_reducible refine Ext.drewN ?_ _ | with_reducible refine Ext.drew ?_ | with_reducible refine Ext.trans ?_ (by with_reducible assumption)))
    clear he1
    go_wp2_with fail
    refine (l6Needed_c _ _ _ gs _ (h.ext e1) HC.out hn hn1).mono ?_
    rintro e w2 ⟨g, cM, rfl, hm, he2⟩
    have h02 := h0.ext he2
    have e2 := e1.trans he2
    clear he2 h0 e1
    go_wp2_with fail
    refine wp_loopF 43 _ rfl rfl [1, 4, 7, 42] rfl (fun fr wr => Ext w wr ∧ OwnM wr w1.heap.size g n cM (marks gs) ∧ ∃ k : Nat, k ≤ n ∧ (fr 8) = .int .i64 k ∧ ∃ X N y, (fr 6) = .slice (some ⟨X, 0, none⟩) N y ∧ Own wr w.heap.size 3 1 (some ⟨X, 0, none⟩) N y (((varTo gs k).foldl putS []).map (Value.int .i64))) (fun fr wr => n - (intOf (fr 8)).toNat) ?_ ?_
    · (exact ⟨e2, hm, 0, by omega, rfl, _, _, _, rfl, h02⟩)
    intro ks fr wr hkept hrel; (try dsimp only at hrel)
    change Code.wp _ _ _ ⟨#[fr 0, ks 1, fr 2, fr 3, ks 4, fr 5, fr 6, ks 7, fr 8, fr 9, fr 10, fr 11, fr 12, fr 13, fr 14, fr 15, fr 16, fr 17, fr 18, fr 19, fr 20, fr 21, fr 22, fr 23, fr 24, fr 25, fr 26, fr 27, fr 28, fr 29, fr 30, fr 31, fr 32, fr 33, fr 34, fr 35, fr 36, fr 37, fr 38, fr 39, fr 40, fr 41, ks 42], []⟩ wr
    simp only [KeptV, List.getD_cons_zero, List.getD_cons_succ] at hkept; obtain ⟨hk1, hk4, hk7, hk42, -⟩ := hkept
    generalize ks 1 = k1 at hk1 ⊢; subst hk1
    generalize ks 4 = k4 at hk4 ⊢; subst hk4
    generalize ks 7 = k7 at hk7 ⊢; subst hk7
    generalize ks 42 = k42 at hk42 ⊢; subst hk42
    generalize fr 6 = s6 at hrel ⊢
    generalize fr 8 = s8 at hrel ⊢
    clear e2 hm h02
    obtain ⟨he, hm, k, hk, hs1', X, N, y, hs2', ho⟩ := hrel
    subst hs1'; subst hs2'
    have hsz := he.size
    have hNl : N ≤ k := by
      have h1 := ho.len
      have h2 := foldl_putS_len (varTo gs k) []
      have h3 := varTo_len gs k
      simp at h1 h2; omega
    by_cases hlt : k < n
    · have d := hm.at_ (k := k) (by rw [← hl.out]; exact hlt)
      obtain ⟨gb, kk, a, b, rfl, hx, c0, c1, c2⟩ := (h.ext he).at_ hlt
      cases hc : mark gs k
      · have HH := hide (varTo_miss hc)
        rw [hc] at d
        clear hc hx
        have HO := hide ho
        have HM := hide hm
        have HE := hide he
        clear ho hm he
        go_wp2_with fail
        exact ⟨⟨(by (repeat (first | exact trivial | refine ⟨rfl, ?_⟩))), HE.out, HM.out, k + 1, by omega, by go_num, _, _, _, rfl, by rw [HH.out]; exact HO.out⟩, (by simp [intOf] <;> omega)⟩
      · rw [hc] at d
        by_cases hk1 : kk = 1
        · subst hk1
          have HH := hide (show (varTo gs (k + 1)).foldl putS [] = putS ((varTo gs k).foldl putS []) a by rw [varTo_hit hc hx, List.foldl_append]; rfl)
          have HO := hide ho
          have HM := hide hm
          have HE := hide he
          clear hc hx ho hm he
          go_wp2_with fail
          (with_reducible refine (l1Put_o w.heap.size X N y _ a _ HO.out (by omega) hsz).mono ?_)
          rintro e w3 ⟨X3, N3, y3, rfl, ho3, he3⟩
          have HO3 := hide ho3
          have HM3 : Hid (OwnM w3 w1.heap.size g n cM (marks gs)) := hide (Own.ext HM.out he3)
          have HE3 := hide (HE.out.trans he3)
          clear ho3 he3 HO HM HE
          go_wp2_with fail
          exact ⟨⟨(by (repeat (first | exact trivial | refine ⟨rfl, ?_⟩))), HE3.out, HM3.out, k + 1, by omega, by go_num, _, _, _, rfl, by rw [HH.out]; exact HO3.out⟩, (by simp [intOf] <;> omega)⟩
        · have hk1' : (kk == 1) = false := by simpa using hk1
          have HH := hide (varTo_no hx hk1)
          clear hc hx hk1
          have HO := hide ho
          have HM := hide hm
          have HE := hide he
          clear ho hm he
          go_wp2_with fail
          exact ⟨⟨(by (repeat (first | exact trivial | refine ⟨rfl, ?_⟩))), HE.out, HM.out, k + 1, by omega, by go_num, _, _, _, rfl, by rw [HH.out]; exact HO.out⟩, (by simp [intOf] <;> omega)⟩
    · obtain rfl : k = n := by omega
      go_wp2_with fail
      go_ret2
      exact ⟨_, _, _, rfl, ObI.of ho (by omega), he⟩
/-- A row laid anew by the sort's contract. -/
theorem own_putRow {w : World} {base : Nat} {e : TypeId} {g n c : Nat} {xs ys : List Int} (h : Own w base e 1 (some ⟨g, 0, none⟩) n c (xs.map (Value.int .i64))) (hl : ys.length = n) (m : Nat) (os : Array Obj) :
    Own (Sort.grow (Sort.putRow (Value.int .i64) (Sort.ahead w m) g 0 ys.toArray) os) base e 1 (some ⟨g, 0, none⟩) n c (ys.map (Value.int .i64)) ∧ w.grownBy (Sort.grow (Sort.putRow (Value.int .i64) (Sort.ahead w m) g 0 ys.toArray) os) (some g) := by
  have hlt := (h.lt g rfl).2
  have hold : ∀ k, k < w.heap.size → (Sort.grow (Sort.putRow (Value.int .i64) (Sort.ahead w m) g 0 ys.toArray) os).heap[k]? = (Sort.putRow (Value.int .i64) (Sort.ahead w m) g 0 ys.toArray).heap[k]? :=
    fun k hk => Sort.heap_grow_old _ _ (by simpa using hk)
  constructor
  · refine ⟨by simp [hl], ?_⟩
    rcases h.2 with ⟨hv, _⟩ | ⟨g', cap, cur, hv, hb, hh, h1, h2, h3, h4⟩
    · simp at hv
    · simp only [Value.slice.injEq, Option.some.injEq, Addr.mk.injEq, and_true, true_and] at hv
      obtain ⟨rfl, rfl⟩ := hv
      refine .inr ⟨g, c, Sort.putCells (Value.int .i64) 0 ys.toArray cur, rfl, hb, ?_, h1, h2, by simp [Sort.putCells, h3], ?_⟩
      · rw [hold g hlt]
        unfold Sort.putRow Sort.mapBlock
        simp only [Array.getElem?_modify, Sort.heap_ahead, hh, if_true, Option.map_some, Sort.onCells]
      · have hsz : n ≤ cur.size := by omega
        apply List.ext_getElem?
        intro j
        rw [List.getElem?_take, Nat.mul_one, List.getElem?_map]
        by_cases hj : j < n
        · have hjy : j < ys.length := by omega
          rw [if_pos hj, List.getElem?_eq_getElem hjy]
          simp only [Sort.putCells, Array.getElem?_toList, Array.getElem?_mapIdx, Option.map_some]
          rw [Array.getElem?_eq_getElem (by omega)]
          simp [hjy]
        · rw [if_neg hj, List.getElem?_eq_none (by omega)]; rfl
  · refine ⟨rfl, rfl, rfl, by simp, fun k hk hne => ?_⟩
    rw [hold k hk]
    unfold Sort.putRow Sort.mapBlock
    simp only [Array.getElem?_modify, Sort.heap_ahead]
    rw [if_neg (fun e => hne (by rw [e]))]
theorem own_holds {w : World} {base : Nat} {e : TypeId} {g n c : Nat} {xs : List Int} (h : Own w base e 1 (some ⟨g, 0, none⟩) n c (xs.map (Value.int .i64))) : Sort.Holds (Value.int .i64) w g 0 xs.toArray := by
  intro j hj
  have hj' : j < xs.length := by simpa using hj
  refine ⟨?_, h.frozen _⟩
  rw [Nat.zero_add, h.cell (get_map_int (List.getElem?_eq_getElem hj'))]
  simp [hj']
theorem Own.cutV {w : World} {base : Nat} {e : TypeId} {A : Option Addr} {n c : Nat} {us : List Value} (h : Own w base e 1 A n c us) {m : Nat} (hm : m ≤ n) : Own w base e 1 A m c (us.take m) := by
  refine ⟨by have := h.1; simp; omega, ?_⟩
  rcases h.2 with ⟨hv, hn⟩ | ⟨g, cap, cur, hv, hb, hh, h1, h2, h3, h4⟩
  · left
    injection hv with e1 e2 e3
    subst e1; subst e3
    exact ⟨by rw [show m = 0 by omega], by omega⟩
  · right
    injection hv with e1 e2 e3
    subst e1; subst e3
    refine ⟨g, c, cur, rfl, hb, hh, by omega, h2, h3, ?_⟩
    rw [← h4, List.take_take]
    congr 1; omega
theorem compact_len (zs : List Int) : (Lib.compact zs).length ≤ zs.length := by
  unfold Lib.compact Lib.compactUpTo
  rw [List.length_map]
  exact Nat.le_trans (List.length_filter_le _ _) (by simp)
theorem apart_appV {A B A' : Option Addr} {n c m d n' c' : Nat} {W : World} {base : Nat} {e : TypeId} {sz : Nat} {us : List Value} (h : (Value.slice B m d).ownBlock = none ∨ (Value.slice B m d).ownBlock ≠ (Value.slice A n c).ownBlock)
    (hb' : (Value.slice A' n' c').ownBlock = (Value.slice A n c).ownBlock ∨ ∃ k, (Value.slice A' n' c').ownBlock = some k ∧ W.heap.size ≤ k) (hB : Own W base e sz B m d us) :
    (Value.slice B m d).ownBlock = none ∨ (Value.slice B m d).ownBlock ≠ (Value.slice A' n' c').ownBlock := by
  rcases hb' with hb | ⟨k, hb, hk⟩
  · rw [hb]; exact h
  · rw [hb]
    cases hB' : (Value.slice B m d).ownBlock with
    | none => exact .inl rfl
    | some q => right; intro hh; injection hh with hh; have := (hB.lt q hB').2; omega
/-- The variables of the needed gates at these indices. -/
def varsAt (gs : List Gt) (is : List Int) : List Int := (is.filter fun i => decide ((gs.getD i.toNat g0).1 = 1)).map fun i => (gs.getD i.toNat g0).2.1
theorem varsAt_hit {gs : List Gt} {is : List Int} {p : Nat} {i : Nat} {a b : Int} (hi : Hid (is[p]? = some (i : Int))) (hx : Hid (gs[i]? = some (1, a, b))) : varsAt gs (is.take (p + 1)) = varsAt gs (is.take p) ++ [a] := by
  unfold varsAt
  rw [take_succ_of hi, List.filter_append, List.map_append]
  congr 1
  have hg : gs.getD i g0 = (1, a, b) := getD_of hx
  simp only [List.filter_cons, List.filter_nil, Int.toNat_natCast, hg, decide_true, if_true, List.map_cons, List.map_nil]
theorem varsAt_miss {gs : List Gt} {is : List Int} {p : Nat} {i : Nat} {kd a b : Int} (hi : Hid (is[p]? = some (i : Int))) (hx : Hid (gs[i]? = some (kd, a, b))) (hk : kd ≠ 1) : varsAt gs (is.take (p + 1)) = varsAt gs (is.take p) := by
  unfold varsAt
  rw [take_succ_of hi, List.filter_append, List.map_append]
  have hg : gs.getD i g0 = (kd, a, b) := getD_of hx
  have hd : decide (kd = 1) = false := by simpa using hk
  simp only [List.filter_cons, List.filter_nil, Int.toNat_natCast, hg, hd, Bool.false_eq_true, if_false, List.map_nil, List.append_nil]
set_option maxRecDepth 100000 in
set_option maxHeartbeats 3200000 in
theorem circuitVars_c (A : Option Addr) (n c : Nat) (gs : List Gt) (w : World) (h : Gates w A n gs) (hg : GoodG gs) (hn : n ≤ 200) (hn1 : 1 ≤ n) :
    Calls Try.prog 97 #[.slice A n c] w fun e w' => ∃ A' n' c', e = .returned (.slice A' n' c') ∧ Own w' w.heap.size 3 1 A' n' c' ((cvarsG gs).map (Value.int .i64)) ∧ n' ≤ 200 ∧ Ext w w' := by
  have HG := hide hg
  have hl := hide h.len
  have HLe := hide (needTo_le gs n)
  have hcv : cvarsG gs = Lib.compact ((varsAt gs (needTo gs n)).mergeSort fun x y => decide (x ≤ y)) := by
    rw [compact_sort]; unfold cvarsG; rw [← hl.out, varTo_need]; rfl
  have HCV := hide hcv
  clear hcv
  go_enter Try.func97, Try.ntmps97
  go_wp2_with fail
  refine (neededGates_c _ _ _ gs _ h hg hn hn1).mono ?_
  rintro e w1 ⟨v, rfl, ⟨X, N, y, rfl, hN, ho⟩, e1⟩
  clear hg
  have hN2 : N ≤ 200 := by have := hN.out; have := HLe.out; omega
  go_wp2_with fail
  refine wp_loopF 32 _ rfl rfl [0, 7, 8, 28, 30, 31] rfl (fun fr wr => Ext w wr ∧ Own wr w.heap.size 3 1 X N y ((needTo gs n).map (Value.int .i64)) ∧ ∃ p : Nat, p ≤ N ∧ (fr 9) = .int .i64 p ∧ ∃ Z m y2, (fr 3) = .slice Z m y2 ∧ Own wr w.heap.size 3 1 Z m y2 ((varsAt gs ((needTo gs n).take p)).map (Value.int .i64)) ∧ m ≤ p ∧ ((Value.slice X N y).ownBlock = none ∨ (Value.slice X N y).ownBlock ≠ (Value.slice Z m y2).ownBlock)) (fun fr wr => N - (intOf (fr 9)).toNat) ?_ ?_
  · (exact ⟨e1, ho, 0, by omega, rfl, _, _, _, rfl, Own.nil _ _ _ _, by omega, by cases hv : (Value.slice X N y).ownBlock <;> simp [Value.ownBlock]⟩)
  intro ks fr wr hkept hrel; (try dsimp only at hrel)
  change Code.wp _ _ _ ⟨#[ks 0, fr 1, fr 2, fr 3, fr 4, fr 5, fr 6, ks 7, ks 8, fr 9, fr 10, fr 11, fr 12, fr 13, fr 14, fr 15, fr 16, fr 17, fr 18, fr 19, fr 20, fr 21, fr 22, fr 23, fr 24, fr 25, fr 26, fr 27, ks 28, fr 29, ks 30, ks 31], []⟩ wr
  simp only [KeptV, List.getD_cons_zero, List.getD_cons_succ] at hkept; obtain ⟨hk0, hk7, hk8, hk28, hk30, hk31, -⟩ := hkept
  generalize ks 0 = k0 at hk0 ⊢; subst hk0
  generalize ks 7 = k7 at hk7 ⊢; subst hk7
  generalize ks 8 = k8 at hk8 ⊢; subst hk8
  generalize ks 28 = k28 at hk28 ⊢; subst hk28
  generalize ks 30 = k30 at hk30 ⊢; subst hk30
  generalize ks 31 = k31 at hk31 ⊢; subst hk31
  generalize fr 3 = s3 at hrel ⊢
  generalize fr 9 = s9 at hrel ⊢
  clear e1 ho
  obtain ⟨he, hi, p, hp, hs1', Z, m, y2, hs2', ho, hm, hap⟩ := hrel
  subst hs1'; subst hs2'
  have hsz := he.size
  by_cases hlt : p < N
  · obtain ⟨gX, rfl, -, -⟩ := hi.form (by omega)
    obtain ⟨z, hz, hzc, -⟩ := hi.int_at (q := p) (by omega)
    obtain ⟨hz0, hz1, hzm⟩ := needTo_mem.1 (List.mem_of_getElem? hz.out)
    obtain ⟨k, rfl⟩ : ∃ k : Nat, z = (k : Int) := ⟨z.toNat, by omega⟩
    have hkn : k < n := by omega
    obtain ⟨gb, kk, a, b, rfl, hx, c0, c1, c2⟩ := (h.ext he).at_ hkn
    have hap' := hide hap
    clear hzm hz0 hz1 hap
    by_cases hk1 : kk = 1
    · subst hk1
      have HH := hide (varsAt_hit hz hx)
      have HI := hide hi
      have HO := hide ho
      have HE := hide he
      clear hz hx hi ho he
      go_wp2_with ((at_builtin; refine wpList_app rfl _ _ _ _ rfl Try.underlying37 _ 1 8 info_int rfl (by decide) rfl HO.out 1 [.int .i64 a] (by first | rfl | simp [go_sem]) rfl ?_ ?_ ?_ ?_ ?_; (intro u hu; simp at hu; first | (subst hu; rfl) | (rcases hu with rfl | rfl <;> rfl) | (rcases hu with rfl | rfl | rfl <;> rfl) | (rcases hu with rfl | rfl | rfl | rfl <;> rfl) | (rcases hu with rfl | rfl | rfl | rfl | rfl <;> rfl) | (rcases hu with rfl | rfl | rfl | rfl | rfl | rfl <;> rfl)); omega; omega; (first | omega | (simp; omega)); intro A' c' w' ho' hg' hb'); have hZb := hide hb'; clear hb')
      have HOn := hide ho'
      have HIn := hide (HI.out.kept hg' hap'.out)
      have HEn := hide (HE.out.trans_own (Nat.le_refl _) HO.out hg')
      have hapn := hide (apart_appV hap'.out hZb.out HI.out)
      clear ho' hg' HO HI HE hZb hap'
      exact ⟨⟨(by (repeat (first | exact trivial | refine ⟨rfl, ?_⟩))), HEn.out, HIn.out, p + 1, by omega, by go_num, _, _, _, rfl, by rw [HH.out, List.map_append]; exact HOn.out, by omega, hapn.out⟩, (by simp [intOf] <;> omega)⟩
    · have hk1' : (kk == 1) = false := by simpa using hk1
      have HH := hide (varsAt_miss hz hx hk1)
      have HI := hide hi
      have HO := hide ho
      have HE := hide he
      clear hz hx hi ho he hk1
      go_wp2_with fail
      exact ⟨⟨(by (repeat (first | exact trivial | refine ⟨rfl, ?_⟩))), HE.out, HI.out, p + 1, by omega, by go_num, _, _, _, rfl, by rw [HH.out]; exact HO.out, by omega, hap'.out⟩, (by simp [intOf] <;> omega)⟩
  · obtain rfl : p = N := by omega
    rw [List.take_of_length_le (by rw [hN.out]; exact Nat.le_refl _)] at ho
    clear hap hi
    generalize varsAt gs (needTo gs n) = zs at ho HCV
    have hml : zs.length = m := by have := ho.len; simpa using this
    by_cases hm0 : m = 0
    · subst hm0
      have hz0 : zs = [] := List.eq_nil_of_length_eq_zero hml
      subst hz0
      have HO := hide ho
      have HE := hide he
      clear ho he
      go_wp2_with fail
      (with_reducible refine (Try.slices_Sort_int_none Z y2 _).mono ?_)
      rintro e w2 ⟨rfl, rfl⟩
      go_wp2_with fail
      (with_reducible refine (Try.slices_Compact_int_empty Z y2 _).mono ?_)
      rintro e w2 ⟨rfl, rfl⟩
      go_wp2_with fail
      go_ret
      exact ⟨_, _, _, rfl, by rw [HCV.out, List.mergeSort_nil]; exact HO.out, by omega, HE.out⟩
    · obtain ⟨g, rfl, hgb, -⟩ := ho.form (by omega)
      subst hml
      have hH := own_holds ho
      have hgl := (ho.lt g rfl).2
      have HO := hide ho
      have HE := hide he
      have hcap := ho.capV
      have HH := hide hH
      clear ho he hH
      go_wp2_with fail
      (with_reducible refine (Try.slices_Sort_int g 0 y2 zs _ HH.out hgl (by omega)).mono ?_)
      rintro e w2 ⟨rfl, q, os, rfl⟩
      obtain ⟨ys, hys⟩ : ∃ ys, ys = zs.mergeSort fun x y => decide (x ≤ y) := ⟨_, rfl⟩
      have hyl : ys.length = zs.length := by rw [hys]; exact List.length_mergeSort _
      rw [← hys] at HCV ⊢
      obtain ⟨o2, g2⟩ := own_putRow HO.out hyl q os
      generalize Sort.grow (Sort.putRow (Value.int .i64) (Sort.ahead wr q) g 0 ys.toArray) os = w2 at o2 g2 ⊢
      have HO2 := hide o2
      have HE2 := hide (HE.out.grown g2 (fun k hk => by injection hk with hk; omega))
      have HH2 := hide (own_holds o2)
      clear o2 g2 hys HO HE HH
      rw [← hyl]
      have hcap2 : ys.length ≤ y2 := by omega
      have hyl2 : ys.length ≤ 200 := by omega
      rw [← hyl] at HO2
      clear hyl
      go_wp2_with fail
      (with_reducible refine (Try.slices_Compact_int g 0 y2 ys _ HH2.out (by omega) hcap2).mono ?_)
      rintro e w3 ⟨rfl, q3, rfl⟩
      have hcl := compact_len ys
      have hgr := own_putRow (w := w2) (ys := Lib.compact ys ++ List.replicate (ys.length - (Lib.compact ys).length) 0) HO2.out (by simp; omega) q3 #[]
      rw [Sort.grow_empty] at hgr
      obtain ⟨o3, g3⟩ := hgr
      generalize Sort.putRow (Value.int .i64) (Sort.ahead w2 q3) g 0 (Lib.compact ys ++ List.replicate (ys.length - (Lib.compact ys).length) 0).toArray = w3 at o3 g3 ⊢
      have HO3 := hide (o3.cutV (m := (Lib.compact ys).length) (by omega))
      have HE3 := hide (HE2.out.grown g3 (fun k hk => by injection hk with hk; omega))
      clear o3 g3
      go_wp2_with fail
      go_ret
      exact ⟨_, _, _, rfl, by rw [HCV.out]; have := HO3.out; rw [← List.map_take, List.take_left] at this; exact this, Nat.le_trans hcl hyl2, HE3.out⟩
set_option maxHeartbeats 800000 in
theorem impl_CircuitVars_o (v : Int) (A : Option Addr) (n d : Nat) (gs : List Gt) (w : World) (h : Gates w A n gs) :
    Calls Try.prog 45 #[.int .i64 v, .slice A n d] w fun e w' =>
      ∃ A' n' c', e = .returned (.tuple #[.slice A' n' c', .bool (circB v gs)]) ∧ ObI 3 w' w.heap.size w'.heap.size A' n' c' (if circB v gs then cvarsG gs else []) ∧ Ext w w' := by
  have hl := hide h.len
  cases h1 : circB v gs
  · simp only [Bool.false_eq_true, if_false]
    have H1 := hide h1
    clear h1
    go_enter Try.func45, Try.ntmps45
    go_wp2_with (go_at_call 69; refine (impl_IsCircuit_c _ _ _ _ gs _ (h.ext (by (repeat (first | with_reducible exact Ext.refl _ | with_reducible assumption | ((with_reducible refine Ext.setCell ?_ ?_ _); rotate_left; focus (first | omega | (simp <;> omega))) | with_reducible refine Ext.alloc ?_ _ | with_reducible refine Ext.drewN ?_ _ | with_reducible refine Ext.drew ?_ | with_reducible refine Ext.trans ?_ (by with_reducible assumption)))))).mono ?_; rw [H1.out]; rintro e w1 ⟨rfl, he1⟩)
    go_ret2
    exact ⟨_, _, _, rfl, ObI.nil, by (repeat (first | with_reducible exact Ext.refl _ | with_reducible assumption | ((with_reducible refine Ext.setCell ?_ ?_ _); rotate_left; focus (first | omega | (simp <;> omega))) | with_reducible refine Ext.alloc ?_ _ | with_reducible refine Ext.drewN ?_ _ | with_reducible refine Ext.drew ?_ | with_reducible refine Ext.trans ?_ (by with_reducible assumption)))⟩
  · simp only [if_true]
    obtain ⟨-, hc2, hc3⟩ := circ_facts h1
    have hn : n ≤ 200 := by rw [hl.out]; exact hc2.2
    have hn1 : 1 ≤ n := by rw [hl.out]; exact hc2.1
    have HC := hide hc3
    have H1 := hide h1
    clear h1 hc2 hc3
    go_enter Try.func45, Try.ntmps45
    go_wp2_with fail
    refine (impl_IsCircuit_c _ _ _ _ gs _ (h.ext (by (repeat (first | with_reducible exact Ext.refl _ | with_reducible assumption | ((with_reducible refine Ext.setCell ?_ ?_ _); rotate_left; focus (first | omega | (simp <;> omega))) | with_reducible refine Ext.alloc ?_ _ | with_reducible refine Ext.drewN ?_ _ | with_reducible refine Ext.drew ?_ | with_reducible refine Ext.trans ?_ (by with_reducible assumption)))))).mono ?_; rw [H1.out]; rintro e w1 ⟨rfl, he1⟩
    go_wp2_with fail
    refine (circuitVars_c _ _ _ gs _ (h.ext he1) HC.out hn hn1).mono ?_
    rintro e w2 ⟨X, N, y, rfl, ho, hN, he2⟩
    go_wp2_with fail
    go_ret2
    exact ⟨_, _, _, rfl, ObI.of (ho.lower he1.size) (by omega), he1.trans he2⟩
end Go.Proofs.Ytcbjaomjamfjcaa
