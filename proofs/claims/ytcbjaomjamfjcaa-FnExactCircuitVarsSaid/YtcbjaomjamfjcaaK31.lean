/-
  CircuitVars: the reference's text; no condition.
-/
import Derived.Test.YtcbjaomjamfjcaaK30
import Derived.Test.YtcbjaomjamfjcaaK14
namespace Go.Proofs.Ytcbjaomjamfjcaa
set_option linter.unusedSimpArgs false
set_option linter.unusedVariables false
open Go.RowKit

section
variable {P : Program}
/-- append, as a step of a region that draws its order, of a slice that lies in memory. -/
theorem step_appS {w : World} {ops : Array Oper} {o : Oper} {a : Act} {K : Act → World → Prop} {Q : Exit → Act → World → Prop} {E : Prop} (hgd : o.guard = none) (s x : Operand) (t e : TypeId)
    (ho : o.op = .call { callee := .builtin .append, args := #[s, x], argTypes := #[t, t] }) (ht : P.underlying t = some (.slice e))
    (z : Value) (size bytes : Nat) (hinfo : (P.info? e).map (fun i => (i.zero, i.size, i.bytes)) = some (some z, size, bytes)) (hzs : z.cells.size = size) (hsz : 0 < size)
    {base : Nat} {A : Option Addr} {n c : Nat} {us : List Value} (hs : a.eval s = .slice A n c) (hown : Own w base e size A n c us)
    (ad : Addr) (m mx : Nat) (news : List Value) (hx : a.eval x = .slice (some ad) m mx) (hl : news.length = m * size) (hnews : ∀ j u, news[j]? = some u → w.cell? (ad.add j) = some u) (h1 : ∀ u ∈ news, u.oneCell' = true)
    (h63 : n + m ≤ 140737488355328) (hbytes : (n + m) * bytes ≤ 140737488355328) (hbase : base ≤ w.heap.size)
    (h : ∀ A' c' w', Own w' base e size A' (n + m) c' (us ++ news) → w.grownBy w' (Value.slice A n c).ownBlock → K (a.put o.dst (.slice A' (n + m) c')) w') :
    if Region.wanted o (yielded ops a.tmps) = true then Oper.wp P o a w K Q else E := by
  obtain ⟨i, hi, hz, hsize, hby⟩ := info_parts hinfo
  have hw : Region.wanted o (yielded ops a.tmps) = true := by simp [Region.wanted, hgd]
  rw [if_pos hw]
  obtain ⟨v', w', hr, h2, h3, _, _⟩ := run_append_own_at (P := P) w base t o.type e i z size bytes ht hi hz hsize hby hzs hsz _ n us hown ad m mx news hl hnews h1 (by simp only [maxLen]; omega) hbytes hbase
  have hv : ∃ A' c', v' = .slice A' (n + m) c' := by
    rcases h2.2 with ⟨rfl, h0⟩ | ⟨g, cap, cur, rfl, _⟩
    · exact ⟨none, 0, by rw [h0]⟩
    · exact ⟨_, _, rfl⟩
  obtain ⟨A', c', rfl⟩ := hv
  unfold Oper.wp execOp
  simp only [ho, resolve, invoke, builtin, Sem.run_bind, Sem.run_pure, Result.andThen_ok, List.map_toArray, List.map_cons, List.map_nil, hs, hx, hr]
  exact h A' c' w' h2 h3
end
theorem Own.capV {w : World} {base : Nat} {e : TypeId} {size : Nat} {A : Option Addr} {n c : Nat} {us : List Value} (h : Own w base e size A n c us) : n ≤ c := by
  rcases h.2 with ⟨hv, hn⟩ | ⟨g, cap, cur, hv, hb, hh, h1, h2, h3, h4⟩
  · omega
  · injection hv with e1 e2 e3
    omega
/-- The cells of a part of a row. -/
theorem Own.cells_from {w : World} {base : Nat} {e : TypeId} {g n c : Nat} {xs : List Int} (h : Own w base e 1 (some ⟨g, 0, none⟩) n c (xs.map (Value.int .i64))) (k : Nat) (ys : List Int) (hys : ∀ j y, ys[j]? = some y → xs[k + j]? = some y) :
    ∀ j u, (ys.map (Value.int .i64))[j]? = some u → w.cell? ((⟨g, k, none⟩ : Addr).add j) = some u := by
  intro j u hu
  rw [List.getElem?_map] at hu
  cases hy : ys[j]? with
  | none => rw [hy] at hu; cases hu
  | some y =>
    rw [hy] at hu
    injection hu with hu
    subst hu
    have hadd : (⟨g, k, none⟩ : Addr).add j = ⟨g, k + j, none⟩ := by
      unfold Addr.add
      split
      · simp_all
      · simp
    rw [hadd]
    exact h.cell (get_map_int (hys j y hy))
theorem one_ints (xs : List Int) : ∀ u ∈ xs.map (Value.int .i64), u.oneCell' = true := by
  intro u hu
  obtain ⟨x, _, rfl⟩ := List.mem_map.1 hu
  rfl
theorem box_news {w : World} {b : Nat} {t : TypeId} {v : Value} (h : BoxAt w b t #[v]) : ∀ j u, [v][j]? = some u → w.cell? ((⟨b, 0, none⟩ : Addr).add j) = some u := by
  intro j u hu
  cases j with
  | zero => simp at hu; subst hu; exact h.cell 0 _ rfl
  | succ j => simp at hu
set_option maxRecDepth 100000 in
set_option maxHeartbeats 3200000 in
theorem l1Put_o (base g n c : Nat) (xs : List Int) (x : Int) (w : World) (h : Own w base 3 1 (some ⟨g, 0, none⟩) n c (xs.map (Value.int .i64))) (hn : n ≤ 200) (hb : base ≤ w.heap.size) :
    Calls Try.prog 96 #[.slice (some ⟨g, 0, none⟩) n c, .int .i64 x] w fun e w' =>
      ∃ g' n' c', e = .returned (.slice (some ⟨g', 0, none⟩) n' c') ∧ Own w' base 3 1 (some ⟨g', 0, none⟩) n' c' ((putS xs x).map (Value.int .i64)) ∧ Ext w w' := by
  have hxl : xs.length = n := by have := h.len; simpa using this
  have HO := hide h
  have hgl := hide ((h.lt g rfl).2)
  have hcap := h.capV
  clear h
  go_enter Try.func96, Try.ntmps96
  go_wp2_with fail
  refine wp_loopF 45 _ rfl rfl [0, 1, 4, 20, 21, 22, 23, 24, 25, 26, 27, 28, 29, 30, 31, 32, 33, 34, 35, 36, 37, 38, 39, 40, 41, 42, 43, 44] rfl (fun fr wr => Ext w wr ∧ ∃ k : Nat, k ≤ n ∧ (fr 5) = .int .i64 k ∧ Hid (∀ j y, j < k → xs[j]? = some y → y < x)) (fun fr wr => n - (intOf (fr 5)).toNat) ?_ ?_
  · (exact ⟨by (repeat (first | with_reducible exact Ext.refl _ | with_reducible assumption | ((with_reducible refine Ext.setCell ?_ ?_ _); rotate_left; focus (first | omega | (simp <;> omega))) | with_reducible refine Ext.alloc ?_ _ | with_reducible refine Ext.drewN ?_ _ | with_reducible refine Ext.drew ?_ | with_reducible refine Ext.trans ?_ (by with_reducible assumption))), 0, by omega, rfl, hide (fun j y hj => by omega)⟩)
  intro ks fr wr hkept hrel; (try dsimp only at hrel)
  change Code.wp _ _ _ ⟨#[ks 0, ks 1, fr 2, fr 3, ks 4, fr 5, fr 6, fr 7, fr 8, fr 9, fr 10, fr 11, fr 12, fr 13, fr 14, fr 15, fr 16, fr 17, fr 18, fr 19, ks 20, ks 21, ks 22, ks 23, ks 24, ks 25, ks 26, ks 27, ks 28, ks 29, ks 30, ks 31, ks 32, ks 33, ks 34, ks 35, ks 36, ks 37, ks 38, ks 39, ks 40, ks 41, ks 42, ks 43, ks 44], []⟩ wr
  simp only [KeptV, List.getD_cons_zero, List.getD_cons_succ] at hkept; obtain ⟨hk0, hk1, hk4, hk20, hk21, hk22, hk23, hk24, hk25, hk26, hk27, hk28, hk29, hk30, hk31, hk32, hk33, hk34, hk35, hk36, hk37, hk38, hk39, hk40, hk41, hk42, hk43, hk44, -⟩ := hkept
  generalize ks 0 = k0 at hk0 ⊢; subst hk0
  generalize ks 1 = k1 at hk1 ⊢; subst hk1
  generalize ks 4 = k4 at hk4 ⊢; subst hk4
  generalize ks 20 = k20 at hk20 ⊢; subst hk20
  generalize ks 21 = k21 at hk21 ⊢; subst hk21
  generalize ks 22 = k22 at hk22 ⊢; subst hk22
  generalize ks 23 = k23 at hk23 ⊢; subst hk23
  generalize ks 24 = k24 at hk24 ⊢; subst hk24
  generalize ks 25 = k25 at hk25 ⊢; subst hk25
  generalize ks 26 = k26 at hk26 ⊢; subst hk26
  generalize ks 27 = k27 at hk27 ⊢; subst hk27
  generalize ks 28 = k28 at hk28 ⊢; subst hk28
  generalize ks 29 = k29 at hk29 ⊢; subst hk29
  generalize ks 30 = k30 at hk30 ⊢; subst hk30
  generalize ks 31 = k31 at hk31 ⊢; subst hk31
  generalize ks 32 = k32 at hk32 ⊢; subst hk32
  generalize ks 33 = k33 at hk33 ⊢; subst hk33
  generalize ks 34 = k34 at hk34 ⊢; subst hk34
  generalize ks 35 = k35 at hk35 ⊢; subst hk35
  generalize ks 36 = k36 at hk36 ⊢; subst hk36
  generalize ks 37 = k37 at hk37 ⊢; subst hk37
  generalize ks 38 = k38 at hk38 ⊢; subst hk38
  generalize ks 39 = k39 at hk39 ⊢; subst hk39
  generalize ks 40 = k40 at hk40 ⊢; subst hk40
  generalize ks 41 = k41 at hk41 ⊢; subst hk41
  generalize ks 42 = k42 at hk42 ⊢; subst hk42
  generalize ks 43 = k43 at hk43 ⊢; subst hk43
  generalize ks 44 = k44 at hk44 ⊢; subst hk44
  generalize fr 5 = s5 at hrel ⊢
  obtain ⟨he, k, hk, hs1, hlow⟩ := hrel
  subst hs1
  have ho := HO.out.ext he
  have hbz : base ≤ wr.heap.size := Nat.le_trans hb he.size
  have HE := hide he
  clear he
  by_cases hlt : k < n
  · obtain ⟨y, hy, d, -⟩ := ho.int_at (q := k) hlt
    by_cases hyx : y < x
    · have hlow' : Hid (∀ j y, j < k + 1 → xs[j]? = some y → y < x) := hide (fun j z hj hz => by
        by_cases hjk : j = k
        · subst hjk; rw [hy.out] at hz; injection hz with hz; omega
        · exact hlow.out j z (by omega) hz)
      clear hlow hy ho
      go_wp2_with fail
      exact ⟨⟨(by (repeat (first | exact trivial | refine ⟨rfl, ?_⟩))), HE.out, k + 1, by omega, by go_num, hlow'⟩, (by simp [intOf] <;> omega)⟩
    · have hpt := putS_at (xs := xs) (x := x) (k := k) hlow.out (by omega) (fun z hz => by rw [hy.out] at hz; injection hz with hz; omega)
      by_cases hyx2 : y = x
      · subst hyx2
        rw [if_pos hy.out] at hpt
        have HP := hide hpt
        have HOr := hide ho
        clear hpt hlow hy ho
        go_wp2_with fail
        go_ret
        exact ⟨_, _, _, rfl, by rw [HP.out]; exact HOr.out, HE.out⟩
      · have hyx3 : (y == x) = false := by simpa using hyx2
        rw [if_neg (fun e => hyx2 (by rw [hy.out] at e; injection e))] at hpt
        have HP := hide hpt
        have HX := hide ho
        clear hpt hlow hy
        go_wp2_with fail
        have hk2 : (k : Int) ≤ (c : Int) := by omega
        have hk3 : (n : Int) ≤ (c : Int) := by omega
        have hck : ¬ (c = k) := by omega
        have HO1 : Hid (Own (wr.alloc (.cells #[] 3)).drew wr.heap.size 3 1 (some ⟨wr.heap.size, 0, none⟩) 0 0 []) := hide ((Own.arr_at #[] 0 [] rfl (Nat.le_refl _) (by decide) rfl rfl).ext (Ext.refl _).drew)
        have HO2 : Hid (Own ((wr.alloc (.cells #[] 3)).alloc (.cells #[.int .i64 x] 3)).drew wr.heap.size 3 1 (some ⟨wr.heap.size, 0, none⟩) 0 0 []) := hide (((Own.arr_at #[] 0 [] rfl (Nat.le_refl _) (by decide) rfl rfl).alloc _).ext (Ext.refl _).drew)
        have HO3 : Hid (Own ((wr.alloc (.cells #[.int .i64 x] 3)).alloc (.cells #[] 3)).drew wr.heap.size 3 1 (some ⟨wr.heap.size + 1, 0, none⟩) 0 0 []) := hide ((Own.arr_at #[] 0 [] (by simp) (by simp) (by decide) rfl rfl).ext (Ext.refl _).drew)
        have HB2 : Hid (BoxAt ((wr.alloc (.cells #[] 3)).alloc (.cells #[.int .i64 x] 3)).drew (wr.heap.size + 1) 3 #[.int .i64 x]) := hide ((by have := BoxAt.made (wr.alloc (.cells #[] 3)) #[.int .i64 x] 3; simpa using this : BoxAt ((wr.alloc (.cells #[] 3)).alloc (.cells #[.int .i64 x] 3)) (wr.heap.size + 1) 3 #[.int .i64 x]).ext (Ext.refl _).drew)
        have HB3 : Hid (BoxAt ((wr.alloc (.cells #[.int .i64 x] 3)).alloc (.cells #[] 3)).drew wr.heap.size 3 #[.int .i64 x]) := hide (((BoxAt.made wr #[.int .i64 x] 3).ext ((Ext.refl _).alloc _)).ext (Ext.refl _).drew)
        go_region_held3 (fun w' => True) (trivial) (first | (refine step_appS (base := wr.heap.size) (by rfl) _ _ 37 _ (by rfl) Try.underlying37 _ 1 8 info_int rfl (by decide) (A := A2) (n := 0 + k + 1) (c := c2) (us := [] ++ (xs.take k).map (Value.int .i64) ++ [.int .i64 x]) (by first | rfl | (simp [go_sem]; done)) ho2 ⟨g, k, none⟩ (n - k) _ ((xs.drop k).map (Value.int .i64)) (by first | rfl | (simp [go_sem]; done) | (simp [go_sem, *]; done)) (by simp; omega) (by exact (HX.out.ext E2).cells_from k (xs.drop k) (fun j y hy => by rw [List.getElem?_drop] at hy; exact hy)) (one_ints _) (by omega) (by omega) (by omega) ?_; intro A3 c3 w3 ho3 hg3; have E3 : Ext wr w3 := E2.trans_own (Nat.le_refl _) ho2 hg3; clear ho2 hg3) | (refine step_appS (base := wr.heap.size) (by rfl) _ _ 37 _ (by rfl) Try.underlying37 _ 1 8 info_int rfl (by decide) (by first | rfl | (simp [go_sem]; done)) (us := []) (by first | exact HO1.out | exact HO2.out | exact HO3.out) _ k _ ((xs.take k).map (Value.int .i64)) (by first | rfl | (simp [go_sem]; done)) (by simp; omega) (by exact (HX.out.ext (by (repeat (first | with_reducible exact Ext.refl _ | with_reducible assumption | ((with_reducible refine Ext.setCell ?_ ?_ _); rotate_left; focus (first | omega | (simp <;> omega))) | with_reducible refine Ext.alloc ?_ _ | with_reducible refine Ext.drewN ?_ _ | with_reducible refine Ext.drew ?_ | with_reducible refine Ext.trans ?_ (by with_reducible assumption))))).cells_from 0 (xs.take k) (fun j y hy => by rw [List.getElem?_take] at hy; split at hy; (rw [Nat.zero_add]; exact hy); cases hy)) (one_ints _) (by omega) (by omega) (by first | omega | (simp <;> omega)) ?_; intro A1 c1 w1 ho1 hg1; have E1 : Ext wr w1 := Ext.trans_own (by (repeat (first | with_reducible exact Ext.refl _ | with_reducible assumption | ((with_reducible refine Ext.setCell ?_ ?_ _); rotate_left; focus (first | omega | (simp <;> omega))) | with_reducible refine Ext.alloc ?_ _ | with_reducible refine Ext.drewN ?_ _ | with_reducible refine Ext.drew ?_ | with_reducible refine Ext.trans ?_ (by with_reducible assumption)))) (Nat.le_refl _) (by first | exact HO1.out | exact HO2.out | exact HO3.out) hg1; (first | (have bx1 : BoxAt w1 (wr.heap.size + 1) 3 #[.int .i64 x] := (hg1.block _ (by first | omega | (simp <;> omega)) (by simp [Value.ownBlock])).trans HB2.out) | (have bx1 : BoxAt w1 wr.heap.size 3 #[.int .i64 x] := (hg1.block _ (by first | omega | (simp <;> omega)) (by simp [Value.ownBlock])).trans HB3.out) | skip); have ez1 := E1.size; clear HO1 HO2 HO3) | (refine step_appS (base := wr.heap.size) (by rfl) _ _ 37 _ (by rfl) Try.underlying37 _ 1 8 info_int rfl (by decide) (A := A1) (n := 0 + k) (c := c1) (us := [] ++ (xs.take k).map (Value.int .i64)) (by first | rfl | (simp [go_sem]; done)) (by first | exact ho1 | exact ho1.alloc _) ⟨w1.heap.size, 0, none⟩ 1 1 [.int .i64 x] (by first | rfl | (simp [go_sem]; done)) rfl (by exact box_news (BoxAt.made _ _ _)) (by intro u hu; simp at hu; subst hu; rfl) (by omega) (by omega) (by first | omega | (simp <;> omega)) ?_; intro A2 c2 w2 ho2 hg2; have E2 : Ext wr w2 := Ext.trans_own (by (repeat (first | with_reducible exact Ext.refl _ | with_reducible assumption | ((with_reducible refine Ext.setCell ?_ ?_ _); rotate_left; focus (first | omega | (simp <;> omega))) | with_reducible refine Ext.alloc ?_ _ | with_reducible refine Ext.drewN ?_ _ | with_reducible refine Ext.drew ?_ | with_reducible refine Ext.trans ?_ (by with_reducible assumption)))) (Nat.le_refl _) (by first | exact ho1 | exact ho1.alloc _) hg2; have ez2 := E2.size; clear ho1 hg1 hg2) | (refine step_appS (base := wr.heap.size) (by rfl) _ _ 37 _ (by rfl) Try.underlying37 _ 1 8 info_int rfl (by decide) (A := A1) (n := 0 + k) (c := c1) (us := [] ++ (xs.take k).map (Value.int .i64)) (by first | rfl | (simp [go_sem]; done)) (by first | exact ho1 | exact ho1.alloc _) ⟨wr.heap.size + 1, 0, none⟩ 1 1 [.int .i64 x] (by first | rfl | (simp [go_sem]; done)) rfl (by exact box_news bx1) (by intro u hu; simp at hu; subst hu; rfl) (by omega) (by omega) (by first | omega | (simp <;> omega)) ?_; intro A2 c2 w2 ho2 hg2; have E2 : Ext wr w2 := Ext.trans_own (by (repeat (first | with_reducible exact Ext.refl _ | with_reducible assumption | ((with_reducible refine Ext.setCell ?_ ?_ _); rotate_left; focus (first | omega | (simp <;> omega))) | with_reducible refine Ext.alloc ?_ _ | with_reducible refine Ext.drewN ?_ _ | with_reducible refine Ext.drew ?_ | with_reducible refine Ext.trans ?_ (by with_reducible assumption)))) (Nat.le_refl _) (by first | exact ho1 | exact ho1.alloc _) hg2; have ez2 := E2.size; clear ho1 hg1 hg2) | (refine step_appS (base := wr.heap.size) (by rfl) _ _ 37 _ (by rfl) Try.underlying37 _ 1 8 info_int rfl (by decide) (A := A1) (n := 0 + k) (c := c1) (us := [] ++ (xs.take k).map (Value.int .i64)) (by first | rfl | (simp [go_sem]; done)) (by first | exact ho1 | exact ho1.alloc _) ⟨wr.heap.size, 0, none⟩ 1 1 [.int .i64 x] (by first | rfl | (simp [go_sem]; done)) rfl (by exact box_news bx1) (by intro u hu; simp at hu; subst hu; rfl) (by omega) (by omega) (by first | omega | (simp <;> omega)) ?_; intro A2 c2 w2 ho2 hg2; have E2 : Ext wr w2 := Ext.trans_own (by (repeat (first | with_reducible exact Ext.refl _ | with_reducible assumption | ((with_reducible refine Ext.setCell ?_ ?_ _); rotate_left; focus (first | omega | (simp <;> omega))) | with_reducible refine Ext.alloc ?_ _ | with_reducible refine Ext.drewN ?_ _ | with_reducible refine Ext.drew ?_ | with_reducible refine Ext.trans ?_ (by with_reducible assumption)))) (Nat.le_refl _) (by first | exact ho1 | exact ho1.alloc _) hg2; have ez2 := E2.size; clear ho1 hg1 hg2))
        all_goals
          obtain ⟨g3, rfl, -, -⟩ := ho3.form (by omega)
          go_wp2_with fail
          go_ret
          exact ⟨_, _, _, rfl, by rw [HP.out]; simpa using ho3.lower hbz, HE.out.trans E3⟩
  · obtain rfl : k = n := by omega
    have hpt := putS_at (xs := xs) (x := x) (k := k) hlow.out (by omega) (fun z hz => by rw [List.getElem?_eq_none (by omega)] at hz; cases hz)
    rw [if_neg (by rw [List.getElem?_eq_none (by omega)]; simp)] at hpt
    have HP := hide hpt
    have HX := hide ho
    clear hpt hlow
    go_wp2_with fail
    have hk2 : (k : Int) ≤ (c : Int) := by omega
    by_cases hck : c = k
    · skip
      have HO1 : Hid (Own (wr.alloc (.cells #[] 3)).drew wr.heap.size 3 1 (some ⟨wr.heap.size, 0, none⟩) 0 0 []) := hide ((Own.arr_at #[] 0 [] rfl (Nat.le_refl _) (by decide) rfl rfl).ext (Ext.refl _).drew)
      have HO2 : Hid (Own ((wr.alloc (.cells #[] 3)).alloc (.cells #[.int .i64 x] 3)).drew wr.heap.size 3 1 (some ⟨wr.heap.size, 0, none⟩) 0 0 []) := hide (((Own.arr_at #[] 0 [] rfl (Nat.le_refl _) (by decide) rfl rfl).alloc _).ext (Ext.refl _).drew)
      have HO3 : Hid (Own ((wr.alloc (.cells #[.int .i64 x] 3)).alloc (.cells #[] 3)).drew wr.heap.size 3 1 (some ⟨wr.heap.size + 1, 0, none⟩) 0 0 []) := hide ((Own.arr_at #[] 0 [] (by simp) (by simp) (by decide) rfl rfl).ext (Ext.refl _).drew)
      have HB2 : Hid (BoxAt ((wr.alloc (.cells #[] 3)).alloc (.cells #[.int .i64 x] 3)).drew (wr.heap.size + 1) 3 #[.int .i64 x]) := hide ((by have := BoxAt.made (wr.alloc (.cells #[] 3)) #[.int .i64 x] 3; simpa using this : BoxAt ((wr.alloc (.cells #[] 3)).alloc (.cells #[.int .i64 x] 3)) (wr.heap.size + 1) 3 #[.int .i64 x]).ext (Ext.refl _).drew)
      have HB3 : Hid (BoxAt ((wr.alloc (.cells #[.int .i64 x] 3)).alloc (.cells #[] 3)).drew wr.heap.size 3 #[.int .i64 x]) := hide (((BoxAt.made wr #[.int .i64 x] 3).ext ((Ext.refl _).alloc _)).ext (Ext.refl _).drew)
      go_region_held3 (fun w' => True) (trivial) (first | (refine step_appS (base := wr.heap.size) (by rfl) _ _ 37 _ (by rfl) Try.underlying37 _ 1 8 info_int rfl (by decide) (A := A2) (n := 0 + k + 1) (c := c2) (us := [] ++ (xs.take k).map (Value.int .i64) ++ [.int .i64 x]) (by first | rfl | (simp [go_sem]; done)) ho2 ⟨g, 0, none⟩ 0 _ ((xs.drop k).map (Value.int .i64)) (by first | rfl | (simp [go_sem]; done) | (simp [go_sem, *]; done)) (by simp; omega) (by exact (HX.out.ext E2).cells_from 0 (xs.drop k) (fun j y hy => by rw [List.drop_eq_nil_of_le (by omega)] at hy; simp at hy)) (one_ints _) (by omega) (by omega) (by omega) ?_; intro A3 c3 w3 ho3 hg3; have E3 : Ext wr w3 := E2.trans_own (Nat.le_refl _) ho2 hg3; clear ho2 hg3) | (refine step_appS (base := wr.heap.size) (by rfl) _ _ 37 _ (by rfl) Try.underlying37 _ 1 8 info_int rfl (by decide) (by first | rfl | (simp [go_sem]; done)) (us := []) (by first | exact HO1.out | exact HO2.out | exact HO3.out) _ k _ ((xs.take k).map (Value.int .i64)) (by first | rfl | (simp [go_sem]; done)) (by simp; omega) (by exact (HX.out.ext (by (repeat (first | with_reducible exact Ext.refl _ | with_reducible assumption | ((with_reducible refine Ext.setCell ?_ ?_ _); rotate_left; focus (first | omega | (simp <;> omega))) | with_reducible refine Ext.alloc ?_ _ | with_reducible refine Ext.drewN ?_ _ | with_reducible refine Ext.drew ?_ | with_reducible refine Ext.trans ?_ (by with_reducible assumption))))).cells_from 0 (xs.take k) (fun j y hy => by rw [List.getElem?_take] at hy; split at hy; (rw [Nat.zero_add]; exact hy); cases hy)) (one_ints _) (by omega) (by omega) (by first | omega | (simp <;> omega)) ?_; intro A1 c1 w1 ho1 hg1; have E1 : Ext wr w1 := Ext.trans_own (by (repeat (first | with_reducible exact Ext.refl _ | with_reducible assumption | ((with_reducible refine Ext.setCell ?_ ?_ _); rotate_left; focus (first | omega | (simp <;> omega))) | with_reducible refine Ext.alloc ?_ _ | with_reducible refine Ext.drewN ?_ _ | with_reducible refine Ext.drew ?_ | with_reducible refine Ext.trans ?_ (by with_reducible assumption)))) (Nat.le_refl _) (by first | exact HO1.out | exact HO2.out | exact HO3.out) hg1; (first | (have bx1 : BoxAt w1 (wr.heap.size + 1) 3 #[.int .i64 x] := (hg1.block _ (by first | omega | (simp <;> omega)) (by simp [Value.ownBlock])).trans HB2.out) | (have bx1 : BoxAt w1 wr.heap.size 3 #[.int .i64 x] := (hg1.block _ (by first | omega | (simp <;> omega)) (by simp [Value.ownBlock])).trans HB3.out) | skip); have ez1 := E1.size; clear HO1 HO2 HO3) | (refine step_appS (base := wr.heap.size) (by rfl) _ _ 37 _ (by rfl) Try.underlying37 _ 1 8 info_int rfl (by decide) (A := A1) (n := 0 + k) (c := c1) (us := [] ++ (xs.take k).map (Value.int .i64)) (by first | rfl | (simp [go_sem]; done)) (by first | exact ho1 | exact ho1.alloc _) ⟨w1.heap.size, 0, none⟩ 1 1 [.int .i64 x] (by first | rfl | (simp [go_sem]; done)) rfl (by exact box_news (BoxAt.made _ _ _)) (by intro u hu; simp at hu; subst hu; rfl) (by omega) (by omega) (by first | omega | (simp <;> omega)) ?_; intro A2 c2 w2 ho2 hg2; have E2 : Ext wr w2 := Ext.trans_own (by (repeat (first | with_reducible exact Ext.refl _ | with_reducible assumption | ((with_reducible refine Ext.setCell ?_ ?_ _); rotate_left; focus (first | omega | (simp <;> omega))) | with_reducible refine Ext.alloc ?_ _ | with_reducible refine Ext.drewN ?_ _ | with_reducible refine Ext.drew ?_ | with_reducible refine Ext.trans ?_ (by with_reducible assumption)))) (Nat.le_refl _) (by first | exact ho1 | exact ho1.alloc _) hg2; have ez2 := E2.size; clear ho1 hg1 hg2) | (refine step_appS (base := wr.heap.size) (by rfl) _ _ 37 _ (by rfl) Try.underlying37 _ 1 8 info_int rfl (by decide) (A := A1) (n := 0 + k) (c := c1) (us := [] ++ (xs.take k).map (Value.int .i64)) (by first | rfl | (simp [go_sem]; done)) (by first | exact ho1 | exact ho1.alloc _) ⟨wr.heap.size + 1, 0, none⟩ 1 1 [.int .i64 x] (by first | rfl | (simp [go_sem]; done)) rfl (by exact box_news bx1) (by intro u hu; simp at hu; subst hu; rfl) (by omega) (by omega) (by first | omega | (simp <;> omega)) ?_; intro A2 c2 w2 ho2 hg2; have E2 : Ext wr w2 := Ext.trans_own (by (repeat (first | with_reducible exact Ext.refl _ | with_reducible assumption | ((with_reducible refine Ext.setCell ?_ ?_ _); rotate_left; focus (first | omega | (simp <;> omega))) | with_reducible refine Ext.alloc ?_ _ | with_reducible refine Ext.drewN ?_ _ | with_reducible refine Ext.drew ?_ | with_reducible refine Ext.trans ?_ (by with_reducible assumption)))) (Nat.le_refl _) (by first | exact ho1 | exact ho1.alloc _) hg2; have ez2 := E2.size; clear ho1 hg1 hg2) | (refine step_appS (base := wr.heap.size) (by rfl) _ _ 37 _ (by rfl) Try.underlying37 _ 1 8 info_int rfl (by decide) (A := A1) (n := 0 + k) (c := c1) (us := [] ++ (xs.take k).map (Value.int .i64)) (by first | rfl | (simp [go_sem]; done)) (by first | exact ho1 | exact ho1.alloc _) ⟨wr.heap.size, 0, none⟩ 1 1 [.int .i64 x] (by first | rfl | (simp [go_sem]; done)) rfl (by exact box_news bx1) (by intro u hu; simp at hu; subst hu; rfl) (by omega) (by omega) (by first | omega | (simp <;> omega)) ?_; intro A2 c2 w2 ho2 hg2; have E2 : Ext wr w2 := Ext.trans_own (by (repeat (first | with_reducible exact Ext.refl _ | with_reducible assumption | ((with_reducible refine Ext.setCell ?_ ?_ _); rotate_left; focus (first | omega | (simp <;> omega))) | with_reducible refine Ext.alloc ?_ _ | with_reducible refine Ext.drewN ?_ _ | with_reducible refine Ext.drew ?_ | with_reducible refine Ext.trans ?_ (by with_reducible assumption)))) (Nat.le_refl _) (by first | exact ho1 | exact ho1.alloc _) hg2; have ez2 := E2.size; clear ho1 hg1 hg2))
      all_goals
        obtain ⟨g3, rfl, -, -⟩ := ho3.form (by omega)
        go_wp2_with fail
        go_ret
        exact ⟨_, _, _, rfl, by rw [HP.out]; simpa using ho3.lower hbz, HE.out.trans E3⟩
    · skip
      have HO1 : Hid (Own (wr.alloc (.cells #[] 3)).drew wr.heap.size 3 1 (some ⟨wr.heap.size, 0, none⟩) 0 0 []) := hide ((Own.arr_at #[] 0 [] rfl (Nat.le_refl _) (by decide) rfl rfl).ext (Ext.refl _).drew)
      have HO2 : Hid (Own ((wr.alloc (.cells #[] 3)).alloc (.cells #[.int .i64 x] 3)).drew wr.heap.size 3 1 (some ⟨wr.heap.size, 0, none⟩) 0 0 []) := hide (((Own.arr_at #[] 0 [] rfl (Nat.le_refl _) (by decide) rfl rfl).alloc _).ext (Ext.refl _).drew)
      have HO3 : Hid (Own ((wr.alloc (.cells #[.int .i64 x] 3)).alloc (.cells #[] 3)).drew wr.heap.size 3 1 (some ⟨wr.heap.size + 1, 0, none⟩) 0 0 []) := hide ((Own.arr_at #[] 0 [] (by simp) (by simp) (by decide) rfl rfl).ext (Ext.refl _).drew)
      have HB2 : Hid (BoxAt ((wr.alloc (.cells #[] 3)).alloc (.cells #[.int .i64 x] 3)).drew (wr.heap.size + 1) 3 #[.int .i64 x]) := hide ((by have := BoxAt.made (wr.alloc (.cells #[] 3)) #[.int .i64 x] 3; simpa using this : BoxAt ((wr.alloc (.cells #[] 3)).alloc (.cells #[.int .i64 x] 3)) (wr.heap.size + 1) 3 #[.int .i64 x]).ext (Ext.refl _).drew)
      have HB3 : Hid (BoxAt ((wr.alloc (.cells #[.int .i64 x] 3)).alloc (.cells #[] 3)).drew wr.heap.size 3 #[.int .i64 x]) := hide (((BoxAt.made wr #[.int .i64 x] 3).ext ((Ext.refl _).alloc _)).ext (Ext.refl _).drew)
      go_region_held3 (fun w' => True) (trivial) (first | (refine step_appS (base := wr.heap.size) (by rfl) _ _ 37 _ (by rfl) Try.underlying37 _ 1 8 info_int rfl (by decide) (A := A2) (n := 0 + k + 1) (c := c2) (us := [] ++ (xs.take k).map (Value.int .i64) ++ [.int .i64 x]) (by first | rfl | (simp [go_sem]; done)) ho2 ⟨g, k, none⟩ 0 _ ((xs.drop k).map (Value.int .i64)) (by first | rfl | (simp [go_sem]; done) | (simp [go_sem, *]; done)) (by simp; omega) (by exact (HX.out.ext E2).cells_from k (xs.drop k) (fun j y hy => by rw [List.getElem?_drop] at hy; exact hy)) (one_ints _) (by omega) (by omega) (by omega) ?_; intro A3 c3 w3 ho3 hg3; have E3 : Ext wr w3 := E2.trans_own (Nat.le_refl _) ho2 hg3; clear ho2 hg3) | (refine step_appS (base := wr.heap.size) (by rfl) _ _ 37 _ (by rfl) Try.underlying37 _ 1 8 info_int rfl (by decide) (by first | rfl | (simp [go_sem]; done)) (us := []) (by first | exact HO1.out | exact HO2.out | exact HO3.out) _ k _ ((xs.take k).map (Value.int .i64)) (by first | rfl | (simp [go_sem]; done)) (by simp; omega) (by exact (HX.out.ext (by (repeat (first | with_reducible exact Ext.refl _ | with_reducible assumption | ((with_reducible refine Ext.setCell ?_ ?_ _); rotate_left; focus (first | omega | (simp <;> omega))) | with_reducible refine Ext.alloc ?_ _ | with_reducible refine Ext.drewN ?_ _ | with_reducible refine Ext.drew ?_ | with_reducible refine Ext.trans ?_ (by with_reducible assumption))))).cells_from 0 (xs.take k) (fun j y hy => by rw [List.getElem?_take] at hy; split at hy; (rw [Nat.zero_add]; exact hy); cases hy)) (one_ints _) (by omega) (by omega) (by first | omega | (simp <;> omega)) ?_; intro A1 c1 w1 ho1 hg1; have E1 : Ext wr w1 := Ext.trans_own (by (repeat (first | with_reducible exact Ext.refl _ | with_reducible assumption | ((with_reducible refine Ext.setCell ?_ ?_ _); rotate_left; focus (first | omega | (simp <;> omega))) | with_reducible refine Ext.alloc ?_ _ | with_reducible refine Ext.drewN ?_ _ | with_reducible refine Ext.drew ?_ | with_reducible refine Ext.trans ?_ (by with_reducible assumption)))) (Nat.le_refl _) (by first | exact HO1.out | exact HO2.out | exact HO3.out) hg1; (first | (have bx1 : BoxAt w1 (wr.heap.size + 1) 3 #[.int .i64 x] := (hg1.block _ (by first | omega | (simp <;> omega)) (by simp [Value.ownBlock])).trans HB2.out) | (have bx1 : BoxAt w1 wr.heap.size 3 #[.int .i64 x] := (hg1.block _ (by first | omega | (simp <;> omega)) (by simp [Value.ownBlock])).trans HB3.out) | skip); have ez1 := E1.size; clear HO1 HO2 HO3) | (refine step_appS (base := wr.heap.size) (by rfl) _ _ 37 _ (by rfl) Try.underlying37 _ 1 8 info_int rfl (by decide) (A := A1) (n := 0 + k) (c := c1) (us := [] ++ (xs.take k).map (Value.int .i64)) (by first | rfl | (simp [go_sem]; done)) (by first | exact ho1 | exact ho1.alloc _) ⟨w1.heap.size, 0, none⟩ 1 1 [.int .i64 x] (by first | rfl | (simp [go_sem]; done)) rfl (by exact box_news (BoxAt.made _ _ _)) (by intro u hu; simp at hu; subst hu; rfl) (by omega) (by omega) (by first | omega | (simp <;> omega)) ?_; intro A2 c2 w2 ho2 hg2; have E2 : Ext wr w2 := Ext.trans_own (by (repeat (first | with_reducible exact Ext.refl _ | with_reducible assumption | ((with_reducible refine Ext.setCell ?_ ?_ _); rotate_left; focus (first | omega | (simp <;> omega))) | with_reducible refine Ext.alloc ?_ _ | with_reducible refine Ext.drewN ?_ _ | with_reducible refine Ext.drew ?_ | with_reducible refine Ext.trans ?_ (by with_reducible assumption)))) (Nat.le_refl _) (by first | exact ho1 | exact ho1.alloc _) hg2; have ez2 := E2.size; clear ho1 hg1 hg2) | (refine step_appS (base := wr.heap.size) (by rfl) _ _ 37 _ (by rfl) Try.underlying37 _ 1 8 info_int rfl (by decide) (A := A1) (n := 0 + k) (c := c1) (us := [] ++ (xs.take k).map (Value.int .i64)) (by first | rfl | (simp [go_sem]; done)) (by first | exact ho1 | exact ho1.alloc _) ⟨wr.heap.size + 1, 0, none⟩ 1 1 [.int .i64 x] (by first | rfl | (simp [go_sem]; done)) rfl (by exact box_news bx1) (by intro u hu; simp at hu; subst hu; rfl) (by omega) (by omega) (by first | omega | (simp <;> omega)) ?_; intro A2 c2 w2 ho2 hg2; have E2 : Ext wr w2 := Ext.trans_own (by (repeat (first | with_reducible exact Ext.refl _ | with_reducible assumption | ((with_reducible refine Ext.setCell ?_ ?_ _); rotate_left; focus (first | omega | (simp <;> omega))) | with_reducible refine Ext.alloc ?_ _ | with_reducible refine Ext.drewN ?_ _ | with_reducible refine Ext.drew ?_ | with_reducible refine Ext.trans ?_ (by with_reducible assumption)))) (Nat.le_refl _) (by first | exact ho1 | exact ho1.alloc _) hg2; have ez2 := E2.size; clear ho1 hg1 hg2) | (refine step_appS (base := wr.heap.size) (by rfl) _ _ 37 _ (by rfl) Try.underlying37 _ 1 8 info_int rfl (by decide) (A := A1) (n := 0 + k) (c := c1) (us := [] ++ (xs.take k).map (Value.int .i64)) (by first | rfl | (simp [go_sem]; done)) (by first | exact ho1 | exact ho1.alloc _) ⟨wr.heap.size, 0, none⟩ 1 1 [.int .i64 x] (by first | rfl | (simp [go_sem]; done)) rfl (by exact box_news bx1) (by intro u hu; simp at hu; subst hu; rfl) (by omega) (by omega) (by first | omega | (simp <;> omega)) ?_; intro A2 c2 w2 ho2 hg2; have E2 : Ext wr w2 := Ext.trans_own (by (repeat (first | with_reducible exact Ext.refl _ | with_reducible assumption | ((with_reducible refine Ext.setCell ?_ ?_ _); rotate_left; focus (first | omega | (simp <;> omega))) | with_reducible refine Ext.alloc ?_ _ | with_reducible refine Ext.drewN ?_ _ | with_reducible refine Ext.drew ?_ | with_reducible refine Ext.trans ?_ (by with_reducible assumption)))) (Nat.le_refl _) (by first | exact ho1 | exact ho1.alloc _) hg2; have ez2 := E2.size; clear ho1 hg1 hg2))
      all_goals
        obtain ⟨g3, rfl, -, -⟩ := ho3.form (by omega)
        go_wp2_with fail
        go_ret
        exact ⟨_, _, _, rfl, by rw [HP.out]; simpa using ho3.lower hbz, HE.out.trans E3⟩
end Go.Proofs.Ytcbjaomjamfjcaa
