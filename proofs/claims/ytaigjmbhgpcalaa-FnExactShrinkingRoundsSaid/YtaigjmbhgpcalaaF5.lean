/-
  The reference's l2Put; no condition.
-/
import Derived.Test.YtaigjmbhgpcalaaF4
import Derived.Test.YtaigjmbhgpcalaaP3
import Derived.Deep.RegionHeld3
import Derived.Deep.Upon

namespace Go.Proofs.Ytaigjmbhgpcalaa
set_option linter.unusedSimpArgs false
set_option linter.unusedVariables false
open Go.RowKit
section
variable {P : Program}
/-- append of nothing, as a step of a region that draws its order. -/
theorem step_appN {w : World} {ops : Array Oper} {o : Oper} {a : Act} {K : Act → World → Prop} {Q : Exit → Act → World → Prop} {E : Prop} (hgd : o.guard = none) (s x : Operand) (t e : TypeId)
    (ho : o.op = .call { callee := .builtin .append, args := #[s, x], argTypes := #[t, t] }) (ht : P.underlying t = some (.slice e))
    (z : Value) (size bytes : Nat) (hinfo : (P.info? e).map (fun i => (i.zero, i.size, i.bytes)) = some (some z, size, bytes))
    {A : Option Addr} {n c : Nat} (hs : a.eval s = .slice A n c) (hle : n ≤ c) (cx : Nat) (hx : a.eval x = .slice none 0 cx)
    (h : K (a.put o.dst (.slice A n c)) w) :
    if Region.wanted o (yielded ops a.tmps) = true then Oper.wp P o a w K Q else E := by
  obtain ⟨i, hi, hz, hsize, hby⟩ := info_parts hinfo
  have hw : Region.wanted o (yielded ops a.tmps) = true := by simp [Region.wanted, hgd]
  rw [if_pos hw]
  have hr := run_append_nothing w t t o.type e i ht hi A n c hle (.slice none 0 cx) (Src.ofNil w ht cx)
  unfold Oper.wp execOp
  simp only [ho, resolve, invoke, builtin, Sem.run_bind, Sem.run_pure, Result.andThen_ok, List.map_toArray, List.map_cons, List.map_nil, hs, hx, hr]
  exact h
end
theorem Own.capV {w : World} {base : Nat} {e : TypeId} {size : Nat} {A : Option Addr} {n c : Nat} {us : List Value} (h : Own w base e size A n c us) : n ≤ c := by
  rcases h.2 with ⟨hv, hn⟩ | ⟨g, cap, cur, hv, hb, hh, h1, h2, h3, h4⟩
  · omega
  · injection hv with e1 e2 e3
    omega
theorem box_news {w : World} {b : Nat} {t : TypeId} {v : Value} (h : BoxAt w b t #[v]) : ∀ j u, [v][j]? = some u → w.cell? ((⟨b, 0, none⟩ : Addr).add j) = some u := by
  intro j u hu
  cases j with
  | zero => simp at hu; subst hu; exact h.cell 0 _ rfl
  | succ j => simp at hu
theorem putL_at : ∀ {c : List Int} {l : Int} {k : Nat}, (∀ j y, j < k → c[j]? = some y → y.natAbs < l.natAbs) → (∀ y, c[k]? = some y → ¬ y.natAbs < l.natAbs) → k ≤ c.length → putL c l = c.take k ++ l :: c.drop k
  | [], l, k, _, _, hk => by simp at hk; subst hk; rfl
  | x :: c, l, 0, _, h2, _ => by
    have := h2 x rfl
    simp only [putL]; rw [if_neg this]; rfl
  | x :: c, l, k + 1, h1, h2, hk => by
    have hx := h1 0 x (by omega) rfl
    simp only [putL]; rw [if_pos hx, putL_at (c := c) (l := l) (k := k) (fun j y hj hy => h1 (j + 1) y (by omega) (by simpa using hy)) (fun y hy => h2 y (by simpa using hy)) (by simpa using hk)]
    rfl
theorem Ints.take {w : World} {A : Option Addr} {n : Nat} {xs : List Int} (h : Ints w A n xs) {k : Nat} (hk : k ≤ n) : Ints w A k (xs.take k) := by
  refine ⟨by rw [List.length_take]; have := h.len; omega, by have := h.bound; omega, fun hne => ?_⟩
  rcases Nat.eq_zero_or_pos k with h0 | h0
  · subst h0; exact absurd rfl hne
  · obtain ⟨ad, x, rfl, -, -⟩ := h.at_ (k := 0) (by omega)
    refine ⟨ad, rfl, fun j u hu => h.cells j u ?_⟩
    rw [List.map_take, List.getElem?_take] at hu
    split at hu
    · exact hu
    · cases hu
theorem Ints.cells_drop {w : World} {ad : Addr} {n : Nat} {xs : List Int} (h : Ints w (some ad) n xs) (k : Nat) : ∀ j u, ((xs.drop k).map (Value.int .i64))[j]? = some u → w.cell? ((ad.add k).add j) = some u := by
  intro j u hu
  rw [List.map_drop, List.getElem?_drop] at hu
  rw [addr_addP]
  exact h.cells _ u hu
set_option maxRecDepth 100000 in
set_option maxHeartbeats 6400000 in
theorem l2Put_o (A : Option Addr) (n d : Nat) (c : List Int) (l : Int) (w : World) (h : Ints w A n c) (hd : n ≤ d) (hn : n ≤ 200) (hc : Small c) (hl : -12 ≤ l ∧ l ≤ 12) :
    Calls Try.prog 78 #[.slice A n d, .int .i64 l] w fun e w' => ∃ A' m' c', e = .returned (.slice A' m' c') ∧ Own w' w.heap.size 3 1 A' m' c' ((putL c l).map (Value.int .i64)) ∧ Ext w w' := by
  have HC := hide hc
  have HL := hide h.len
  have hal := absW_small hl
  have HVL := hide (fun W => l2Var_c l W)
  rw [hal] at HVL
  obtain ⟨al, hal2⟩ : ∃ al : Int, al = (l.natAbs : Int) := ⟨_, rfl⟩
  rw [← hal2] at HVL
  have HAL := hide hal2
  clear hc hal hal2
  go_enter Try.func78, Try.ntmps78
  go_wp2_with fail
  refine wp_loopK _ rfl (fun KK acT wr => ∃ s0 s1 s2 s3 s4 s5 s6 s7 s8 s9 s10 s11 s12 s13 s14 s15 s16 s17 s18 s19 s20 s21 s22 s23 s24 s25 s26 s27 s28 s29 s30 s31 s32 : Value, (KeptM [true, true, false, false, true, false, false, false, false, false, false, false, false, false, false, false, false, false, false, false, false, false, true, true, true, true, true, true, true, true, true, true, true] [s0, s1, s2, s3, s4, s5, s6, s7, s8, s9, s10, s11, s12, s13, s14, s15, s16, s17, s18, s19, s20, s21, s22, s23, s24, s25, s26, s27, s28, s29, s30, s31, s32] KK ∧ (Ext w wr ∧ ∃ k : Nat, k ≤ n ∧ s5 = .int .i64 k ∧ Hid (∀ j y, j < k → c[j]? = some y → y.natAbs < l.natAbs))) ∧ acT = ⟨#[s0, s1, s2, s3, s4, s5, s6, s7, s8, s9, s10, s11, s12, s13, s14, s15, s16, s17, s18, s19, s20, s21, s22, s23, s24, s25, s26, s27, s28, s29, s30, s31, s32], []⟩) (fun acT wr => (fun (s5 : Value) (wr : World) => n - (intOf s5).toNat) (acT.tmps.getD 5 undef) wr) ?_ ?_
  · (refine ⟨_, _, _, _, _, _, _, _, _, _, _, _, _, _, _, _, _, _, _, _, _, _, _, _, _, _, _, _, _, _, _, _, _, ⟨(by (repeat (first | exact trivial | refine ⟨rfl, ?_⟩))), ?_⟩, rfl⟩; exact ⟨Ext.refl _, 0, by omega, rfl, hide (fun j y hj => by omega)⟩)
  intro _ wr hinv; obtain ⟨s0, s1, s2, s3, s4, s5, s6, s7, s8, s9, s10, s11, s12, s13, s14, s15, s16, s17, s18, s19, s20, s21, s22, s23, s24, s25, s26, s27, s28, s29, s30, s31, s32, ⟨hkept, hrel⟩, rfl⟩ := hinv; simp only [KeptM] at hkept; obtain ⟨rfl, rfl, rfl, rfl, rfl, rfl, rfl, rfl, rfl, rfl, rfl, rfl, rfl, rfl, -⟩ := hkept; (try dsimp only)
  obtain ⟨he, k, hk, hs1, hlow⟩ := hrel
  subst hs1
  have HE := hide he
  have HZ := hide he.size
  have hO : ∀ W, Ext wr W → Calls Try.prog 63 #[.slice A k d] W fun e w' => ∃ A' c', e = .returned (.slice A' k c') ∧ Own w' W.heap.size 3 1 A' k c' ((c.take k).map (Value.int .i64)) ∧ Ext W w' := fun W E => l1Own_c A k d (c.take k) W ((h.take hk).ext (he.trans E)) (by omega)
  have HO := hide hO
  clear hO
  have hk2 : (k : Int) ≤ (d : Int) := by omega
  by_cases hlt : k < n
  · obtain ⟨ad, y, rfl, hy, gy⟩ := (h.ext he).at_ hlt
    have hyb := HC.out y (List.mem_of_getElem? hy.out)
    have HVY := hide (fun W => l2Var_c y W)
    rw [absW_small hyb] at HVY
    by_cases hyx : y.natAbs < l.natAbs
    · have hlow' : Hid (∀ j y, j < k + 1 → c[j]? = some y → y.natAbs < l.natAbs) := hide (fun j z hj hz => by
        by_cases hjk : j = k
        · subst hjk; rw [hy.out] at hz; injection hz with hz; subst hz; exact hyx
        · exact hlow.out j z (by omega) hz)
      have hcmp : (y.natAbs : Int) < al := by rw [HAL.out]; omega
      generalize (y.natAbs : Int) = ay at HVY hcmp
      clear hlow hy he HO hyx
      go_wp2_with (first | (go_at_call 75; (with_reducible refine (HVY.out _).mono ?_); rintro e w1 ⟨rfl, rfl⟩) | (go_at_call 75; (with_reducible refine (HVL.out _).mono ?_); rintro e w1 ⟨rfl, rfl⟩))
      exact ⟨⟨(by (repeat (first | exact trivial | refine ⟨rfl, ?_⟩))), HE.out, k + 1, by omega, by go_num, hlow'⟩, (by simp [intOf] <;> omega)⟩
    · have hpt := putL_at (c := c) (l := l) (k := k) hlow.out (fun z hz => by rw [hy.out] at hz; injection hz with hz; subst hz; exact hyx) (by have := HL.out; omega)
      have HP := hide hpt
      have HX := hide ((h.ext he).cells_drop k)
      have hcmp : ¬ (y.natAbs : Int) < al := by rw [HAL.out]; omega
      generalize (y.natAbs : Int) = ay at HVY hcmp
      have hck : ¬ (d = k) := by omega
      have hk3 : (k : Int) ≤ (n : Int) := by omega
      have hcl : c.length = n := HL.out.symm
      clear hlow hy he hyx hpt
      go_wp2_with (first | (go_at_call 75; (with_reducible refine (HVY.out _).mono ?_); rintro e w1 ⟨rfl, rfl⟩) | (go_at_call 75; (with_reducible refine (HVL.out _).mono ?_); rintro e w1 ⟨rfl, rfl⟩))
      have HB3 : Hid (BoxAt ((wr.alloc (.cells #[.int .i64 l] 3)).drew) wr.heap.size 3 #[.int .i64 l]) := hide ((BoxAt.made wr #[.int .i64 l] 3).ext (Ext.refl _).drew)
      go_region_held3 (fun w' => True) (trivial) (first | (refine step_appS (base := wr.heap.size) (by rfl) _ _ 35 _ (by rfl) Try.underlying35 _ 1 8 info_int rfl (by decide) (A := A2) (n := k + 1) (c := c2) (us := (c.take k).map (Value.int .i64) ++ [.int .i64 l]) (by first | rfl | (simp [go_sem]; done) | (simp [go_sem, *]; done)) ho2 (ad.add k) (n - k) _ ((c.drop k).map (Value.int .i64)) (by first | rfl | (simp [go_sem]; done) | (simp [go_sem, *]; done)) (by simp; omega) (by exact fun j u hu => E2.cell (HX.out j u hu)) (one_cells _) (by omega) (by omega) (by omega) ?_; intro A3 c3 w3 ho3 hg3; have E3 : Ext wr w3 := E2.trans_own (Nat.le_refl _) ho2 hg3; clear ho2 hg3) | (go_at_call 63; (with_reducible refine (HO.out _ (by (repeat (first | with_reducible exact Ext.refl _ | with_reducible assumption | ((with_reducible refine Ext.setCell ?_ ?_ _); rotate_left; focus (first | omega | (simp <;> omega))) | with_reducible refine Ext.alloc ?_ _ | with_reducible refine Ext.drewN ?_ _ | with_reducible refine Ext.drew ?_ | with_reducible refine Ext.trans ?_ (by with_reducible assumption))))).mono ?_); rintro e w1 ⟨A1, c1, rfl, ho1, he1⟩; replace ho1 := ho1.lower (base' := wr.heap.size) (by simp); have E1 : Ext wr w1 := Ext.trans (by (repeat (first | with_reducible exact Ext.refl _ | with_reducible assumption | ((with_reducible refine Ext.setCell ?_ ?_ _); rotate_left; focus (first | omega | (simp <;> omega))) | with_reducible refine Ext.alloc ?_ _ | with_reducible refine Ext.drewN ?_ _ | with_reducible refine Ext.drew ?_ | with_reducible refine Ext.trans ?_ (by with_reducible assumption)))) he1; have ez1 := E1.size; (first | (have bx1 : BoxAt w1 wr.heap.size 3 #[.int .i64 l] := BoxAt.ext HB3.out he1) | skip)) | (refine step_appS (base := wr.heap.size) (by rfl) _ _ 35 _ (by rfl) Try.underlying35 _ 1 8 info_int rfl (by decide) (A := A1) (n := k) (c := c1) (us := (c.take k).map (Value.int .i64)) (by first | rfl | (simp [go_sem]; done) | (simp [go_sem, *]; done)) (by first | exact ho1 | exact ho1.alloc _) ⟨w1.heap.size, 0, none⟩ 1 1 [.int .i64 l] (by first | rfl | (simp [go_sem]; done) | (simp [go_sem, *]; done)) rfl (by exact box_news (BoxAt.made _ _ _)) (by intro u hu; simp at hu; subst hu; rfl) (by omega) (by omega) (by first | omega | (simp <;> omega)) ?_; intro A2 c2 w2 ho2 hg2; have E2 : Ext wr w2 := Ext.trans_own (by (repeat (first | with_reducible exact Ext.refl _ | with_reducible assumption | ((with_reducible refine Ext.setCell ?_ ?_ _); rotate_left; focus (first | omega | (simp <;> omega))) | with_reducible refine Ext.alloc ?_ _ | with_reducible refine Ext.drewN ?_ _ | with_reducible refine Ext.drew ?_ | with_reducible refine Ext.trans ?_ (by with_reducible assumption)))) (Nat.le_refl _) (by first | exact ho1 | exact ho1.alloc _) hg2; have ez2 := E2.size; clear ho1 hg2) | (refine step_appS (base := wr.heap.size) (by rfl) _ _ 35 _ (by rfl) Try.underlying35 _ 1 8 info_int rfl (by decide) (A := A1) (n := k) (c := c1) (us := (c.take k).map (Value.int .i64)) (by first | rfl | (simp [go_sem]; done) | (simp [go_sem, *]; done)) (by first | exact ho1 | exact ho1.alloc _) ⟨wr.heap.size, 0, none⟩ 1 1 [.int .i64 l] (by first | rfl | (simp [go_sem]; done) | (simp [go_sem, *]; done)) rfl (by exact box_news bx1) (by intro u hu; simp at hu; subst hu; rfl) (by omega) (by omega) (by first | omega | (simp <;> omega)) ?_; intro A2 c2 w2 ho2 hg2; have E2 : Ext wr w2 := Ext.trans_own (by (repeat (first | with_reducible exact Ext.refl _ | with_reducible assumption | ((with_reducible refine Ext.setCell ?_ ?_ _); rotate_left; focus (first | omega | (simp <;> omega))) | with_reducible refine Ext.alloc ?_ _ | with_reducible refine Ext.drewN ?_ _ | with_reducible refine Ext.drew ?_ | with_reducible refine Ext.trans ?_ (by with_reducible assumption)))) (Nat.le_refl _) (by first | exact ho1 | exact ho1.alloc _) hg2; have ez2 := E2.size; clear ho1 hg2))
      all_goals
        go_wp2_with fail
        go_ret
        exact ⟨_, _, _, rfl, by rw [HP.out]; simpa using ho3.lower HZ.out, HE.out.trans E3⟩
  · obtain rfl : k = n := by omega
    have hpt := putL_at (c := c) (l := l) (k := k) hlow.out (fun z hz => by rw [List.getElem?_eq_none (by have := HL.out; omega)] at hz; cases hz) (by have := HL.out; omega)
    have HP := hide hpt
    have hcl : c.length = k := HL.out.symm
    cases A with
    | none =>
      have hn0 : k = 0 := by
        rcases Nat.eq_zero_or_pos k with h1 | h1
        · exact h1
        · obtain ⟨ad', y, e, -, -⟩ := h.at_ h1; cases e
      have hc0 : c.drop k = [] := List.drop_eq_nil_of_le (by omega)
      rw [hc0] at hpt
      have HP := hide hpt
      clear hlow he hpt hn0 hc0
      go_wp2_with fail
      have HB3 : Hid (BoxAt ((wr.alloc (.cells #[.int .i64 l] 3)).drew) wr.heap.size 3 #[.int .i64 l]) := hide ((BoxAt.made wr #[.int .i64 l] 3).ext (Ext.refl _).drew)
      go_region_held3 (fun w' => True) (trivial) (first | (refine step_appN (by rfl) _ _ 35 _ (by rfl) Try.underlying35 _ 1 8 info_int (A := A2) (n := k + 1) (c := c2) (by first | rfl | (simp [go_sem]; done) | (simp [go_sem, *]; done)) ho2.capV _ (by first | rfl | (simp [go_sem]; done) | (simp [go_sem, *]; done)) ?_) | (go_at_call 63; (with_reducible refine (HO.out _ (by (repeat (first | with_reducible exact Ext.refl _ | with_reducible assumption | ((with_reducible refine Ext.setCell ?_ ?_ _); rotate_left; focus (first | omega | (simp <;> omega))) | with_reducible refine Ext.alloc ?_ _ | with_reducible refine Ext.drewN ?_ _ | with_reducible refine Ext.drew ?_ | with_reducible refine Ext.trans ?_ (by with_reducible assumption))))).mono ?_); rintro e w1 ⟨A1, c1, rfl, ho1, he1⟩; replace ho1 := ho1.lower (base' := wr.heap.size) (by simp); have E1 : Ext wr w1 := Ext.trans (by (repeat (first | with_reducible exact Ext.refl _ | with_reducible assumption | ((with_reducible refine Ext.setCell ?_ ?_ _); rotate_left; focus (first | omega | (simp <;> omega))) | with_reducible refine Ext.alloc ?_ _ | with_reducible refine Ext.drewN ?_ _ | with_reducible refine Ext.drew ?_ | with_reducible refine Ext.trans ?_ (by with_reducible assumption)))) he1; have ez1 := E1.size; (first | (have bx1 : BoxAt w1 wr.heap.size 3 #[.int .i64 l] := BoxAt.ext HB3.out he1) | skip)) | (refine step_appS (base := wr.heap.size) (by rfl) _ _ 35 _ (by rfl) Try.underlying35 _ 1 8 info_int rfl (by decide) (A := A1) (n := k) (c := c1) (us := (c.take k).map (Value.int .i64)) (by first | rfl | (simp [go_sem]; done) | (simp [go_sem, *]; done)) (by first | exact ho1 | exact ho1.alloc _) ⟨w1.heap.size, 0, none⟩ 1 1 [.int .i64 l] (by first | rfl | (simp [go_sem]; done) | (simp [go_sem, *]; done)) rfl (by exact box_news (BoxAt.made _ _ _)) (by intro u hu; simp at hu; subst hu; rfl) (by omega) (by omega) (by first | omega | (simp <;> omega)) ?_; intro A2 c2 w2 ho2 hg2; have E2 : Ext wr w2 := Ext.trans_own (by (repeat (first | with_reducible exact Ext.refl _ | with_reducible assumption | ((with_reducible refine Ext.setCell ?_ ?_ _); rotate_left; focus (first | omega | (simp <;> omega))) | with_reducible refine Ext.alloc ?_ _ | with_reducible refine Ext.drewN ?_ _ | with_reducible refine Ext.drew ?_ | with_reducible refine Ext.trans ?_ (by with_reducible assumption)))) (Nat.le_refl _) (by first | exact ho1 | exact ho1.alloc _) hg2; have ez2 := E2.size; clear ho1 hg2) | (refine step_appS (base := wr.heap.size) (by rfl) _ _ 35 _ (by rfl) Try.underlying35 _ 1 8 info_int rfl (by decide) (A := A1) (n := k) (c := c1) (us := (c.take k).map (Value.int .i64)) (by first | rfl | (simp [go_sem]; done) | (simp [go_sem, *]; done)) (by first | exact ho1 | exact ho1.alloc _) ⟨wr.heap.size, 0, none⟩ 1 1 [.int .i64 l] (by first | rfl | (simp [go_sem]; done) | (simp [go_sem, *]; done)) rfl (by exact box_news bx1) (by intro u hu; simp at hu; subst hu; rfl) (by omega) (by omega) (by first | omega | (simp <;> omega)) ?_; intro A2 c2 w2 ho2 hg2; have E2 : Ext wr w2 := Ext.trans_own (by (repeat (first | with_reducible exact Ext.refl _ | with_reducible assumption | ((with_reducible refine Ext.setCell ?_ ?_ _); rotate_left; focus (first | omega | (simp <;> omega))) | with_reducible refine Ext.alloc ?_ _ | with_reducible refine Ext.drewN ?_ _ | with_reducible refine Ext.drew ?_ | with_reducible refine Ext.trans ?_ (by with_reducible assumption)))) (Nat.le_refl _) (by first | exact ho1 | exact ho1.alloc _) hg2; have ez2 := E2.size; clear ho1 hg2))
      all_goals
        go_wp2_with fail
        go_ret
        exact ⟨_, _, _, rfl, by rw [HP.out]; simpa using ho2.lower HZ.out, HE.out.trans E2⟩
    | some ad =>
      have HX : Hid (∀ (ad' : Addr) j u, ((c.drop k).map (Value.int .i64))[j]? = some u → wr.cell? (ad'.add j) = some u) := hide (fun ad' j u hu => by rw [List.drop_eq_nil_of_le (by omega)] at hu; simp at hu)
      clear hlow he hpt
      by_cases hck : d = k
      · have hck2 : k = d := hck.symm
        subst hck2
        clear hck
        replace HX := hide (HX.out ad)
        go_wp2_with fail
        have HB3 : Hid (BoxAt ((wr.alloc (.cells #[.int .i64 l] 3)).drew) wr.heap.size 3 #[.int .i64 l]) := hide ((BoxAt.made wr #[.int .i64 l] 3).ext (Ext.refl _).drew)
        go_region_held3 (fun w' => True) (trivial) (first | (refine step_appS (base := wr.heap.size) (by rfl) _ _ 35 _ (by rfl) Try.underlying35 _ 1 8 info_int rfl (by decide) (A := A2) (n := k + 1) (c := c2) (us := (c.take k).map (Value.int .i64) ++ [.int .i64 l]) (by first | rfl | (simp [go_sem]; done) | (simp [go_sem, *]; done)) ho2 ad 0 _ ((c.drop k).map (Value.int .i64)) (by first | rfl | (simp [go_sem]; done) | (simp [go_sem, *]; done)) (by simp; omega) (by exact fun j u hu => E2.cell (HX.out j u hu)) (one_cells _) (by omega) (by omega) (by omega) ?_; intro A3 c3 w3 ho3 hg3; have E3 : Ext wr w3 := E2.trans_own (Nat.le_refl _) ho2 hg3; clear ho2 hg3) | (go_at_call 63; (with_reducible refine (HO.out _ (by (repeat (first | with_reducible exact Ext.refl _ | with_reducible assumption | ((with_reducible refine Ext.setCell ?_ ?_ _); rotate_left; focus (first | omega | (simp <;> omega))) | with_reducible refine Ext.alloc ?_ _ | with_reducible refine Ext.drewN ?_ _ | with_reducible refine Ext.drew ?_ | with_reducible refine Ext.trans ?_ (by with_reducible assumption))))).mono ?_); rintro e w1 ⟨A1, c1, rfl, ho1, he1⟩; replace ho1 := ho1.lower (base' := wr.heap.size) (by simp); have E1 : Ext wr w1 := Ext.trans (by (repeat (first | with_reducible exact Ext.refl _ | with_reducible assumption | ((with_reducible refine Ext.setCell ?_ ?_ _); rotate_left; focus (first | omega | (simp <;> omega))) | with_reducible refine Ext.alloc ?_ _ | with_reducible refine Ext.drewN ?_ _ | with_reducible refine Ext.drew ?_ | with_reducible refine Ext.trans ?_ (by with_reducible assumption)))) he1; have ez1 := E1.size; (first | (have bx1 : BoxAt w1 wr.heap.size 3 #[.int .i64 l] := BoxAt.ext HB3.out he1) | skip)) | (refine step_appS (base := wr.heap.size) (by rfl) _ _ 35 _ (by rfl) Try.underlying35 _ 1 8 info_int rfl (by decide) (A := A1) (n := k) (c := c1) (us := (c.take k).map (Value.int .i64)) (by first | rfl | (simp [go_sem]; done) | (simp [go_sem, *]; done)) (by first | exact ho1 | exact ho1.alloc _) ⟨w1.heap.size, 0, none⟩ 1 1 [.int .i64 l] (by first | rfl | (simp [go_sem]; done) | (simp [go_sem, *]; done)) rfl (by exact box_news (BoxAt.made _ _ _)) (by intro u hu; simp at hu; subst hu; rfl) (by omega) (by omega) (by first | omega | (simp <;> omega)) ?_; intro A2 c2 w2 ho2 hg2; have E2 : Ext wr w2 := Ext.trans_own (by (repeat (first | with_reducible exact Ext.refl _ | with_reducible assumption | ((with_reducible refine Ext.setCell ?_ ?_ _); rotate_left; focus (first | omega | (simp <;> omega))) | with_reducible refine Ext.alloc ?_ _ | with_reducible refine Ext.drewN ?_ _ | with_reducible refine Ext.drew ?_ | with_reducible refine Ext.trans ?_ (by with_reducible assumption)))) (Nat.le_refl _) (by first | exact ho1 | exact ho1.alloc _) hg2; have ez2 := E2.size; clear ho1 hg2) | (refine step_appS (base := wr.heap.size) (by rfl) _ _ 35 _ (by rfl) Try.underlying35 _ 1 8 info_int rfl (by decide) (A := A1) (n := k) (c := c1) (us := (c.take k).map (Value.int .i64)) (by first | rfl | (simp [go_sem]; done) | (simp [go_sem, *]; done)) (by first | exact ho1 | exact ho1.alloc _) ⟨wr.heap.size, 0, none⟩ 1 1 [.int .i64 l] (by first | rfl | (simp [go_sem]; done) | (simp [go_sem, *]; done)) rfl (by exact box_news bx1) (by intro u hu; simp at hu; subst hu; rfl) (by omega) (by omega) (by first | omega | (simp <;> omega)) ?_; intro A2 c2 w2 ho2 hg2; have E2 : Ext wr w2 := Ext.trans_own (by (repeat (first | with_reducible exact Ext.refl _ | with_reducible assumption | ((with_reducible refine Ext.setCell ?_ ?_ _); rotate_left; focus (first | omega | (simp <;> omega))) | with_reducible refine Ext.alloc ?_ _ | with_reducible refine Ext.drewN ?_ _ | with_reducible refine Ext.drew ?_ | with_reducible refine Ext.trans ?_ (by with_reducible assumption)))) (Nat.le_refl _) (by first | exact ho1 | exact ho1.alloc _) hg2; have ez2 := E2.size; clear ho1 hg2))
        all_goals
          go_wp2_with fail
          go_ret
          exact ⟨_, _, _, rfl, by rw [HP.out]; simpa using ho3.lower HZ.out, HE.out.trans E3⟩
      · replace HX := hide (HX.out (ad.add k))
        go_wp2_with fail
        have HB3 : Hid (BoxAt ((wr.alloc (.cells #[.int .i64 l] 3)).drew) wr.heap.size 3 #[.int .i64 l]) := hide ((BoxAt.made wr #[.int .i64 l] 3).ext (Ext.refl _).drew)
        go_region_held3 (fun w' => True) (trivial) (first | (refine step_appS (base := wr.heap.size) (by rfl) _ _ 35 _ (by rfl) Try.underlying35 _ 1 8 info_int rfl (by decide) (A := A2) (n := k + 1) (c := c2) (us := (c.take k).map (Value.int .i64) ++ [.int .i64 l]) (by first | rfl | (simp [go_sem]; done) | (simp [go_sem, *]; done)) ho2 (ad.add k) 0 _ ((c.drop k).map (Value.int .i64)) (by first | rfl | (simp [go_sem]; done) | (simp [go_sem, *]; done)) (by simp; omega) (by exact fun j u hu => E2.cell (HX.out j u hu)) (one_cells _) (by omega) (by omega) (by omega) ?_; intro A3 c3 w3 ho3 hg3; have E3 : Ext wr w3 := E2.trans_own (Nat.le_refl _) ho2 hg3; clear ho2 hg3) | (go_at_call 63; (with_reducible refine (HO.out _ (by (repeat (first | with_reducible exact Ext.refl _ | with_reducible assumption | ((with_reducible refine Ext.setCell ?_ ?_ _); rotate_left; focus (first | omega | (simp <;> omega))) | with_reducible refine Ext.alloc ?_ _ | with_reducible refine Ext.drewN ?_ _ | with_reducible refine Ext.drew ?_ | with_reducible refine Ext.trans ?_ (by with_reducible assumption))))).mono ?_); rintro e w1 ⟨A1, c1, rfl, ho1, he1⟩; replace ho1 := ho1.lower (base' := wr.heap.size) (by simp); have E1 : Ext wr w1 := Ext.trans (by (repeat (first | with_reducible exact Ext.refl _ | with_reducible assumption | ((with_reducible refine Ext.setCell ?_ ?_ _); rotate_left; focus (first | omega | (simp <;> omega))) | with_reducible refine Ext.alloc ?_ _ | with_reducible refine Ext.drewN ?_ _ | with_reducible refine Ext.drew ?_ | with_reducible refine Ext.trans ?_ (by with_reducible assumption)))) he1; have ez1 := E1.size; (first | (have bx1 : BoxAt w1 wr.heap.size 3 #[.int .i64 l] := BoxAt.ext HB3.out he1) | skip)) | (refine step_appS (base := wr.heap.size) (by rfl) _ _ 35 _ (by rfl) Try.underlying35 _ 1 8 info_int rfl (by decide) (A := A1) (n := k) (c := c1) (us := (c.take k).map (Value.int .i64)) (by first | rfl | (simp [go_sem]; done) | (simp [go_sem, *]; done)) (by first | exact ho1 | exact ho1.alloc _) ⟨w1.heap.size, 0, none⟩ 1 1 [.int .i64 l] (by first | rfl | (simp [go_sem]; done) | (simp [go_sem, *]; done)) rfl (by exact box_news (BoxAt.made _ _ _)) (by intro u hu; simp at hu; subst hu; rfl) (by omega) (by omega) (by first | omega | (simp <;> omega)) ?_; intro A2 c2 w2 ho2 hg2; have E2 : Ext wr w2 := Ext.trans_own (by (repeat (first | with_reducible exact Ext.refl _ | with_reducible assumption | ((with_reducible refine Ext.setCell ?_ ?_ _); rotate_left; focus (first | omega | (simp <;> omega))) | with_reducible refine Ext.alloc ?_ _ | with_reducible refine Ext.drewN ?_ _ | with_reducible refine Ext.drew ?_ | with_reducible refine Ext.trans ?_ (by with_reducible assumption)))) (Nat.le_refl _) (by first | exact ho1 | exact ho1.alloc _) hg2; have ez2 := E2.size; clear ho1 hg2) | (refine step_appS (base := wr.heap.size) (by rfl) _ _ 35 _ (by rfl) Try.underlying35 _ 1 8 info_int rfl (by decide) (A := A1) (n := k) (c := c1) (us := (c.take k).map (Value.int .i64)) (by first | rfl | (simp [go_sem]; done) | (simp [go_sem, *]; done)) (by first | exact ho1 | exact ho1.alloc _) ⟨wr.heap.size, 0, none⟩ 1 1 [.int .i64 l] (by first | rfl | (simp [go_sem]; done) | (simp [go_sem, *]; done)) rfl (by exact box_news bx1) (by intro u hu; simp at hu; subst hu; rfl) (by omega) (by omega) (by first | omega | (simp <;> omega)) ?_; intro A2 c2 w2 ho2 hg2; have E2 : Ext wr w2 := Ext.trans_own (by (repeat (first | with_reducible exact Ext.refl _ | with_reducible assumption | ((with_reducible refine Ext.setCell ?_ ?_ _); rotate_left; focus (first | omega | (simp <;> omega))) | with_reducible refine Ext.alloc ?_ _ | with_reducible refine Ext.drewN ?_ _ | with_reducible refine Ext.drew ?_ | with_reducible refine Ext.trans ?_ (by with_reducible assumption)))) (Nat.le_refl _) (by first | exact ho1 | exact ho1.alloc _) hg2; have ez2 := E2.size; clear ho1 hg2))
        all_goals
          go_wp2_with fail
          go_ret
          exact ⟨_, _, _, rfl, by rw [HP.out]; simpa using ho3.lower HZ.out, HE.out.trans E3⟩
end Go.Proofs.Ytaigjmbhgpcalaa
