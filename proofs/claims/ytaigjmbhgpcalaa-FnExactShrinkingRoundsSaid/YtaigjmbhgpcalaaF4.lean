/-
  The reference's clause without a variable and with a literal put to its place; no condition.
-/
import Derived.Test.YtaigjmbhgpcalaaF3
import Derived.Lib.SliceRun

namespace Go.Proofs.Ytaigjmbhgpcalaa
set_option linter.unusedSimpArgs false
set_option linter.unusedVariables false
open Go.RowKit

section
variable {P : Program}
/-- append of a slice that lies in memory. -/
theorem wpList_appA {w0 : World} {ops : Array Oper} {rest : List Oper} {o : Oper} {a : Act} {Q : Exit → Act → World → Prop} (hgd : o.guard = none) (s x : Operand) (t e : TypeId)
    (ho : o.op = .call { callee := .builtin .append, args := #[s, x], argTypes := #[t, t] }) (ht : P.underlying t = some (.slice e))
    (z : Value) (size bytes : Nat) (hinfo : (P.info? e).map (fun i => (i.zero, i.size, i.bytes)) = some (some z, size, bytes)) (hzs : z.cells.size = size) (hsz : 0 < size)
    {base : Nat} {A : Option Addr} {n c : Nat} {us : List Value} (hs : a.eval s = .slice A n c) (hown : Own w0 base e size A n c us)
    (ad : Addr) (m cx : Nat) (news : List Value) (hx : a.eval x = .slice (some ad) m cx) (hl : news.length = m * size) (hcell : ∀ j u, news[j]? = some u → w0.cell? (ad.add j) = some u) (h1 : ∀ u ∈ news, u.oneCell' = true)
    (h63 : n + m ≤ 140737488355328) (hbytes : (n + m) * bytes ≤ 140737488355328) (hbase : base ≤ w0.heap.size)
    (h : ∀ A' c' w', Own w' base e size A' (n + m) c' (us ++ news) → w0.grownBy w' (Value.slice A n c).ownBlock → wpList P ops Q rest (a.put o.dst (.slice A' (n + m) c')) w') :
    wpList P ops Q (o :: rest) a w0 := by
  obtain ⟨i, hi, hz, hsize, hby⟩ := info_parts hinfo
  refine wpList_append_own_at w0 hgd s x t ho base e i z size bytes ht hi hz hsize hby hzs hsz _ n us hs hown ad m cx news hx hl
    hcell h1 (by simp only [maxLen]; omega) hbytes hbase ?_
  · intro v' w' h2 h3 _ h5
    have hv : ∃ A' c', v' = .slice A' (n + m) c' := by
      rcases h2.2 with ⟨rfl, h0⟩ | ⟨g, cap, cur, rfl, _⟩
      · exact ⟨none, 0, by rw [h0]⟩
      · exact ⟨_, _, rfl⟩
    obtain ⟨A', c', rfl⟩ := hv
    exact h A' c' w' h2 h3
/-- append, as a step of a region that draws its order, of a slice that lies in memory. -/
theorem step_appS {w : World} {ops : Array Oper} {o : Oper} {a : Act} {K : Act → World → Prop} {Q : Exit → Act → World → Prop} {E : Prop} (hgd : o.guard = none) (s x : Operand) (t e : TypeId)
    (ho : o.op = .call { callee := .builtin .append, args := #[s, x], argTypes := #[t, t] }) (ht : P.underlying t = some (.slice e))
    (z : Value) (size bytes : Nat) (hinfo : (P.info? e).map (fun i => (i.zero, i.size, i.bytes)) = some (some z, size, bytes)) (hzs : z.cells.size = size) (hsz : 0 < size)
    {base : Nat} {A : Option Addr} {n c : Nat} {us : List Value} (hs : a.eval s = .slice A n c) (hown : Own w base e size A n c us)
    (ad : Addr) (m mx : Nat) (news : List Value) (hx : a.eval x = .slice (some ad) m mx) (hl : news.length = m * size) (hnews : ∀ j u, news[j]? = some u → w.cell? (ad.add j) = some u) (h1 : ∀ u ∈ news, u.oneCell' = true)
    (h63 : n + m ≤ 140737488355328) (hbytes : (n + m) * bytes ≤ 140737488355328) (hbase : base ≤ w.heap.size)
    (h : ∀ A' c' w', Own w' base e size A' (n + m) c' (us ++ news) → w.grownBy w' (Value.slice A n c).ownBlock → K (a.put o.dst (.slice A' (n + m) c')) w') :
    if Region.wanted o (yielded ops a.tmps) = true then Oper.wp P o a w K Q else E := by
  obtain ⟨i, hi, hz, hsize, hby⟩ := info_parts hinfo
  have hw : Region.wanted o (yielded ops a.tmps) = true := by simp [Region.wanted, hgd]
  rw [if_pos hw]
  obtain ⟨v', w', hr, h2, h3, _, _⟩ := run_append_own_at (P := P) w base t o.type e i z size bytes ht hi hz hsize hby hzs hsz _ n us hown ad m mx news hl hnews h1 (by simp only [maxLen]; omega) hbytes hbase
  have hv : ∃ A' c', v' = .slice A' (n + m) c' := by
    rcases h2.2 with ⟨rfl, h0⟩ | ⟨g, cap, cur, rfl, _⟩
    · exact ⟨none, 0, by rw [h0]⟩
    · exact ⟨_, _, rfl⟩
  obtain ⟨A', c', rfl⟩ := hv
  unfold Oper.wp execOp
  simp only [ho, resolve, invoke, builtin, Sem.run_bind, Sem.run_pure, Result.andThen_ok, List.map_toArray, List.map_cons, List.map_nil, hs, hx, hr]
  exact h A' c' w' h2 h3
end
theorem one_cells (xs : List Int) : ∀ u ∈ xs.map (Value.int .i64), u.oneCell' = true := by
  intro u hu
  obtain ⟨x, _, rfl⟩ := List.mem_map.1 hu
  rfl
/-- The cells of ints at an address. -/
theorem Ints.cells {w : World} {ad : Addr} {n : Nat} {xs : List Int} (h : Ints w (some ad) n xs) : ∀ j u, (xs.map (Value.int .i64))[j]? = some u → w.cell? (ad.add j) = some u := by
  intro j u hu
  rw [List.getElem?_map] at hu
  cases hx : xs[j]? with
  | none => rw [hx] at hu; cases hu
  | some x =>
    rw [hx] at hu
    simp at hu
    subst hu
    have hj := (List.getElem?_eq_some_iff.1 hx).1
    obtain ⟨ad', y, e, hy, hc⟩ := h.at_ (k := j) (by have := h.len; omega)
    injection e with e
    subst e
    have := hy.out
    rw [hx] at this
    injection this with this
    subst this
    exact hc
set_option maxRecDepth 100000 in
set_option maxHeartbeats 800000 in
theorem l1Own_c (A : Option Addr) (n c : Nat) (xs : List Int) (w : World) (h : Ints w A n xs) (hn : n ≤ 1048576) :
    Calls Try.prog 63 #[.slice A n c] w fun e w' => ∃ A' c', e = .returned (.slice A' n c') ∧ Own w' w.heap.size 3 1 A' n c' (xs.map (Value.int .i64)) ∧ Ext w w' := by
  have HL := hide h.len
  have h0 : Own (w.alloc (.cells #[] 3)) w.heap.size 3 1 (some ⟨w.heap.size, 0, none⟩) 0 0 [] := Own.arr #[] 0 [] (Nat.le_refl _) (by decide) rfl rfl
  cases A with
  | none =>
    have hn0 : n = 0 := by
      rcases Nat.eq_zero_or_pos n with h1 | h1
      · exact h1
      · obtain ⟨ad', y, e, -, -⟩ := h.at_ h1; cases e
    subst hn0
    have hx0 : xs = [] := List.eq_nil_of_length_eq_zero HL.out.symm
    subst hx0
    have H0 := hide h0
    clear h0 HL
    go_enter Try.func63, Try.ntmps63
    go_wp2_with fail
    go_ret
    exact ⟨_, _, rfl, H0.out, by (repeat (first | with_reducible exact Ext.refl _ | with_reducible assumption | ((with_reducible refine Ext.setCell ?_ ?_ _); rotate_left; focus (first | omega | (simp <;> omega))) | with_reducible refine Ext.alloc ?_ _ | with_reducible refine Ext.drewN ?_ _ | with_reducible refine Ext.drew ?_ | with_reducible refine Ext.trans ?_ (by with_reducible assumption)))⟩
  | some ad =>
    have HF := hide ((h.ext ((Ext.refl w).alloc (.cells #[] 3))).cells)
    go_enter Try.func63, Try.ntmps63
    go_wp2_with (at_builtin; refine wpList_appA rfl _ _ _ 3 rfl Try.underlying35 _ 1 8 info_int rfl (by decide) rfl h0 ad n c (xs.map (Value.int .i64)) rfl (by simpa using HL.out.symm) HF.out (one_cells _) (by omega) (by omega) (by simp) ?_; intro A' c' w' ho' hg'; rw [Nat.zero_add] at ho'; try rw [Nat.zero_add])
    go_ret
    exact ⟨_, _, by first | rfl | simp, by simpa using ho', Ext.own (by (repeat (first | with_reducible exact Ext.refl _ | with_reducible assumption | ((with_reducible refine Ext.setCell ?_ ?_ _); rotate_left; focus (first | omega | (simp <;> omega))) | with_reducible refine Ext.alloc ?_ _ | with_reducible refine Ext.drewN ?_ _ | with_reducible refine Ext.drew ?_ | with_reducible refine Ext.trans ?_ (by with_reducible assumption)))) h0 hg'⟩
theorem wout_hit {c : List Int} {v : Int} {i : Nat} {x : Int} (hx : Hid (c[i]? = some x)) (h : (x.natAbs : Int) ≠ v) : woutV (c.take (i + 1)) v = woutV (c.take i) v ++ [x] := by
  rw [take_succ_of hx]; unfold woutV; rw [List.filter_append]; simp [h]
theorem wout_miss {c : List Int} {v : Int} {i : Nat} {x : Int} (hx : Hid (c[i]? = some x)) (h : (x.natAbs : Int) = v) : woutV (c.take (i + 1)) v = woutV (c.take i) v := by
  rw [take_succ_of hx]; unfold woutV; rw [List.filter_append]; simp [h]
theorem absW_small {x : Int} (h : -12 ≤ x ∧ x ≤ 12) : absW x = (x.natAbs : Int) := by unfold absW wrap64; split <;> omega
theorem Small.wout {c : List Int} {v : Int} (h : Small c) : Small (woutV c v) := fun x hx => h x (List.mem_filter.1 hx).1
theorem Small.put {c : List Int} {l : Int} (h : Small c) (hl : -12 ≤ l ∧ l ≤ 12) : Small (putL c l) := fun x hx => by
  rcases (putL_mem c l x).1 hx with rfl | hx
  · exact hl
  · exact h x hx
set_option maxRecDepth 100000 in
set_option maxHeartbeats 1600000 in
theorem l2Without_o (A : Option Addr) (n d : Nat) (c : List Int) (v : Int) (w : World) (h : Ints w A n c) (hc : Small c) (hn : n ≤ 1048576) :
    Calls Try.prog 77 #[.slice A n d, .int .i64 v] w fun e w' => ∃ X y z, e = .returned (.slice X y z) ∧ Own w' w.heap.size 3 1 X y z ((woutV c v).map (Value.int .i64)) ∧ y ≤ n ∧ Ext w w' := by
  have HC := hide hc
  have HL := hide h.len
  clear hc
  go_enter Try.func77, Try.ntmps77
  go_wp2_with fail
  have h0 : Own (w.alloc (.cells #[] 3)) w.heap.size 3 1 (some ⟨w.heap.size, 0, none⟩) 0 0 [] := Own.arr #[] 0 [] (Nat.le_refl _) (by decide) rfl rfl
  refine wp_loopK _ rfl (fun KK acT wr => ∃ s0 s1 s2 s3 s4 s5 s6 s7 s8 s9 s10 s11 s12 s13 s14 s15 s16 s17 s18 s19 s20 s21 s22 s23 s24 s25 s26 s27 s28 : Value, (KeptM [true, true, false, false, false, false, false, false, false, false, false, false, false, false, false, false, false, false, false, false, false, false, false, false, false, false, false, false, true] [s0, s1, s2, s3, s4, s5, s6, s7, s8, s9, s10, s11, s12, s13, s14, s15, s16, s17, s18, s19, s20, s21, s22, s23, s24, s25, s26, s27, s28] KK ∧ (Ext w wr ∧ ∃ i : Nat, i ≤ n ∧ s6 = .int .i64 i ∧ ∃ X y z, s5 = .slice X y z ∧ y ≤ i ∧ Own wr w.heap.size 3 1 X y z ((woutV (c.take i) v).map (Value.int .i64)))) ∧ acT = ⟨#[s0, s1, s2, s3, s4, s5, s6, s7, s8, s9, s10, s11, s12, s13, s14, s15, s16, s17, s18, s19, s20, s21, s22, s23, s24, s25, s26, s27, s28], []⟩) (fun acT wr => (fun (s6 : Value) (wr : World) => n - (intOf s6).toNat) (acT.tmps.getD 6 undef) wr) ?_ ?_
  · (refine ⟨_, _, _, _, _, _, _, _, _, _, _, _, _, _, _, _, _, _, _, _, _, _, _, _, _, _, _, _, _, ⟨(by (repeat (first | exact trivial | refine ⟨rfl, ?_⟩))), ?_⟩, rfl⟩; exact ⟨by (repeat (first | with_reducible exact Ext.refl _ | with_reducible assumption | ((with_reducible refine Ext.setCell ?_ ?_ _); rotate_left; focus (first | omega | (simp <;> omega))) | with_reducible refine Ext.alloc ?_ _ | with_reducible refine Ext.drewN ?_ _ | with_reducible refine Ext.drew ?_ | with_reducible refine Ext.trans ?_ (by with_reducible assumption))), 0, by omega, rfl, _, _, _, rfl, by omega, h0⟩)
  intro _ wr hinv; obtain ⟨s0, s1, s2, s3, s4, s5, s6, s7, s8, s9, s10, s11, s12, s13, s14, s15, s16, s17, s18, s19, s20, s21, s22, s23, s24, s25, s26, s27, s28, ⟨hkept, hrel⟩, rfl⟩ := hinv; simp only [KeptM] at hkept; obtain ⟨rfl, rfl, rfl, -⟩ := hkept; (try dsimp only)
  clear h0
  obtain ⟨he, i, hi, hs1, X, y, z, hs2, hy, ho⟩ := hrel
  subst hs1; subst hs2
  have hsz := he.size
  by_cases hlt : i < n
  · obtain ⟨ad, x, rfl, hx, c0⟩ := (h.ext he).at_ hlt
    have hxb := HC.out x (List.mem_of_getElem? hx.out)
    have hab := absW_small hxb
    have HV := hide (fun W => l2Var_c x W)
    rw [hab] at HV
    clear hab
    by_cases hv : (x.natAbs : Int) = v
    · have hw := hide (wout_miss hx hv)
      have hvf : ((x.natAbs : Int) != v) = false := by simpa using hv
      generalize (x.natAbs : Int) = ax at HV hvf
      clear hv
      go_wp2_with fail
      refine (HV.out _).mono ?_
      rintro e w1 ⟨rfl, rfl⟩
      go_wp2_with fail
      exact ⟨⟨(by (repeat (first | exact trivial | refine ⟨rfl, ?_⟩))), he, i + 1, by omega, by go_num, X, y, z, rfl, by omega, by rw [hw.out]; exact ho⟩, (by simp [intOf] <;> omega)⟩
    · have hw := hide (wout_hit hx hv)
      have hvf : ((x.natAbs : Int) != v) = true := by simpa using hv
      generalize (x.natAbs : Int) = ax at HV hvf
      clear hv
      go_wp2_with fail
      refine (HV.out _).mono ?_
      rintro e w1 ⟨rfl, rfl⟩
      go_wp2_with (at_builtin; refine wpList_app rfl _ _ _ _ rfl Try.underlying35 _ 1 8 info_int rfl (by decide) rfl ho 1 [.int .i64 x] (by first | rfl | simp [go_sem]) rfl ?_ ?_ ?_ ?_ ?_; (intro u hu; simp at hu; first | (subst hu; rfl) | (rcases hu with rfl | rfl <;> rfl) | (rcases hu with rfl | rfl | rfl <;> rfl) | (rcases hu with rfl | rfl | rfl | rfl <;> rfl) | (rcases hu with rfl | rfl | rfl | rfl | rfl <;> rfl) | (rcases hu with rfl | rfl | rfl | rfl | rfl | rfl <;> rfl)); omega; omega; (first | omega | (simp; omega)); intro A' c' w' ho' hg' hb')
      exact ⟨⟨(by (repeat (first | exact trivial | refine ⟨rfl, ?_⟩))), he.own ho hg', i + 1, by omega, by go_num, _, _, _, rfl, by omega, by rw [hw.out, List.map_append]; simpa using ho'⟩, (by simp [intOf] <;> omega)⟩
  · obtain rfl : i = n := by omega
    have hw : Hid (woutV (c.take i) v = woutV c v) := hide (by rw [List.take_of_length_le (by rw [← HL.out]; omega)])
    go_wp2_with fail
    go_ret
    exact ⟨X, y, z, rfl, by rw [← hw.out]; exact ho, hy, he⟩
end Go.Proofs.Ytaigjmbhgpcalaa
