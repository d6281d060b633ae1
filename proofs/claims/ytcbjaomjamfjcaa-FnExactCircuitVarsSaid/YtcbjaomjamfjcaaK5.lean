/-
  Slices of bools: the laws' helpers; GateValues: both texts return the same.
-/
import Derived.Test.YtcbjaomjamfjcaaK4
namespace Go.Proofs.Ytcbjaomjamfjcaa
set_option linter.unusedSimpArgs false
set_option linter.unusedVariables false
open Go.RowKit

structure Bools (w : World) (A : Option Addr) (n : Nat) (bs : List Bool) : Prop where
  len : n = bs.length
  bound : n ≤ 1099511627776
  reads : 0 < n → ∃ g, A = some ⟨g, 0, none⟩ ∧ ∀ j u, bs[j]? = some u → w.cell? ⟨g, j, none⟩ = some (.bool u)
theorem Bools.ext {w w' : World} {A : Option Addr} {n : Nat} {bs : List Bool} (h : Bools w A n bs) (he : Ext w w') : Bools w' A n bs :=
  ⟨h.len, h.bound, fun hn => let ⟨g, e, hc⟩ := h.reads hn; ⟨g, e, fun j u hu => he.cell (hc j u hu)⟩⟩
theorem Bools.at_ {w : World} {A : Option Addr} {n : Nat} {bs : List Bool} (h : Bools w A n bs) {i : Nat} (hi : i < n) :
    ∃ g x, A = some ⟨g, 0, none⟩ ∧ Hid (bs[i]? = some x) ∧ w.cell? ⟨g, i, none⟩ = some (.bool x) := by
  have hl := h.len
  obtain ⟨g, e, hc⟩ := h.reads (by omega)
  have h0 := List.getElem?_eq_getElem (show i < bs.length by omega)
  exact ⟨g, _, e, h0, hc _ _ h0⟩
structure ObB (w : World) (lo hi : Nat) (A : Option Addr) (n c : Nat) (bs : List Bool) : Prop where
  own : Own w lo 4 1 A n c (bs.map Value.bool)
  below : ∀ k, (Value.slice A n c).ownBlock = some k → k < hi
  small : n ≤ 1099511627776
section
variable {w w' : World} {lo hi : Nat} {A : Option Addr} {n c : Nat} {bs : List Bool}
theorem ObB.bools (h : ObB w lo hi A n c bs) : Bools w A n bs := ⟨by have := h.own.len; simp at this; omega, h.small, fun hn => by
    obtain ⟨g, rfl, _, _⟩ := h.own.form hn
    exact ⟨g, rfl, fun j u hu => h.own.cell (get_map_bool hu)⟩⟩
theorem ObB.ext (h : ObB w lo hi A n c bs) (he : Ext w w') : ObB w' lo hi A n c bs := ⟨h.own.ext he, h.below, h.small⟩
theorem ObB.of (h : Own w lo 4 1 A n c (bs.map Value.bool)) (hn : n ≤ 1099511627776) : ObB w lo w.heap.size A n c bs :=
  ⟨h, fun k hk => (h.lt k hk).2, hn⟩
theorem ObB.nil : ObB w lo hi none 0 0 [] := ⟨Own.nil _ _ _ _, by simp [Value.ownBlock], by omega⟩
theorem ObB.empty {W : World} (h : lo ≤ W.heap.size) : ObB (W.alloc (.cells #[] 4)) lo (W.heap.size + 1) (some ⟨W.heap.size, 0, none⟩) 0 0 [] :=
  ⟨Own.arr #[] 0 [] h (by decide) rfl rfl, fun k hk => by simp [Value.ownBlock] at hk; omega, by omega⟩
theorem ObB.touch {l r : Nat} (h : ObB w lo hi A n c bs) (t : Touch l r w w') (hd : r ≤ lo ∨ hi ≤ l) : ObB w' lo hi A n c bs := by
  refine ⟨?_, h.below, h.small⟩
  rcases hd with hd | hd
  · exact h.own.touch t hd
  · exact h.own.touch_below t (fun k hk => by have := h.below k hk; omega)
end
def upB (k : Int) (n : Nat) : List Bool := (List.range n).map fun i : Nat => ((k + (i : Int)) % 3 == 0)
theorem upB_length (k : Int) (n : Nat) : (upB k n).length = n := by simp [upB]
theorem upB_succ (k : Int) (n : Nat) : upB k (n + 1) = upB k n ++ [(k + n) % 3 == 0] := by simp [upB, List.range_succ]
theorem upB_get {k : Int} {n i : Nat} (h : i < n) : (upB k n)[i]? = some ((k + i) % 3 == 0) := by simp [upB, h]

set_option maxHeartbeats 800000 in
theorem eqBoolS_same (A B : Option Addr) (n c m d : Nat) (bs : List Bool) (w : World) (h : Bools w A n bs) (k : Bools w B m bs) :
    Calls Try.prog 24 #[.slice A n c, .slice B m d] w fun e w' => e = .returned (.bool true) ∧ Ext w w' := by
  have hl : n = m := by have := h.len; have := k.len; omega
  subst hl
  have hb := h.bound
  have hnn : ((n : Int) == (n : Int)) = true := by simp
  go_enter Try.func24, Try.ntmps24
  go_wp2_with fail
  refine wp_loopF 26 _ rfl rfl [0, 1] rfl (fun fr wr => Ext w wr ∧ ∃ i : Nat, i ≤ n ∧ (fr 5) = .int .i64 i) (fun fr wr => n - (intOf (fr 5)).toNat) ?_ ?_
  · (exact ⟨Ext.refl _, 0, by omega, rfl⟩)
  intro ks fr wr hkept hrel; (try dsimp only at hrel)
  change Code.wp _ _ _ ⟨#[ks 0, ks 1, fr 2, fr 3, fr 4, fr 5, fr 6, fr 7, fr 8, fr 9, fr 10, fr 11, fr 12, fr 13, fr 14, fr 15, fr 16, fr 17, fr 18, fr 19, fr 20, fr 21, fr 22, fr 23, fr 24, fr 25], []⟩ wr
  simp only [KeptV, List.getD_cons_zero, List.getD_cons_succ] at hkept; obtain ⟨hk0, hk1, -⟩ := hkept
  generalize ks 0 = k0 at hk0 ⊢; subst hk0
  generalize ks 1 = k1 at hk1 ⊢; subst hk1
  generalize fr 5 = s5 at hrel ⊢
  obtain ⟨he, i, hi, hs1⟩ := hrel
  subst hs1
  by_cases hlt : i < n
  · obtain ⟨ad, x, rfl, hx, a0⟩ := (h.ext he).at_ hlt
    obtain ⟨ad', x', rfl, hx', d0⟩ := (k.ext he).at_ hlt
    obtain rfl : x' = x := by
      have h1 := hx.out
      have h2 := hx'.out
      rw [h1] at h2; injection h2 with h2; exact h2.symm
    clear hx hx'
    go_wp2_with fail
    go_quiet (fail)
    have hEH := hide (he.drewN 1)
    go_wp2
    all_goals first | exact ⟨⟨(by (repeat (first | exact trivial | refine ⟨rfl, ?_⟩))), by first | exact he.drewN _ | exact hEH.out, i + 1, by omega, by go_num⟩, (by simp [intOf] <;> omega)⟩ | simp_all
  · obtain rfl : i = n := by omega
    go_wp2
    go_ret
    exact ⟨rfl, by (repeat (first | with_reducible exact Ext.refl _ | with_reducible assumption | ((with_reducible refine Ext.setCell ?_ ?_ _); rotate_left; focus (first | omega | (simp <;> omega))) | with_reducible refine Ext.alloc ?_ _ | with_reducible refine Ext.drewN ?_ _ | with_reducible refine Ext.drew ?_ | with_reducible refine Ext.trans ?_ (by with_reducible assumption)))⟩
set_option maxRecDepth 100000 in
set_option maxHeartbeats 1600000 in
theorem markBoolS_o (A : Option Addr) (n c lo hi : Nat) (k : Int) (bs : List Bool) (w : World) (h : ObB w lo hi A n c bs) (hk : 0 ≤ k ∧ k ≤ 70368744177664) :
    Calls Try.prog 25 #[.slice A n c, .int .i64 k] w fun e w' => e = .returned (.int .i64 (k + n)) ∧ ObB w' lo hi A n c (upB k n) ∧ Touch lo hi w w' := by
  have hsm := h.small
  have hlen : bs.length = n := by have := h.own.len; simpa using this
  have hbl := h.below
  go_enter Try.func25, Try.ntmps25
  go_wp2_with fail
  refine wp_loopF 21 _ rfl rfl [0, 20] rfl (fun fr wr => ∃ (i : Nat) (zs : List Bool), i ≤ n ∧ (fr 5) = .int .i64 i ∧ (fr 1) = .int .i64 (k + i) ∧ Own wr lo 4 1 A n c (zs.map Value.bool) ∧ Hid (zs.length = n ∧ zs.take i = upB k i) ∧ Touch lo hi w wr) (fun fr wr => n - (intOf (fr 5)).toNat) ?_ ?_
  · (exact ⟨0, bs, by omega, rfl, by simp, h.own, ⟨hlen, rfl⟩, Touch.refl _ _ _⟩)
  intro ks fr wr hkept hrel; (try dsimp only at hrel)
  change Code.wp _ _ _ ⟨#[ks 0, fr 1, fr 2, fr 3, fr 4, fr 5, fr 6, fr 7, fr 8, fr 9, fr 10, fr 11, fr 12, fr 13, fr 14, fr 15, fr 16, fr 17, fr 18, fr 19, ks 20], []⟩ wr
  simp only [KeptV, List.getD_cons_zero, List.getD_cons_succ] at hkept; obtain ⟨hk0, hk20, -⟩ := hkept
  generalize ks 0 = k0 at hk0 ⊢; subst hk0
  generalize ks 20 = k20 at hk20 ⊢; subst hk20
  generalize fr 1 = s1 at hrel ⊢
  generalize fr 5 = s5 at hrel ⊢
  obtain ⟨i, zs, hi', hs1, hs2, ho, hz, ht⟩ := hrel
  subst hs1; subst hs2
  by_cases hlt : i < n
  · obtain ⟨g, rfl, hg1, hg2⟩ := h.own.form (by omega)
    have hg3 := hbl g rfl
    have hl1 : Hid (zs.length = n) := hide hz.out.1
    obtain ⟨u0, hu0, hug⟩ := gets_bool (xs := zs) (p := i) (by rw [hl1.out]; exact hlt)
    have d0 := ho.cell (get_map_bool hug)
    have f0 := ho.frozen i
    clear hu0 hug
    obtain ⟨V, hV⟩ : ∃ V, ((k + (i : Int)) % 3 == 0) = V := ⟨_, rfl⟩
    have ho1 := ho.store i (.bool V)
    rw [set_map_bool] at ho1
    have ht1 := ht.trans (touch_setF _ (p := ⟨g, i, none⟩) (.bool V) ⟨hg1, hg3⟩)
    have hz2 : Hid ((zs.set i V).length = n ∧ (zs.set i V).take (i + 1) = upB k (i + 1)) := hide ⟨by simpa using hl1.out, by
      rw [take_set_succ _ _ _ (by rw [hl1.out]; exact hlt), hz.out.2, upB_succ, hV]⟩
    have HO := hide ho1
    have HT := hide ht1
    clear ho ht ho1 ht1
    go_wp2_with fail
    exact ⟨⟨(by (repeat (first | exact trivial | refine ⟨rfl, ?_⟩))), i + 1, _, by omega, by go_num, by first | rfl | go_num, HO.out, hz2, HT.out⟩, (by simp [intOf] <;> omega)⟩
  · obtain rfl : i = n := by omega
    have hall : zs = upB k i := by
      have h1 := hz.out.2
      rwa [List.take_of_length_le (by rw [hz.out.1]; exact Nat.le_refl _)] at h1
    subst hall
    have hoh := hide ho
    have hth := hide ht
    clear ho ht hz
    go_wp2
    go_ret
    exact ⟨rfl, ⟨hoh.out, hbl, hsm⟩, hth.out⟩
set_option maxRecDepth 100000 in
set_option maxHeartbeats 1600000 in
theorem heldBoolS_o (A : Option Addr) (n c lo hi : Nat) (k : Int) (w : World) (h : ObB w lo hi A n c (upB k n)) (hk : 0 ≤ k ∧ k ≤ 70368744177664) :
    Calls Try.prog 26 #[.slice A n c, .int .i64 k] w fun e w' => e = .returned (.int .i64 (k + n)) ∧ Ext w w' := by
  have hsm := h.small
  have hT := h.bools
  go_enter Try.func26, Try.ntmps26
  go_wp2_with fail
  refine wp_loopF 23 _ rfl rfl [0, 22] rfl (fun fr wr => ∃ (i : Nat), i ≤ n ∧ (fr 5) = .int .i64 i ∧ (fr 1) = .int .i64 (k + i) ∧ Ext w wr) (fun fr wr => n - (intOf (fr 5)).toNat) ?_ ?_
  · (exact ⟨0, by omega, rfl, by simp, Ext.refl _⟩)
  intro ks fr wr hkept hrel; (try dsimp only at hrel)
  change Code.wp _ _ _ ⟨#[ks 0, fr 1, fr 2, fr 3, fr 4, fr 5, fr 6, fr 7, fr 8, fr 9, fr 10, fr 11, fr 12, fr 13, fr 14, fr 15, fr 16, fr 17, fr 18, fr 19, fr 20, fr 21, ks 22], []⟩ wr
  simp only [KeptV, List.getD_cons_zero, List.getD_cons_succ] at hkept; obtain ⟨hk0, hk22, -⟩ := hkept
  generalize ks 0 = k0 at hk0 ⊢; subst hk0
  generalize ks 22 = k22 at hk22 ⊢; subst hk22
  generalize fr 1 = s1 at hrel ⊢
  generalize fr 5 = s5 at hrel ⊢
  obtain ⟨i, hi', hs1, hs2, he⟩ := hrel
  subst hs1; subst hs2
  by_cases hlt : i < n
  · obtain ⟨g, rfl, hc⟩ := hT.reads (by omega)
    have d0 := he.cell (hc i _ (upB_get hlt))
    clear hc
    obtain ⟨V, hV⟩ : ∃ V, ((k + (i : Int)) % 3 == 0) = V := ⟨_, rfl⟩
    rw [hV] at d0
    have hvv : (V == V) = true := by simp
    have heh := hide he
    clear he
    go_wp2_with fail
    exact ⟨⟨(by (repeat (first | exact trivial | refine ⟨rfl, ?_⟩))), i + 1, by omega, by go_num, by first | rfl | go_num, heh.out⟩, (by simp [intOf] <;> omega)⟩
  · obtain rfl : i = n := by omega
    have heh := hide he
    clear he
    go_wp2
    go_ret
    exact ⟨rfl, heh.out⟩
/-- GateValues takes these arguments. -/
def gvOk (v : Int) (gs : List Gt) (bt : Int) : Bool := circB v gs && within bt 0 (2 ^ v.toNat - 1)
set_option maxHeartbeats 800000 in
theorem spec_GateValues_o (v bt : Int) (A : Option Addr) (n d : Nat) (gs : List Gt) (w : World) (h : Gates w A n gs) :
    Calls Try.prog 22 #[.int .i64 v, .slice A n d, .int .i64 bt] w fun e w' =>
      ∃ A' n' c', e = .returned (.tuple #[.slice A' n' c', .bool (gvOk v gs bt)]) ∧ ObB w' w.heap.size w'.heap.size A' n' c' (if gvOk v gs bt then gvals bt.toNat gs gs.length else []) ∧ Ext w w' := by
  have hl := hide h.len
  cases hq : gvOk v gs bt
  · simp only [Bool.false_eq_true, if_false]
    rcases and2_false hq with h1 | ⟨h1, h2⟩ <;> clear hq
    · have H1 := hide h1
      clear h1
      go_enter Try.func22, Try.ntmps22
      go_wp2_with (go_at_call 66; refine (l6Good_c _ _ _ _ gs _ (h.ext (by (repeat (first | with_reducible exact Ext.refl _ | with_reducible assumption | ((with_reducible refine Ext.setCell ?_ ?_ _); rotate_left; focus (first | omega | (simp <;> omega))) | with_reducible refine Ext.alloc ?_ _ | with_reducible refine Ext.drewN ?_ _ | with_reducible refine Ext.drew ?_ | with_reducible refine Ext.trans ?_ (by with_reducible assumption)))))).mono ?_; rw [H1.out]; rintro e w1 ⟨rfl, he1⟩)
      go_ret2
      have hs := he1.size
      exact ⟨_, _, _, rfl, by simpa using ObB.empty (W := w1) (lo := w.heap.size) hs, by (repeat (first | with_reducible exact Ext.refl _ | with_reducible assumption | ((with_reducible refine Ext.setCell ?_ ?_ _); rotate_left; focus (first | omega | (simp <;> omega))) | with_reducible refine Ext.alloc ?_ _ | with_reducible refine Ext.drewN ?_ _ | with_reducible refine Ext.drew ?_ | with_reducible refine Ext.trans ?_ (by with_reducible assumption)))⟩
    · have hc := (circ_facts h1).1
      obtain ⟨vn, rfl⟩ := int_nat hc.1
      have H1 := hide h1
      clear h1
      simp only [Int.toNat_natCast] at h2
      go_enter Try.func22, Try.ntmps22
      go_wp2_with (first | (go_at_call 66; refine (l6Good_c _ _ _ _ gs _ (h.ext (by (repeat (first | with_reducible exact Ext.refl _ | with_reducible assumption | ((with_reducible refine Ext.setCell ?_ ?_ _); rotate_left; focus (first | omega | (simp <;> omega))) | with_reducible refine Ext.alloc ?_ _ | with_reducible refine Ext.drewN ?_ _ | with_reducible refine Ext.drew ?_ | with_reducible refine Ext.trans ?_ (by with_reducible assumption)))))).mono ?_; rw [H1.out]; rintro e w1 ⟨rfl, he1⟩) | (go_at_call 74; refine (l6Bits_c _ _ _ ?_).mono ?_; omega; rintro e w' ⟨rfl, rfl⟩))
      go_ret2
      have hs := he1.size
      exact ⟨_, _, _, rfl, by simpa using ObB.empty (W := w1) (lo := w.heap.size) hs, by (repeat (first | with_reducible exact Ext.refl _ | with_reducible assumption | ((with_reducible refine Ext.setCell ?_ ?_ _); rotate_left; focus (first | omega | (simp <;> omega))) | with_reducible refine Ext.alloc ?_ _ | with_reducible refine Ext.drewN ?_ _ | with_reducible refine Ext.drew ?_ | with_reducible refine Ext.trans ?_ (by with_reducible assumption)))⟩
  · simp only [if_true]
    obtain ⟨h1, h2⟩ := and2_true hq
    obtain ⟨hc1, hc2, hc3⟩ := circ_facts h1
    obtain ⟨vn, rfl⟩ := int_nat hc1.1
    have H1 := hide h1
    clear h1 hq
    have h3 := within_true h2
    have hp := pow_small (v := vn) (by omega)
    simp only [Int.toNat_natCast] at h2 h3
    obtain ⟨bn, rfl⟩ := int_nat h3.1
    simp only [Int.toNat_natCast]
    have hn : n ≤ 200 := by rw [hl.out]; exact hc2.2
    rw [← hl.out]
    have HC := hide hc3
    clear hc3 hc2
    have hbn : bn ≤ 4096 := by omega
    clear hp h3
    go_enter Try.func22, Try.ntmps22
    go_wp2_with (first | (go_at_call 66; refine (l6Good_c _ _ _ _ gs _ (h.ext (by (repeat (first | with_reducible exact Ext.refl _ | with_reducible assumption | ((with_reducible refine Ext.setCell ?_ ?_ _); rotate_left; focus (first | omega | (simp <;> omega))) | with_reducible refine Ext.alloc ?_ _ | with_reducible refine Ext.drewN ?_ _ | with_reducible refine Ext.drew ?_ | with_reducible refine Ext.trans ?_ (by with_reducible assumption)))))).mono ?_; rw [H1.out]; rintro e w1 ⟨rfl, he1⟩) | (go_at_call 74; refine (l6Bits_c _ _ _ ?_).mono ?_; omega; rintro e w' ⟨rfl, rfl⟩) | (go_at_call 75; refine (l6Values_c _ _ _ _ gs _ (h.ext (by (repeat (first | with_reducible exact Ext.refl _ | with_reducible assumption | ((with_reducible refine Ext.setCell ?_ ?_ _); rotate_left; focus (first | omega | (simp <;> omega))) | with_reducible refine Ext.alloc ?_ _ | with_reducible refine Ext.drewN ?_ _ | with_reducible refine Ext.drew ?_ | with_reducible refine Ext.trans ?_ (by with_reducible assumption))))) HC.out hn hbn).mono ?_; rintro e w2 ⟨A', c', rfl, ho, he2⟩))
    go_ret2
    have hs := he1.size
    exact ⟨_, _, _, rfl, ObB.of (ho.lower hs) (by omega), by (repeat (first | with_reducible exact Ext.refl _ | with_reducible assumption | ((with_reducible refine Ext.setCell ?_ ?_ _); rotate_left; focus (first | omega | (simp <;> omega))) | with_reducible refine Ext.alloc ?_ _ | with_reducible refine Ext.drewN ?_ _ | with_reducible refine Ext.drew ?_ | with_reducible refine Ext.trans ?_ (by with_reducible assumption)))⟩
set_option maxHeartbeats 800000 in
theorem impl_GateValues_o (v bt : Int) (A : Option Addr) (n d : Nat) (gs : List Gt) (w : World) (h : Gates w A n gs) :
    Calls Try.prog 23 #[.int .i64 v, .slice A n d, .int .i64 bt] w fun e w' =>
      ∃ A' n' c', e = .returned (.tuple #[.slice A' n' c', .bool (gvOk v gs bt)]) ∧ ObB w' w.heap.size w'.heap.size A' n' c' (if gvOk v gs bt then gvals bt.toNat gs gs.length else []) ∧ Ext w w' := by
  have hl := hide h.len
  cases hq : gvOk v gs bt
  · simp only [Bool.false_eq_true, if_false]
    rcases and2_false hq with h1 | ⟨h1, h2⟩ <;> clear hq
    · have H1 := hide h1
      clear h1
      go_enter Try.func23, Try.ntmps23
      go_wp2_with (go_at_call 69; refine (impl_IsCircuit_c _ _ _ _ gs _ (h.ext (by (repeat (first | with_reducible exact Ext.refl _ | with_reducible assumption | ((with_reducible refine Ext.setCell ?_ ?_ _); rotate_left; focus (first | omega | (simp <;> omega))) | with_reducible refine Ext.alloc ?_ _ | with_reducible refine Ext.drewN ?_ _ | with_reducible refine Ext.drew ?_ | with_reducible refine Ext.trans ?_ (by with_reducible assumption)))))).mono ?_; rw [H1.out]; rintro e w1 ⟨rfl, he1⟩)
      go_ret2
      exact ⟨_, _, _, rfl, ObB.nil, by (repeat (first | with_reducible exact Ext.refl _ | with_reducible assumption | ((with_reducible refine Ext.setCell ?_ ?_ _); rotate_left; focus (first | omega | (simp <;> omega))) | with_reducible refine Ext.alloc ?_ _ | with_reducible refine Ext.drewN ?_ _ | with_reducible refine Ext.drew ?_ | with_reducible refine Ext.trans ?_ (by with_reducible assumption)))⟩
    · have hc := (circ_facts h1).1
      obtain ⟨vn, rfl⟩ := int_nat hc.1
      have H1 := hide h1
      clear h1
      simp only [Int.toNat_natCast] at h2
      go_enter Try.func23, Try.ntmps23
      go_wp2_with (first | (go_at_call 69; refine (impl_IsCircuit_c _ _ _ _ gs _ (h.ext (by (repeat (first | with_reducible exact Ext.refl _ | with_reducible assumption | ((with_reducible refine Ext.setCell ?_ ?_ _); rotate_left; focus (first | omega | (simp <;> omega))) | with_reducible refine Ext.alloc ?_ _ | with_reducible refine Ext.drewN ?_ _ | with_reducible refine Ext.drew ?_ | with_reducible refine Ext.trans ?_ (by with_reducible assumption)))))).mono ?_; rw [H1.out]; rintro e w1 ⟨rfl, he1⟩) | (go_at_call 76; refine (bitsOk_c _ _ _ ?_).mono ?_; omega; rintro e w' ⟨rfl, rfl⟩))
      go_ret2
      exact ⟨_, _, _, rfl, ObB.nil, by (repeat (first | with_reducible exact Ext.refl _ | with_reducible assumption | ((with_reducible refine Ext.setCell ?_ ?_ _); rotate_left; focus (first | omega | (simp <;> omega))) | with_reducible refine Ext.alloc ?_ _ | with_reducible refine Ext.drewN ?_ _ | with_reducible refine Ext.drew ?_ | with_reducible refine Ext.trans ?_ (by with_reducible assumption)))⟩
  · simp only [if_true]
    obtain ⟨h1, h2⟩ := and2_true hq
    obtain ⟨hc1, hc2, hc3⟩ := circ_facts h1
    obtain ⟨vn, rfl⟩ := int_nat hc1.1
    have H1 := hide h1
    clear h1 hq
    have h3 := within_true h2
    have hp := pow_small (v := vn) (by omega)
    simp only [Int.toNat_natCast] at h2 h3
    obtain ⟨bn, rfl⟩ := int_nat h3.1
    simp only [Int.toNat_natCast]
    have hn : n ≤ 200 := by rw [hl.out]; exact hc2.2
    rw [← hl.out]
    have HC := hide hc3
    clear hc3 hc2
    have hbn : bn ≤ 4096 := by omega
    clear hp h3
    go_enter Try.func23, Try.ntmps23
    go_wp2_with (first | (go_at_call 69; refine (impl_IsCircuit_c _ _ _ _ gs _ (h.ext (by (repeat (first | with_reducible exact Ext.refl _ | with_reducible assumption | ((with_reducible refine Ext.setCell ?_ ?_ _); rotate_left; focus (first | omega | (simp <;> omega))) | with_reducible refine Ext.alloc ?_ _ | with_reducible refine Ext.drewN ?_ _ | with_reducible refine Ext.drew ?_ | with_reducible refine Ext.trans ?_ (by with_reducible assumption)))))).mono ?_; rw [H1.out]; rintro e w1 ⟨rfl, he1⟩) | (go_at_call 76; refine (bitsOk_c _ _ _ ?_).mono ?_; omega; rintro e w' ⟨rfl, rfl⟩) | (go_at_call 77; refine (gateValues_c _ _ _ _ gs _ (h.ext (by (repeat (first | with_reducible exact Ext.refl _ | with_reducible assumption | ((with_reducible refine Ext.setCell ?_ ?_ _); rotate_left; focus (first | omega | (simp <;> omega))) | with_reducible refine Ext.alloc ?_ _ | with_reducible refine Ext.drewN ?_ _ | with_reducible refine Ext.drew ?_ | with_reducible refine Ext.trans ?_ (by with_reducible assumption))))) HC.out hn hbn).mono ?_; rintro e w2 ⟨A', c', rfl, ho, he2⟩))
    go_ret2
    have hs := he1.size
    exact ⟨_, _, _, rfl, ObB.of (ho.lower hs) (by omega), by (repeat (first | with_reducible exact Ext.refl _ | with_reducible assumption | ((with_reducible refine Ext.setCell ?_ ?_ _); rotate_left; focus (first | omega | (simp <;> omega))) | with_reducible refine Ext.alloc ?_ _ | with_reducible refine Ext.drewN ?_ _ | with_reducible refine Ext.drew ?_ | with_reducible refine Ext.trans ?_ (by with_reducible assumption)))⟩
end Go.Proofs.Ytcbjaomjamfjcaa
