/-
  TrimCircuit: the program's trim, and both answers.
-/
import Derived.Test.YtcbjaomjamfjcaaK15
namespace Go.Proofs.Ytcbjaomjamfjcaa
set_option linter.unusedSimpArgs false
set_option linter.unusedVariables false
open Go.RowKit

theorem Trim_lit_c (x : Int) (b : Nat) (X : Option Addr) (N y : Nat) (xs : List Int) (w : World) (h : Ints w X N xs) (hc : w.cell? ⟨b, 0, none⟩ = some (.slice X N y)) :
    Calls Try.prog 127 #[.int .i64 x, .pointer (some ⟨b, 0, none⟩)] w fun e w' => e = .returned (.int .i64 (idxOf (· == x) xs 0)) ∧ Ext w w' := by
  go_enter Try.func127, Try.ntmps127
  go_wp2_with (go_at_call 128; refine (Index_int_c _ _ _ _ xs _ h).mono ?_; rintro e w1 ⟨rfl, he⟩)
  go_ret
  exact ⟨rfl, he⟩
theorem Trim_lit_enters : Enters Try.prog 127 := enters_of Try.func127 (by kernel_rfl) (by kernel_rfl)
/-- The gate at an index, with its new indices. -/
def newGate (gs : List Gt) (i : Int) : Gt := moveG (posG gs) (gs.getD i.toNat g0)
theorem trimG_map (gs : List Gt) : trimG gs = (needTo gs gs.length).map (newGate gs) := trimTo_eq gs gs.length
set_option maxRecDepth 100000 in
set_option maxHeartbeats 3200000 in
theorem trim_c (A : Option Addr) (n c : Nat) (gs : List Gt) (w : World) (h : Gates w A n gs) (hg : GoodG gs) (hn : n ≤ 200) (hn1 : 1 ≤ n) :
    Calls Try.prog 81 #[.slice A n c] w fun e w' => ∃ A' n' c', e = .returned (.slice A' n' c') ∧ Hid ((trimG gs).length = n') ∧ Own w' w.heap.size 86 3 A' n' c' ((fl (trimG gs)).map (Value.int .i64)) ∧ Ext w w' := by
  have HG := hide hg
  have hl := hide h.len
  have HLe := hide (needTo_le gs n)
  go_enter Try.func81, Try.ntmps81
  go_wp2_with fail
  refine (neededGates_c _ _ _ gs _ h hg hn hn1).mono ?_
  rintro e w1 ⟨v, rfl, ⟨X, N, y, rfl, hN, ho⟩, e1⟩
  clear hg
  have hN2 : N ≤ 200 := by have := hN.out; have := HLe.out; omega
  have hs1 := e1.size
  have hb0 : BoxAt (w1.alloc (.cells #[.slice X N y] 37)) w1.heap.size 37 #[.slice X N y] := BoxAt.made _ _ _
  have ho0 := ho.alloc (.cells #[.slice X N y] 37)
  have e0 := e1.alloc (.cells #[.slice X N y] 37)
  have hz0 : w.heap.size < (w1.alloc (.cells #[.slice X N y] 37)).heap.size := by simp; omega
  clear e1 ho
  go_wp2_with fail
  refine wp_loopF 26 _ rfl rfl [0, 3, 9, 10, 25] rfl (fun fr wr => Ext w wr ∧ BoxAt wr w1.heap.size 37 #[.slice X N y] ∧ Own wr w.heap.size 3 1 X N y ((needTo gs n).map (Value.int .i64)) ∧ ∃ p : Nat, p ≤ N ∧ (fr 11) = .int .i64 p ∧ ∃ Z y2, (fr 4) = .slice Z p y2 ∧ Own wr w.heap.size 86 3 Z p y2 ((fl (((needTo gs n).take p).map (newGate gs))).map (Value.int .i64))) (fun fr wr => N - (intOf (fr 11)).toNat) ?_ ?_
  · (exact ⟨e0, hb0, ho0, 0, by omega, rfl, _, _, rfl, Own.nil _ _ _ _⟩)
  intro ks fr wr hkept hrel; (try dsimp only at hrel)
  change Code.wp _ _ _ ⟨#[ks 0, fr 1, fr 2, ks 3, fr 4, fr 5, fr 6, fr 7, fr 8, ks 9, ks 10, fr 11, fr 12, fr 13, fr 14, fr 15, fr 16, fr 17, fr 18, fr 19, fr 20, fr 21, fr 22, fr 23, fr 24, ks 25], []⟩ wr
  simp only [KeptV, List.getD_cons_zero, List.getD_cons_succ] at hkept; obtain ⟨hk0, hk3, hk9, hk10, hk25, -⟩ := hkept
  generalize ks 0 = k0 at hk0 ⊢; subst hk0
  generalize ks 3 = k3 at hk3 ⊢; subst hk3
  generalize ks 9 = k9 at hk9 ⊢; subst hk9
  generalize ks 10 = k10 at hk10 ⊢; subst hk10
  generalize ks 25 = k25 at hk25 ⊢; subst hk25
  generalize fr 4 = s4 at hrel ⊢
  generalize fr 11 = s11 at hrel ⊢
  clear e0 hb0 ho0
  obtain ⟨he, hb, hi, p, hp, hs1', Z, y2, hs2', ho⟩ := hrel
  subst hs1'; subst hs2'
  have hsz := he.size
  by_cases hlt : p < N
  · obtain ⟨gX, rfl, -, -⟩ := hi.form (by omega)
    obtain ⟨z, hz, hzc, -⟩ := hi.int_atS (q := p) (by omega)
    obtain ⟨hz0, hz1, hzm⟩ := needTo_mem.1 (List.mem_of_getElem? hz.out)
    obtain ⟨k, rfl⟩ : ∃ k : Nat, z = (k : Int) := ⟨z.toNat, by omega⟩
    simp only [Int.toNat_natCast] at hzm
    have hkn : k < n := by omega
    obtain ⟨gb, kk, a, b, rfl, hx, c0, c1, c2⟩ := (h.ext he).at_ hkn
    have hcl := mark_closed HG.out (j := k) (by rw [← hl.out]; exact hkn) hzm
    rw [getD_of hx] at hcl
    have hir := (HG.out k _ hx.out).2.1
    have HN := hide (show (((needTo gs n).take (p + 1)).map (newGate gs)) = ((needTo gs n).take p).map (newGate gs) ++ [moveG (posG gs) (kk, a, b)] by
      rw [take_succ_of hz, List.map_append]; simp only [List.map_cons, List.map_nil, newGate, Int.toNat_natCast, getD_of hx])
    have HMV := hide (show moveG (fun x => idxOf (· == x) (needTo gs n) 0) (kk, a, b) = moveG (posG gs) (kk, a, b) from moveG_congr (fun x hxi => by
      obtain ⟨h0, h1⟩ := hir x hxi
      obtain ⟨j, rfl⟩ : ∃ j : Nat, x = (j : Int) := ⟨x.toNat, by omega⟩
      exact needTo_idx (by have := hcl _ hxi; simpa using this) (by omega)))
    have hbc := hb.cell 0 _ rfl
    have HC := hide (fun x wq (hE : Ext wr wq) => Trim_lit_c x w1.heap.size _ N y (needTo gs n) wq ((hi.ints (by omega)).ext hE) (hE.cell hbc))
    have HMc := hide (moved_c kk a b 127 #[.pointer (some ⟨w1.heap.size, 0, none⟩)] (fun x => idxOf (· == x) (needTo gs n) 0) wr Trim_lit_enters (fun x hxi wq hxt => HC.out x wq hxt))
    clear hz hzm hcl hir
    go_wp2_with fail
    (with_reducible refine HMc.out.mono ?_)
    clear HMc
    obtain ⟨⟨q1, q2, q3⟩, hG⟩ : ∃ G, moveG (posG gs) (kk, a, b) = G := ⟨_, rfl⟩
    rw [HMV.out, hG]
    rw [hG] at HN
    clear hG hx HMV HC
    (try dsimp only at HN ⊢)
    rintro e w4 ⟨rfl, he4⟩
    have e4 := he.trans he4
    have ox4 := ho.ext he4
    have HB4 := hide (hb.ext he4)
    have HI4 := hide (hi.ext he4)
    have hz4 := e4.size
    clear he4 he ho hb hi hbc hzc c0 c1 c2
    go_wp2_with (at_builtin; refine wpList_app rfl _ _ _ _ rfl Try.underlying24 _ 3 24 info_gate rfl (by decide) rfl ox4 1 [.int .i64 q1, .int .i64 q2, .int .i64 q3] (by first | rfl | simp [go_sem]) rfl ?_ ?_ ?_ ?_ ?_; (intro u hu; simp at hu; first | (subst hu; rfl) | (rcases hu with rfl | rfl <;> rfl) | (rcases hu with rfl | rfl | rfl <;> rfl) | (rcases hu with rfl | rfl | rfl | rfl <;> rfl) | (rcases hu with rfl | rfl | rfl | rfl | rfl <;> rfl) | (rcases hu with rfl | rfl | rfl | rfl | rfl | rfl <;> rfl)); omega; omega; (first | omega | (simp; omega)); intro A' c' w' ho' hg' hb')
    have HO := hide (gate_snoc ho')
    have HE := hide (e4.trans_own (Nat.le_refl _) ox4 hg')
    have HB := hide (HB4.out.grown ox4 (by decide) hg')
    have HI := hide (HI4.out.kept hg' (HI4.out.ne_type ox4 (by decide)))
    clear ho' e4 ox4 HB4 HI4 hg' hb'
    exact ⟨⟨(by (repeat (first | exact trivial | refine ⟨rfl, ?_⟩))), HE.out, HB.out, HI.out, p + 1, by omega, by go_num, _, _, rfl, by rw [HN.out]; exact HO.out⟩, (by simp [intOf] <;> omega)⟩
  · obtain rfl : p = N := by omega
    have hF : Hid (trimG gs = ((needTo gs n).take p).map (newGate gs)) := hide (by rw [trimG_map, ← hl.out, List.take_of_length_le (by rw [hN.out]; exact Nat.le_refl _)])
    have hF2 : Hid ((trimG gs).length = p) := hide (by rw [hF.out]; simp [hN.out])
    go_wp2_with fail
    go_ret
    exact ⟨_, _, _, rfl, hF2, by rw [hF.out]; exact ho, he⟩
set_option maxHeartbeats 800000 in
theorem spec_TrimCircuit_o (v : Int) (A : Option Addr) (n d : Nat) (gs : List Gt) (w : World) (h : Gates w A n gs) :
    Calls Try.prog 32 #[.int .i64 v, .slice A n d] w fun e w' =>
      ∃ A' n' c', e = .returned (.tuple #[.slice A' n' c', .bool (circB v gs)]) ∧ ObF 86 3 w' w.heap.size w'.heap.size A' n' c' (fl (if circB v gs then trimG gs else [])) ∧ Ext w w' := by
  have hl := hide h.len
  cases h1 : circB v gs
  · simp only [Bool.false_eq_true, if_false, fl]
    have H1 := hide h1
    clear h1
    go_enter Try.func32, Try.ntmps32
    go_wp2_with (go_at_call 66; refine (l6Good_c _ _ _ _ gs _ (h.ext (by (repeat (first | with_reducible exact Ext.refl _ | with_reducible assumption | ((with_reducible refine Ext.setCell ?_ ?_ _); rotate_left; focus (first | omega | (simp <;> omega))) | with_reducible refine Ext.alloc ?_ _ | with_reducible refine Ext.drewN ?_ _ | with_reducible refine Ext.drew ?_ | with_reducible refine Ext.trans ?_ (by with_reducible assumption)))))).mono ?_; rw [H1.out]; rintro e w1 ⟨rfl, he1⟩)
    go_ret2
    exact ⟨_, _, _, rfl, by simpa using ObF.empty (W := w1) (lo := w.heap.size) he1.size, by (repeat (first | with_reducible exact Ext.refl _ | with_reducible assumption | ((with_reducible refine Ext.setCell ?_ ?_ _); rotate_left; focus (first | omega | (simp <;> omega))) | with_reducible refine Ext.alloc ?_ _ | with_reducible refine Ext.drewN ?_ _ | with_reducible refine Ext.drew ?_ | with_reducible refine Ext.trans ?_ (by with_reducible assumption)))⟩
  · simp only [if_true]
    obtain ⟨-, hc2, hc3⟩ := circ_facts h1
    have hn : n ≤ 200 := by rw [hl.out]; exact hc2.2
    have hn1 : 1 ≤ n := by rw [hl.out]; exact hc2.1
    have HC := hide hc3
    have H1 := hide h1
    have HLe : Hid ((trimG gs).length ≤ 200) := hide (by unfold trimG; rw [trimTo_length]; have := countB_le (mark gs) gs.length; omega)
    clear h1 hc2 hc3
    go_enter Try.func32, Try.ntmps32
    go_wp2_with fail
    refine (l6Good_c _ _ _ _ gs _ (h.ext (by (repeat (first | with_reducible exact Ext.refl _ | with_reducible assumption | ((with_reducible refine Ext.setCell ?_ ?_ _); rotate_left; focus (first | omega | (simp <;> omega))) | with_reducible refine Ext.alloc ?_ _ | with_reducible refine Ext.drewN ?_ _ | with_reducible refine Ext.drew ?_ | with_reducible refine Ext.trans ?_ (by with_reducible assumption)))))).mono ?_; rw [H1.out]; rintro e w1 ⟨rfl, he1⟩
    go_wp2_with fail
    refine (l6Trim_c _ _ _ gs _ (h.ext he1) HC.out hn hn1).mono ?_
    rintro e w2 ⟨X, N, y, rfl, hN, ho, he2⟩
    have hN2 : N ≤ 200 := by have := hN.out; have := HLe.out; omega
    go_wp2_with fail
    go_ret2
    exact ⟨_, _, _, rfl, ObF.of (ho.lower he1.size) (by omega), he1.trans he2⟩
set_option maxHeartbeats 800000 in
theorem impl_TrimCircuit_o (v : Int) (A : Option Addr) (n d : Nat) (gs : List Gt) (w : World) (h : Gates w A n gs) :
    Calls Try.prog 33 #[.int .i64 v, .slice A n d] w fun e w' =>
      ∃ A' n' c', e = .returned (.tuple #[.slice A' n' c', .bool (circB v gs)]) ∧ ObF 86 3 w' w.heap.size w'.heap.size A' n' c' (fl (if circB v gs then trimG gs else [])) ∧ Ext w w' := by
  have hl := hide h.len
  cases h1 : circB v gs
  · simp only [Bool.false_eq_true, if_false, fl]
    have H1 := hide h1
    clear h1
    go_enter Try.func33, Try.ntmps33
    go_wp2_with (go_at_call 69; refine (impl_IsCircuit_c _ _ _ _ gs _ (h.ext (by (repeat (first | with_reducible exact Ext.refl _ | with_reducible assumption | ((with_reducible refine Ext.setCell ?_ ?_ _); rotate_left; focus (first | omega | (simp <;> omega))) | with_reducible refine Ext.alloc ?_ _ | with_reducible refine Ext.drewN ?_ _ | with_reducible refine Ext.drew ?_ | with_reducible refine Ext.trans ?_ (by with_reducible assumption)))))).mono ?_; rw [H1.out]; rintro e w1 ⟨rfl, he1⟩)
    go_ret2
    exact ⟨_, _, _, rfl, ObF.nil, by (repeat (first | with_reducible exact Ext.refl _ | with_reducible assumption | ((with_reducible refine Ext.setCell ?_ ?_ _); rotate_left; focus (first | omega | (simp <;> omega))) | with_reducible refine Ext.alloc ?_ _ | with_reducible refine Ext.drewN ?_ _ | with_reducible refine Ext.drew ?_ | with_reducible refine Ext.trans ?_ (by with_reducible assumption)))⟩
  · simp only [if_true]
    obtain ⟨-, hc2, hc3⟩ := circ_facts h1
    have hn : n ≤ 200 := by rw [hl.out]; exact hc2.2
    have hn1 : 1 ≤ n := by rw [hl.out]; exact hc2.1
    have HC := hide hc3
    have H1 := hide h1
    have HLe : Hid ((trimG gs).length ≤ 200) := hide (by unfold trimG; rw [trimTo_length]; have := countB_le (mark gs) gs.length; omega)
    clear h1 hc2 hc3
    go_enter Try.func33, Try.ntmps33
    go_wp2_with fail
    refine (impl_IsCircuit_c _ _ _ _ gs _ (h.ext (by (repeat (first | with_reducible exact Ext.refl _ | with_reducible assumption | ((with_reducible refine Ext.setCell ?_ ?_ _); rotate_left; focus (first | omega | (simp <;> omega))) | with_reducible refine Ext.alloc ?_ _ | with_reducible refine Ext.drewN ?_ _ | with_reducible refine Ext.drew ?_ | with_reducible refine Ext.trans ?_ (by with_reducible assumption)))))).mono ?_; rw [H1.out]; rintro e w1 ⟨rfl, he1⟩
    go_wp2_with fail
    refine (trim_c _ _ _ gs _ (h.ext he1) HC.out hn hn1).mono ?_
    rintro e w2 ⟨X, N, y, rfl, hN, ho, he2⟩
    have hN2 : N ≤ 200 := by have := hN.out; have := HLe.out; omega
    go_wp2_with fail
    go_ret2
    exact ⟨_, _, _, rfl, ObF.of (ho.lower he1.size) (by omega), he1.trans he2⟩
end Go.Proofs.Ytcbjaomjamfjcaa
