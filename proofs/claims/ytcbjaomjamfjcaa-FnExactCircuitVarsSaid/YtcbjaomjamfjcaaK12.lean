/-
  slices.Backward at gates: what its iterator yields; the program's needed gates.
-/
import Derived.RangeFuncNested
import Derived.RangeFuncBound
import Derived.RangeFuncCalls
import Derived.RangeFuncLeaves
import Derived.RangeFuncBox
import Derived.Shelf.Abstract
import Derived.OwnWalkIn
import Derived.TacticsInMore
import Derived.LoopNIn
import Derived.LoopIn
import Derived.Test.YtcbjaomjamfjcaaK11
namespace Go.Proofs.Ytcbjaomjamfjcaa
set_option linter.unusedSimpArgs false
set_option linter.unusedVariables false
open Go.RowKit Go.Shelf
attribute [local go_sem] Oper.semAt_some

/-- Block Bs and the blocks below n₀ stay as they are. -/
def KeepB (Bs n₀ : Nat) (A B : World) : Prop := ∀ k o, (k = Bs ∨ k < n₀) → A.heap[k]? = some o → B.heap[k]? = some o
theorem KeepB.refl {Bs n₀ : Nat} (W : World) : KeepB Bs n₀ W W := fun _ _ _ h => h
theorem KeepB.trans {Bs n₀ : Nat} {A B C : World} (h : KeepB Bs n₀ A B) (k : KeepB Bs n₀ B C) : KeepB Bs n₀ A C := fun i o hi ho => k i o hi (h i o hi ho)
theorem KeepB.cell {Bs n₀ : Nat} {A B : World} (h : KeepB Bs n₀ A B) {p : Addr} {u : Value} (hp : p.block = Bs ∨ p.block < n₀) (hc : A.cell? p = some u) : B.cell? p = some u := by
  have hb := World.block_lt_of_cell? A p hc
  have h1 : A.heap[p.block]? = some (A.heap[p.block]'hb) := Array.getElem?_eq_getElem hb
  have h2 := h _ _ hp h1
  rw [← hc]
  exact World.cell?_of_block (by rw [h2, h1])
theorem KeepB.ext {Bs n₀ : Nat} {A B : World} (h : Ext A B) : KeepB Bs n₀ A B := fun k o _ hk => (h.block k (Array.getElem?_eq_some_iff.1 hk).1).trans hk
theorem KeepB.setCell {Bs n₀ : Nat} {A : World} {p : Addr} (u : Value) (h1 : p.block ≠ Bs) (h2 : n₀ ≤ p.block) : KeepB Bs n₀ A (A.setCell p u) := fun k o hk ho =>
  (Below.heap_setCell A p u k (by rcases hk with rfl | hk; exact fun e => h1 e.symm; omega)).trans ho
theorem KeepB.grown {Bs n₀ : Nat} {A B : World} {row : Option Nat} (hg : A.grownBy B row) (h1 : ∀ r, row = some r → r ≠ Bs ∧ n₀ ≤ r) : KeepB Bs n₀ A B := fun k o hk ho =>
  (hg.block k (Array.getElem?_eq_some_iff.1 ho).1 (fun e => by have := h1 k e.symm; omega)).trans ho
theorem keepB_b {Bs n₀ : Nat} {w : World} (h1 : Bs < w.heap.size) (h2 : n₀ ≤ w.heap.size) (W : World) (l : Nat) (o o' : Obj) (hl : w.heap.size ≤ l) (h : W.heap[l]? = some o) (_ : o.isCells = false) (_ : o.isWalk = false) : KeepB Bs n₀ W (W.putObj l o') :=
  KeepB.grown (Go.grownBy_putObj' W l o') (fun r e => by cases e; omega)

/-- A gate with its index. -/
abbrev Pk (gs : List Gt) : Type := { x : Nat × Gt // gs[x.1]? = some x.2 }
def pkAt (gs : List Gt) (h : 0 < gs.length) (i : Nat) : Pk gs := if hi : i < gs.length then ⟨(i, gs[i]), by simp⟩ else ⟨(0, gs[0]), by simp⟩
theorem pkAt_val {gs : List Gt} (h : 0 < gs.length) {i : Nat} {g : Gt} (hx : gs[i]? = some g) : (pkAt gs h i).1 = (i, g) := by
  obtain ⟨hi, rfl⟩ := List.getElem?_eq_some_iff.1 hx
  unfold pkAt
  rw [dif_pos hi]
/-- What has come when k rounds are over: the last k gates, downwards. -/
def bwTo (gs : List Gt) (h : 0 < gs.length) (k : Nat) : List (Pk gs) := (List.range k).map fun j => pkAt gs h (gs.length - 1 - j)
theorem bwTo_succ (gs : List Gt) (h : 0 < gs.length) (k : Nat) : bwTo gs h (k + 1) = bwTo gs h k ++ [pkAt gs h (gs.length - 1 - k)] := by simp [bwTo, List.range_succ]
theorem bwTo_length (gs : List Gt) (h : 0 < gs.length) (k : Nat) : (bwTo gs h k).length = k := by simp [bwTo]

set_option maxRecDepth 100000 in
set_option maxHeartbeats 2000000 in
theorem bw1_in (F : Fence) (nf : Nat) (hF : F.fn 154) (hro : F.round = none) (hn : 1 ≤ nf) (l Bs n₀ len cap : Nat) (A : Option Addr) (gs : List Gt) (hlen : len ≤ 200) (hp : 0 < gs.length) (J Jx : List (Pk gs) → World → Prop)
    (hY : ∀ pre x W, J pre W → pre.length < len → YieldAt F (nf - 1) Try.prog l #[.int .i64 (x.1.1 : Int), gv x.1.2] W fun e W' =>
      (e = .returned (.bool true) ∧ J (pre ++ [x]) W' ∧ KeepB Bs n₀ W W') ∨ (e = .returned (.bool false) ∧ Jx (pre ++ [x]) W'))
    (W : World) (hBs : W.cell? ⟨Bs, 0, none⟩ = some (.slice A len cap)) (hc : Gates W A len gs) (hA : ∀ g, A = some ⟨g, 0, none⟩ → g < n₀) (h0 : J [] W) :
    CallsIn F nf Try.prog 154 #[.func (.yield l) #[] #[], .pointer (some ⟨Bs, 0, none⟩)] W fun e W' => (∃ v, e = .returned v) ∧
      ((∃ ys, ys = bwTo gs hp len ∧ J ys W') ∨ (∃ pre, (∃ k, k ≤ len ∧ pre = bwTo gs hp k) ∧ Jx pre W')) := by
  refine callsIn_of_wp Try.func154 rfl hF ?_ hro
  simp only [Try.ntmps154, List.size_toArray, List.length_cons, List.length_nil, Nat.reduceAdd, Nat.reduceSub, Array.replicate_succ, Array.replicate_zero, List.push_toArray, List.append_toArray, List.nil_append, List.cons_append]
  gi_wp2
  gi_loopw [3] (fun i wr => ∃ k m : Nat, Hid (k + m = len) ∧ i = .int .i64 ((m : Int) - 1) ∧ J (bwTo gs hp k) wr ∧ KeepB Bs n₀ W wr)
    (fun i _ => (intOf i + 1).toNat)
  case atStart => exact ⟨0, len, by simp [Hid], rfl, h0, KeepB.refl _⟩
  case round =>
    obtain ⟨k, m, hkm, rfl, hJs, hnx⟩ := hrel
    have hBs' := hnx.cell (p := ⟨Bs, 0, none⟩) (.inl rfl) hBs
    cases m with
    | zero =>
      obtain rfl : k = len := hkm.out
      gi_wp2
      go_end0
      exact ⟨⟨_, rfl⟩, .inl ⟨_, rfl, hJs⟩⟩
    | succ m =>
      have hm : m < len := by have := hkm.out; omega
      obtain ⟨g, kk, a, b, rfl, hx, c0, c1, c2⟩ := hc.at_ hm
      have hg := hA g rfl
      have d0 := hnx.cell (p := ⟨g, m * 3, none⟩) (.inr hg) c0
      have d1 := hnx.cell (p := ⟨g, m * 3 + 1, none⟩) (.inr hg) c1
      have d2 := hnx.cell (p := ⟨g, m * 3 + 2, none⟩) (.inr hg) c2
      obtain ⟨px, hpx, hbs⟩ : ∃ px : Pk gs, px.1 = (m, (kk, a, b)) ∧ Hid (bwTo gs hp k ++ [px] = bwTo gs hp (k + 1)) := ⟨pkAt gs hp m, pkAt_val hp hx.out, hide (by rw [bwTo_succ, show gs.length - 1 - k = m by have := hkm.out; have := hc.len; omega])⟩
      obtain ⟨fn, tmps, assign, body, hy, hR⟩ := hY _ px wr hJs (by rw [bwTo_length]; have := hkm.out; omega)
      simp only [hpx, gv] at hy
      clear hpx
      rw [hbs.out] at hR
      have hkm2 : Hid (k + 1 + m = len) := hide (by have := hkm.out; omega)
      have hmm : ((m + 1 : Nat) : Int) - 1 = (m : Int) := by omega
      rw [hmm]
      clear hmm c0 c1 c2
      gi_wp2
      refine hR.mono ?_
      rintro e W3 (⟨rfl, hJ3, hk3⟩ | ⟨rfl, hJx3⟩)
      · gi_wp2
        go_roundw
        case rel => exact ⟨k + 1, m, hkm2, by first | rfl | go_num, hJ3, hnx.trans hk3⟩
        case measure => simp [intOf]
      · gi_wp2
        refine bodyPost_ret (results_none rfl _ _ _) rfl ?_
        exact ⟨⟨_, rfl⟩, .inr ⟨_, ⟨k + 1, by have := hkm.out; omega, rfl⟩, hJx3⟩⟩
theorem bw_stops (F : Fence) (nf : Nat) (hF : F.fn 154) (hro : F.round = none) (hn : 1 ≤ nf) (Bs n₀ len cap : Nat) (A : Option Addr) (gs : List Gt) (hlen : len ≤ 200) (hp : 0 < gs.length) (w : World) (hB : Bs < w.heap.size)
    (hc : w.cell? ⟨Bs, 0, none⟩ = some (.slice A len cap)) (hG : Gates w A len gs) (hA : ∀ g, A = some ⟨g, 0, none⟩ → g < n₀) :
    SeqStopsK F nf Try.prog 154 #[.pointer (some ⟨Bs, 0, none⟩)] (fun x : Pk gs => #[Value.int .i64 (x.1.1 : Int), gv x.1.2]) (KeepB Bs n₀) (fun ys => ys = bwTo gs hp len)
      (fun pre => ∃ k, k ≤ len ∧ pre = bwTo gs hp k) len w := fun l J Jx W hW _ _ hY h0 =>
  bw1_in F nf hF hro hn l Bs n₀ len cap A gs hlen hp J Jx hY W ((hW.cell (p := ⟨Bs, 0, none⟩) hB).trans hc) (hG.ext hW) hA h0
set_option maxHeartbeats 1000000 in
theorem bw_in (F : Fence) (nf : Nat) (hF : F.fn 124) (hro : F.round = none) (A : Option Addr) (n c : Nat) (w : World) :
    CallsIn F nf Try.prog 124 #[.slice A n c] w fun e w' => e = .returned (.func (.func 154) #[] #[.pointer (some ⟨w.heap.size, 0, none⟩)]) ∧ w' = w.alloc (.cells #[.slice A n c] 24) := by
  refine callsIn_of_wp Try.func124 rfl hF ?_ hro
  simp only [Try.ntmps124, List.size_toArray, List.length_cons, List.length_nil, Nat.reduceAdd, Nat.reduceSub, Array.replicate_succ, Array.replicate_zero, List.push_toArray, List.append_toArray, List.nil_append, List.cons_append]
  gi_wp2
  go_ret
  exact ⟨rfl, rfl⟩
end Go.Proofs.Ytcbjaomjamfjcaa
