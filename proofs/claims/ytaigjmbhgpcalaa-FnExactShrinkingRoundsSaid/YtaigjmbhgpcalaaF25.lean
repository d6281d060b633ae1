/-
  The program's walk over all clauses, with the function that keeps the allowed ones; no condition.
-/
import Derived.Test.YtaigjmbhgpcalaaF24
import Derived.Test.YtaigjmbhgpcalaaF9
import Derived.RangeFuncBox

namespace Go.Proofs.Ytaigjmbhgpcalaa
set_option linter.unusedSimpArgs false
set_option linter.unusedVariables false
open Go.RowKit
/-! ### What turns only rows of rows and their boxes -/
structure KeepI (b0 : Nat) (w w' : World) : Prop where
  os : w'.os = w.os
  tape : w'.tape = w.tape
  output : w'.output = w.output
  size : w.heap.size ≤ w'.heap.size
  low : ∀ k, k < b0 → k < w.heap.size → w'.heap[k]? = w.heap[k]?
  typ : ∀ (k : Nat) (cs : Array Value) (e : TypeId) (p : Nat × Nat), w.heap[k]? = some (Obj.cells cs e p) → e ≠ 35 → e ≠ 22 → w'.heap[k]? = w.heap[k]?
section
variable {b0 : Nat} {w w' w'' : World}
theorem KeepI.refl (b0 : Nat) (w : World) : KeepI b0 w w := ⟨rfl, rfl, rfl, Nat.le_refl _, fun _ _ _ => rfl, fun _ _ _ _ _ _ _ => rfl⟩
theorem KeepI.trans (h : KeepI b0 w w') (k : KeepI b0 w' w'') : KeepI b0 w w'' :=
  ⟨k.os.trans h.os, k.tape.trans h.tape, k.output.trans h.output, Nat.le_trans h.size k.size,
    fun j h1 h2 => (k.low j h1 (Nat.lt_of_lt_of_le h2 h.size)).trans (h.low j h1 h2),
    fun j cs e p hj h1 h2 => (k.typ j cs e p ((h.typ j cs e p hj h1 h2).trans hj) h1 h2).trans (h.typ j cs e p hj h1 h2)⟩
theorem KeepI.ofExt (b0 : Nat) (h : Ext w w') : KeepI b0 w w' := ⟨h.os, h.tape, h.output, h.size, fun k _ h2 => h.block k h2, fun k cs e p hk _ _ => h.block k (Array.getElem?_eq_some_iff.1 hk).1⟩
theorem KeepI.grown {base : Nat} {A : Option Addr} {n c : Nat} {us : List Value} (ho : Own w base 35 1 A n c us) (hb : b0 ≤ base) (hg : w.grownBy w' (Value.slice A n c).ownBlock) : KeepI b0 w w' :=
  ⟨hg.os, hg.tape, hg.output, hg.size, fun k h1 h2 => hg.block k h2 (fun e => by have := (ho.lt k e.symm).1; omega),
    fun k cs e p hk h1 _ => hg.block k (Array.getElem?_eq_some_iff.1 hk).1 (fun h => by
      obtain ⟨ds, h3⟩ := ho.block_type h.symm
      rw [hk] at h3; injection h3 with h3; injection h3 with h4 h5 h6; exact h1 h5)⟩
theorem KeepI.box {b : Nat} {cs : Array Value} (hb : BoxAt w b 22 cs) (h0 : b0 ≤ b) (u : Value) : KeepI b0 w (w.setCell ⟨b, 0, none⟩ u) :=
  ⟨rfl, rfl, rfl, by simp [World.setCell], fun k h1 _ => Below.heap_setCell _ _ _ _ (by simp; omega),
    fun k cs' e p hk _ h2 => Below.heap_setCell _ _ _ _ (fun hkb => by
      have hkb : k = b := by simpa using hkb
      subst hkb
      have h3 : w.heap[k]? = some (.cells cs 22 (0, 0)) := hb
      rw [hk] at h3; injection h3 with h3; injection h3 with h4 h5 h6; exact h2 h5)⟩
theorem KeepI.boxAt (h : KeepI b0 w w') {b : Nat} {t : TypeId} {cs : Array Value} (hb : BoxAt w b t cs) (h1 : t ≠ 35) (h2 : t ≠ 22) : BoxAt w' b t cs := (h.typ b cs t _ hb h1 h2).trans hb
theorem KeepI.own (h : KeepI b0 w w') {base m d : Nat} {B : Option Addr} {us : List Value} (ho : Own w base 3 1 B m d us) : Own w' base 3 1 B m d us := by
  refine ⟨ho.1, ?_⟩
  rcases ho.2 with hn | ⟨g, cap, cur, hv, hg, hh, r⟩
  · exact .inl hn
  · exact .inr ⟨g, cap, cur, hv, hg, (h.typ g cur _ _ hh (by decide) (by decide)).trans hh, r⟩
theorem KeepI.rowV (h : KeepI b0 w w') {lo hi : Nat} {u : Value} {xs : List Int} (hr : RowV w lo hi 3 u xs) : RowV w' lo hi 3 u xs := by
  obtain ⟨B, d, rfl, ho, hb, hk⟩ := hr
  exact ⟨B, d, rfl, h.own ho, hb, hk⟩
theorem KeepI.prows (h : KeepI b0 w w') {lo hi : Nat} {ps : List (Value × List Int)} (hp : PRows w lo hi 3 ps) : PRows w' lo hi 3 ps := ⟨fun p hq => h.rowV (hp.row p hq), hp.apart⟩
theorem KeepI.ext {w0 : World} (h : KeepI w0.heap.size w w') (he : Ext w0 w) : Ext w0 w' :=
  ⟨h.os.trans he.os, h.tape.trans he.tape, h.output.trans he.output, Nat.le_trans he.size h.size, fun k hk => (h.low k hk (Nat.lt_of_lt_of_le hk he.size)).trans (he.block k hk)⟩
end
/-! ### The state of the walk over all clauses -/
structure StA (w0 : World) (v : Int) (W : Int) (C : Option Addr) (nc dc h1 : Nat) (w : World) (ps : List (Value × List Int)) : Prop where
  ext : Ext w0 w
  bf : BoxAt w w0.heap.size 28 #[.int .i64 v, .slice C nc dc]
  bw : BoxAt w (w0.heap.size + 1) 3 #[.int .i64 W]
  out : ∃ A n c, BoxAt w (w0.heap.size + 2) 22 #[.slice A n c] ∧ Own w (w0.heap.size + 3) 35 1 A n c (ps.map (·.1))
  rows : PRows w w0.heap.size h1 3 ps
  hle : w0.heap.size ≤ h1 ∧ h1 ≤ w.heap.size
section
variable {w0 w w' : World} {v W : Int} {C : Option Addr} {nc dc h1 h2 : Nat} {ps : List (Value × List Int)}
theorem StA.wider (h : StA w0 v W C nc dc h1 w ps) (h3 : h1 ≤ h2) (h4 : h2 ≤ w.heap.size) : StA w0 v W C nc dc h2 w ps :=
  ⟨h.ext, h.bf, h.bw, h.out, h.rows.wider h3, Nat.le_trans h.hle.1 h3, h4⟩
theorem StA.more (h : StA w0 v W C nc dc h1 w ps) (he : Ext w w') : StA w0 v W C nc dc h1 w' ps :=
  ⟨h.ext.trans he, h.bf.ext he, h.bw.ext he, let ⟨A, n, c, hb, ho⟩ := h.out; ⟨A, n, c, hb.ext he, ho.ext he⟩, h.rows.ext he, h.hle.1, Nat.le_trans h.hle.2 he.size⟩
end
theorem allowedAll_lit_enters : Enters Try.prog 47 := enters_of Try.func47 (by kernel_rfl) (by kernel_rfl)
set_option maxRecDepth 100000 in
set_option maxHeartbeats 3200000 in
theorem allowedAll_lit_c (w0 : World) (v : Nat) (W : Int) (C : Option Addr) (nc dc : Nat) (cls : List (List Int)) (hcl : Intss w0 C nc cls) (hc : ∀ c ∈ cls, ∀ x ∈ c, -12 ≤ x ∧ x ≤ 12 ∧ x ≠ 0) (hW : 0 ≤ W ∧ W ≤ 6)
    (h1 : Nat) (X : Option Addr) (y z : Nat) (c : List Int) (w : World) (ps : List (Value × List Int)) (st : StA w0 v W C nc dc h1 w ps) (hr : RowV w h1 w.heap.size 3 (.slice X y z) c) (hl : ps.length ≤ 100000) :
    Calls Try.prog 47 #[.slice X y z, .pointer (some ⟨w0.heap.size, 0, none⟩), .pointer (some ⟨w0.heap.size + 1, 0, none⟩), .pointer (some ⟨w0.heap.size + 2, 0, none⟩)] w fun e w' =>
      e = .returned (.tuple #[]) ∧ StA w0 v W C nc dc w'.heap.size w' (ps ++ hdP (allowB cls W c) (.slice X y z, c)) ∧ KeepI w0.heap.size w w' := by
  have f0 := st.bf.cell 0 (.int .i64 v) rfl
  have f1 := st.bf.cell 1 (.slice C nc dc) rfl
  have f2 := st.bw.cell 0 (.int .i64 W) rfl
  obtain ⟨B, d, e, hro, hrl, -⟩ := hr
  injection e with e1 e2 e3
  subst e1; subst e2; subst e3
  have HA := hide (allowed_c (v : Int) W C nc dc cls X c.length z c w (hcl.ext st.ext) (hro.ints (by omega)) hc hW)
  have HR : Hid (RowV w h1 w.heap.size 3 (.slice X c.length z) c) := hide ⟨X, z, rfl, hro, hrl, fun k hk => (hro.lt k hk).2⟩
  have HS := hide st
  clear hc hro
  cases hal : allowB cls W c
  · rw [hal] at HA
    clear hal st
    go_enter Try.func47, Try.ntmps47
    go_wp2_with fail
    refine HA.out.mono ?_
    rintro e w1 ⟨rfl, he1⟩
    have hz := he1.size
    have hz2 := HS.out.hle.2
    go_wp2_with fail
    go_end0
    exact ⟨rfl, by simpa [hdP] using (HS.out.more he1).wider (by omega) (Nat.le_refl _), KeepI.ofExt _ he1⟩
  · rw [hal] at HA
    clear hal
    obtain ⟨A, n, q, hb, ho⟩ := st.out
    have hb3 := hb.cell 0 (.slice A n q) rfl
    have hbl := hb.lt
    have hn : ps.length = n := by have := ho.len; simpa using this
    have HN := hide hn
    have HLo : Hid (w0.heap.size + 3 ≤ w.heap.size) := hide hbl
    clear st
    go_enter Try.func47, Try.ntmps47
    go_wp2_with fail
    refine HA.out.mono ?_
    rintro e w1 ⟨rfl, he1⟩
    have HB := hide (hb.ext he1)
    have HOw := hide (ho.ext he1)
    have k3 := he1.cell hb3
    have hz := he1.size
    have hl1 : w0.heap.size + 2 < w1.heap.size := by omega
    have hn2 : n ≤ 100000 := by omega
    have HE1 := hide he1
    clear he1 hb ho hb3 f0 f1 f2 HA hn
    go_wp2_with ((at_builtin; refine wpList_app rfl _ _ _ _ rfl Try.underlying22 _ 1 24 info_ints rfl (by decide) rfl HOw.out 1 [.slice X c.length z] (by first | rfl | simp [go_sem]) rfl ?_ ?_ ?_ ?_ ?_; (intro u hu; simp at hu; first | (subst hu; rfl) | (rcases hu with rfl | rfl <;> rfl) | (rcases hu with rfl | rfl | rfl <;> rfl) | (rcases hu with rfl | rfl | rfl | rfl <;> rfl) | (rcases hu with rfl | rfl | rfl | rfl | rfl <;> rfl) | (rcases hu with rfl | rfl | rfl | rfl | rfl | rfl <;> rfl)); omega; omega; (first | omega | (simp; omega)); intro A' c' w' ho' hg' hb'); have hq := (HB.out.grown HOw.out (by decide) hg'); have q0 := hq.cell 0 (.slice A n q) rfl; have q1 := hq.frozen 0; have HQ := hide hq; have HO := hide ho'; have HG := hide hg'; clear hq ho' hg' hb' k3)
    go_end0
    have hk1 : KeepI w0.heap.size w w' := (KeepI.ofExt _ HE1.out).trans (KeepI.grown HOw.out (by omega) HG.out)
    have hk2 : KeepI w0.heap.size w (w'.setCell ⟨w0.heap.size + 2, 0, none⟩ (.slice A' (n + 1) c')) := hk1.trans (KeepI.box HQ.out (by omega) _)
    have hs2 : (w'.setCell ⟨w0.heap.size + 2, 0, none⟩ (.slice A' (n + 1) c')).heap.size = w'.heap.size := by simp [World.setCell]
    have hz2 := HS.out.hle
    have hz3 := HG.out.size
    refine ⟨rfl, ⟨hk2.ext HS.out.ext, hk2.boxAt HS.out.bf (by decide) (by decide), hk2.boxAt HS.out.bw (by decide) (by decide), ⟨A', n + 1, c', HQ.out.set 0 _, ?_⟩, ?_, by omega, Nat.le_refl _⟩, hk2⟩
    · have := HO.out.storeOther (.slice A' (n + 1) c') (p := ⟨w0.heap.size + 2, 0, none⟩) (HQ.out.ne HO.out (by decide))
      simpa [hdP] using this
    · have h5 := PRows.append (hk2.prows HS.out.rows) (PRows.hd true (hk2.rowV HR.out)) hz2.1 hz2.2
      exact h5.wider (by omega)
end Go.Proofs.Ytaigjmbhgpcalaa
