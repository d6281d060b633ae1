/-
  Pushing negations: the program's helpers; no condition.
-/
import Derived.Test.YtcbjaomjamfjcaaK25
import Derived.Test.YtcbjaomjamfjcaaK23p
namespace Go.Proofs.Ytcbjaomjamfjcaa
set_option linter.unusedSimpArgs false
set_option linter.unusedVariables false
open Go.RowKit

theorem BoxAt.own {w : World} {base g n : Nat} {t : TypeId} {cs : Array Value} {us : List Value} (h : BoxAt w g t cs) (hg : base ≤ g) (hn : n ≤ 140737488355328) (hu : cs.toList = us) (hl : us.length = n) : Own w base t 1 (some ⟨g, 0, none⟩) n n us := by
  subst hu
  have hsz : cs.size = n := by simpa using hl
  refine ⟨by simpa using hl, .inr ⟨g, n, cs, rfl, hg, h, Nat.le_refl _, by simp only [maxLen]; omega, by omega, ?_⟩⟩
  rw [Nat.mul_one]
  exact List.take_of_length_le (by omega)
theorem push_ins {xs : List Int} {k n : Nat} {g : Gt} (h : ∀ x ∈ insG g, 0 ≤ x ∧ x < k) (hl : xs.length = k) : ∀ x ∈ insG g, ∃ j : Nat, x = j ∧ (xs ++ List.replicate (n - k) (0 : Int))[j]? = some (xs.getD x.toNat 0) := by
  intro x hxi
  have h1 := h x hxi
  refine ⟨x.toNat, by omega, ?_⟩
  have h2 : xs[x.toNat]? = some (xs[x.toNat]'(by omega)) := List.getElem?_eq_getElem _
  rw [List.getElem?_append_left (by omega), List.getD_eq_getElem?_getD, h2]; rfl
theorem pushB_varK {no : List Int} {m : Nat} {a b : Int} : pushB no m (1, a, b) = (4, (m : Int), 0) := by simp [pushB]
theorem pushB_other {no : List Int} {m : Nat} {k a b : Int} (h : k ≠ 1) : pushB no m (k, a, b) = moveG (fun x => no.getD x.toNat 0) (dualK k, a, b) := by simp [pushB, h]
/-- The box of the gates put there. -/
structure Outs (w : World) (X base : Nat) (A : Option Addr) (n c : Nat) (gs : List Gt) : Prop where
  box : BoxAt w X 24 #[.slice A n c]
  own : Own w base 86 3 A n c ((fl gs).map (Value.int .i64))
  len : gs.length = n
theorem Outs.ext {w w' : World} {X base : Nat} {A : Option Addr} {n c : Nat} {gs : List Gt} (h : Outs w X base A n c gs) (he : Ext w w') : Outs w' X base A n c gs := ⟨h.box.ext he, h.own.ext he, h.len⟩
theorem Outs.store {w : World} {X base : Nat} {A : Option Addr} {n c : Nat} {gs : List Gt} (h : Outs w X base A n c gs) {b2 T m d : Nat} {us : List Value} (ht : Own w b2 3 1 (some ⟨T, 0, none⟩) m d us) (hX : X ≠ T) (j : Nat) (u : Value) : Outs (w.setCell ⟨T, j, none⟩ u) X base A n c gs :=
  ⟨h.box.setOther hX _, h.own.storeOther _ (fun hh => by have := h.own.ne_type ht (by decide); rcases this with h1 | h1 <;> simp_all [Value.ownBlock]), h.len⟩
def Pushed (w w' : World) (X base : Nat) (A : Option Addr) (n c : Nat) (gs : List Gt) : Prop :=
  ∃ A' c', Outs w' X base A' (n + 1) c' gs ∧ ((Value.slice A' (n + 1) c').ownBlock = (Value.slice A n c).ownBlock ∨ ∃ k, (Value.slice A' (n + 1) c').ownBlock = some k ∧ w.heap.size ≤ k) ∧ ∃ wm, w.grownBy wm (Value.slice A n c).ownBlock ∧ wm.grownBy w' (some X)
section
variable {w w' : World} {X base : Nat} {A : Option Addr} {n c : Nat} {gs gs' : List Gt}
theorem Pushed.box (h : Pushed w w' X base A n c gs) {b : Nat} {t : TypeId} {cs : Array Value} (hb : BoxAt w b t cs) (h1 : b ≠ X) (h2 : (Value.slice A n c).ownBlock ≠ some b) : BoxAt w' b t cs := by
  obtain ⟨_, _, _, _, wm, g1, g2⟩ := h
  have hlt := hb.lt
  exact (g2.block b (Nat.lt_of_lt_of_le hlt g1.size) (fun e => h1 (by injection e))).trans ((g1.block b hlt (fun e => h2 e.symm)).trans hb)
theorem Pushed.own (h : Pushed w w' X base A n c gs) {b2 : Nat} {e2 : TypeId} {s2 : Nat} {B : Option Addr} {m d : Nat} {us : List Value} (ho : Own w b2 e2 s2 B m d us)
    (h1 : (Value.slice B m d).ownBlock = none ∨ (Value.slice B m d).ownBlock ≠ (Value.slice A n c).ownBlock) (h2 : (Value.slice B m d).ownBlock ≠ some X) : Own w' b2 e2 s2 B m d us := by
  obtain ⟨_, _, _, _, wm, g1, g2⟩ := h
  exact (ho.kept g1 h1).kept g2 (.inr h2)
theorem Pushed.ext {w0 : World} (h : Pushed w w' X base A n c gs) (hf : Outs w X base A n c gs') (he : Ext w0 w) (hb : w0.heap.size ≤ base) (hX : w0.heap.size ≤ X) : Ext w0 w' := by
  obtain ⟨_, _, _, _, wm, g1, g2⟩ := h
  exact (he.trans_own hb hf.own g1).grown g2 (fun k hk => by injection hk with hk; omega)
/-- The row of ints at T stays. -/
theorem Pushed.row (h : Pushed w w' X base A n c gs) (hf : Outs w X base A n c gs') {b2 T m d : Nat} {us : List Value} (ho : Own w b2 3 1 (some ⟨T, 0, none⟩) m d us) (hT : T ≠ X) : Own w' b2 3 1 (some ⟨T, 0, none⟩) m d us :=
  h.own ho (ho.ne_type hf.own (by decide)) (by simp [Value.ownBlock]; exact hT)
/-- A box of another type stays. -/
theorem Pushed.other (h : Pushed w w' X base A n c gs) (hf : Outs w X base A n c gs') {b : Nat} {t : TypeId} {cs : Array Value} (hb : BoxAt w b t cs) (h1 : t ≠ 86) (h2 : b ≠ X) : BoxAt w' b t cs :=
  h.box hb h2 (hb.ne hf.own h1)
end
set_option maxRecDepth 100000 in
set_option maxHeartbeats 1600000 in
theorem Push_add_o (X base : Nat) (A : Option Addr) (n c : Nat) (x y z : Int) (gs : List Gt) (w : World) (h : Outs w X base A n c gs) (hn : n ≤ 400) (hbase : base ≤ w.heap.size) :
    Calls Try.prog 90 #[.agg #[.int .i64 x, .int .i64 y, .int .i64 z], .pointer (some ⟨X, 0, none⟩)] w fun e w' =>
      e = .returned (.int .i64 (n : Int)) ∧ Pushed w w' X base A n c (gs ++ [(x, y, z)]) := by
  have eW : Ext w (w.alloc (.cells #[.int .i64 x, .int .i64 y, .int .i64 z] 86)) := (Ext.refl _).alloc _
  have HX := hide (h.ext eW)
  have k3 : (w.alloc (.cells #[.int .i64 x, .int .i64 y, .int .i64 z] 86)).cell? ⟨X, 0, none⟩ = some (.slice A n c) := HX.out.box.cell 0 _ rfl
  have hXl := h.box.lt
  have k4 := h.box.cell 0 (.slice A n c) rfl
  have hlen := hide h.len
  have HE := hide eW
  clear h eW
  go_enter Try.func90, Try.ntmps90
  go_wp2_with ((at_builtin; refine wpList_app rfl _ _ _ _ rfl Try.underlying24 _ 3 24 info_gate rfl (by decide) rfl HX.out.own 1 [.int .i64 x, .int .i64 y, .int .i64 z] (by first | rfl | simp [go_sem]) rfl ?_ ?_ ?_ ?_ ?_; (intro u hu; simp at hu; first | (subst hu; rfl) | (rcases hu with rfl | rfl <;> rfl) | (rcases hu with rfl | rfl | rfl <;> rfl) | (rcases hu with rfl | rfl | rfl | rfl <;> rfl) | (rcases hu with rfl | rfl | rfl | rfl | rfl <;> rfl) | (rcases hu with rfl | rfl | rfl | rfl | rfl | rfl <;> rfl)); omega; omega; (first | omega | (simp; omega)); intro A' c' w' ho' hg' hb'); have hq := (HX.out.box.grown HX.out.own (by decide) hg'); have q0 := hq.cell 0 (.slice A n c) rfl; have q1 := hq.frozen 0; have HQ := hide hq; have HO := hide (gate_snoc ho'); have HG := hide hg'; have HK := hide hb'; clear hq ho' hg' hb' k3 k4)
  go_ret
  refine ⟨ret_int (by simp), _, _, ⟨HQ.out.set 0 _, HO.out.storeOther _ (HQ.out.ne HO.out (by decide)), by simp [hlen.out]⟩, HK.out.imp id (fun ⟨k, h1, h2⟩ => ⟨k, h1, by simp at h2; omega⟩), _, (HE.out.grownBy _).trans HG.out, grownBy_setCell' _ _ _⟩
theorem Push_add_enters : Enters Try.prog 90 := enters_of Try.func90 (by kernel_rfl) (by kernel_rfl)
theorem Push_yes_c (x : Int) (b T n yT : Nat) (ts : List Int) (f : Int → Int) (w : World) (h : Ints w (some ⟨T, 0, none⟩) n ts) (hc : w.cell? ⟨b, 0, none⟩ = some (.slice (some ⟨T, 0, none⟩) n yT)) (hx : ∃ j : Nat, x = j ∧ ts[j]? = some (f x)) :
    Calls Try.prog 91 #[.int .i64 x, .pointer (some ⟨b, 0, none⟩)] w fun e w' => e = .returned (.int .i64 (f x)) ∧ Ext w w' := by
  obtain ⟨j, rfl, hj⟩ := hx
  obtain ⟨ad, e, hcj, hjn⟩ := h.get hj
  injection e with e
  subst e
  have hbd := h.bound
  generalize f j = v at *
  have HJ := hide hj
  have hcj : w.cell? ⟨T, j, none⟩ = some (.int .i64 v) := by rwa [show (⟨T, 0, none⟩ : Addr).add j = ⟨T, j, none⟩ by unfold Addr.add; split <;> simp_all] at hcj
  clear hj
  go_enter Try.func91, Try.ntmps91
  go_wp2
  go_ret
  exact ⟨rfl, Ext.refl _⟩
theorem Push_yes_enters : Enters Try.prog 91 := enters_of Try.func91 (by kernel_rfl) (by kernel_rfl)
theorem Push_no_c (x : Int) (b T n yT : Nat) (ts : List Int) (f : Int → Int) (w : World) (h : Ints w (some ⟨T, 0, none⟩) n ts) (hc : w.cell? ⟨b, 0, none⟩ = some (.slice (some ⟨T, 0, none⟩) n yT)) (hx : ∃ j : Nat, x = j ∧ ts[j]? = some (f x)) :
    Calls Try.prog 93 #[.int .i64 x, .pointer (some ⟨b, 0, none⟩)] w fun e w' => e = .returned (.int .i64 (f x)) ∧ Ext w w' := by
  obtain ⟨j, rfl, hj⟩ := hx
  obtain ⟨ad, e, hcj, hjn⟩ := h.get hj
  injection e with e
  subst e
  have hbd := h.bound
  generalize f j = v at *
  have HJ := hide hj
  have hcj : w.cell? ⟨T, j, none⟩ = some (.int .i64 v) := by rwa [show (⟨T, 0, none⟩ : Addr).add j = ⟨T, j, none⟩ by unfold Addr.add; split <;> simp_all] at hcj
  clear hj
  go_enter Try.func93, Try.ntmps93
  go_wp2
  go_ret
  exact ⟨rfl, Ext.refl _⟩
theorem Push_no_enters : Enters Try.prog 93 := enters_of Try.func93 (by kernel_rfl) (by kernel_rfl)
theorem dualKind_c (k : Int) (w : World) :
    Calls Try.prog 92 #[.int .i64 k] w fun e w' => e = .returned (.int .i64 (dualK k)) ∧ w' = w := by
  by_cases h5 : k = 5
  · subst h5
    go_enter Try.func92, Try.ntmps92
    go_wp2
    go_ret
    exact ⟨rfl, rfl⟩
  have h5' : (k == 5) = false := by simpa using h5
  by_cases h6 : k = 6
  · subst h6
    go_enter Try.func92, Try.ntmps92
    go_wp2
    go_ret
    exact ⟨rfl, rfl⟩
  have h6' : (k == 6) = false := by simpa using h6
  by_cases h2 : k = 2
  · subst h2
    go_enter Try.func92, Try.ntmps92
    go_wp2
    go_ret
    exact ⟨rfl, rfl⟩
  have h2' : (k == 2) = false := by simpa using h2
  by_cases h3 : k = 3
  · subst h3
    go_enter Try.func92, Try.ntmps92
    go_wp2
    go_ret
    exact ⟨rfl, rfl⟩
  have h3' : (k == 3) = false := by simpa using h3
  have hd : dualK k = k := by simp [dualK, h2, h3, h5, h6]
  rw [hd]
  clear hd h2 h3 h5 h6
  go_enter Try.func92, Try.ntmps92
  go_wp2
  go_ret
  exact ⟨rfl, rfl⟩
end Go.Proofs.Ytcbjaomjamfjcaa
