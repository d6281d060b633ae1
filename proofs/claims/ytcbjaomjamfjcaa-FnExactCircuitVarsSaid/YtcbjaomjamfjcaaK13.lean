/-
  The program's needed gates.
-/
import Derived.Test.YtcbjaomjamfjcaaK12
import Derived.Test.YtcbjaomjamfjcaaK12r
namespace Go.Proofs.Ytcbjaomjamfjcaa
set_option linter.unusedSimpArgs false
set_option linter.unusedVariables false
open Go.RowKit Go.Shelf
attribute [local go_sem] Oper.semAt_some

/-- The marked ones among the last k, downwards. -/
def outDown (gs : List Gt) (n : Nat) : Nat → List Int
  | 0 => []
  | k + 1 => outDown gs n k ++ (if mark gs (n - 1 - k) then [((n - 1 - k : Nat) : Int)] else [])
theorem outDown_length (gs : List Gt) (n k : Nat) : (outDown gs n k).length ≤ k := by
  induction k with
  | zero => simp [outDown]
  | succ k ih => simp only [outDown, List.length_append]; split <;> simp <;> omega
theorem outDown_rev (gs : List Gt) (n : Nat) : ∀ k, k ≤ n → needTo gs n = needTo gs (n - k) ++ (outDown gs n k).reverse := by
  intro k
  induction k with
  | zero => intro _; simp [outDown]
  | succ k ih =>
    intro hk
    rw [ih (by omega), show n - k = (n - (k + 1)) + 1 by omega]
    simp only [needTo, outDown]
    rw [show n - (k + 1) = n - 1 - k by omega]
    split <;> simp
theorem outDown_all (gs : List Gt) (n : Nat) : (outDown gs n n).reverse = needTo gs n := by
  rw [outDown_rev gs n n (Nat.le_refl _), Nat.sub_self]; rfl
theorem Own.keptFrom {w w' : World} {base : Nat} {e : TypeId} {sz : Nat} {A : Option Addr} {n c : Nat} {us : List Value} (h : Own w base e sz A n c us) {row : Option Nat} (hg : w.grownBy w' row)
    (hr : ∀ r, row = some r → ∃ o : Obj, w.heap[r]? = some o ∧ o.isCells = false) : Own w' base e sz A n c us := by
  refine h.kept hg ?_
  cases hA : (Value.slice A n c).ownBlock with
  | none => exact .inl rfl
  | some g =>
    refine .inr fun e => ?_
    obtain ⟨cs, h1⟩ := h.block_type hA
    obtain ⟨o, h2, h3⟩ := hr g e.symm
    rw [h1] at h2
    injection h2 with h2
    subst h2
    simp [Obj.isCells] at h3
theorem BoxAt.keptFrom {w w' : World} {b : Nat} {t : TypeId} {cs : Array Value} (h : BoxAt w b t cs) {row : Option Nat} (hg : w.grownBy w' row)
    (hr : ∀ r, row = some r → ∃ o : Obj, w.heap[r]? = some o ∧ o.isCells = false) : BoxAt w' b t cs :=
  (hg.block b h.lt (fun e => by
    obtain ⟨o, h2, h3⟩ := hr b e.symm
    have h1 : w.heap[b]? = some (.cells cs t (0, 0)) := h
    rw [h1] at h2
    injection h2 with h2
    subst h2
    simp [Obj.isCells] at h3)).trans h
theorem Own.others {w w' : World} {base : Nat} {e : TypeId} {sz : Nat} {A : Option Addr} {n c : Nat} {us : List Value} (h : Own w base e sz A n c us) (hg : w.grownBy w' (Value.slice A n c).ownBlock) : Go.KeepsOthers w w' :=
  Go.KeepsOthers.of_grownBy hg (fun j o e hj => by
    obtain ⟨cs, h1⟩ := h.block_type e
    rw [h1] at hj
    injection hj with hj
    subst hj
    rfl)
theorem keepsOthers_ext {w w' : World} (h : Ext w w') : Go.KeepsOthers w w' := ⟨h.size, fun k o hk _ => (h.block k (Array.getElem?_eq_some_iff.1 hk).1).trans hk⟩
/-- The marks and what has been put out, when pre has come. -/
def nstep {gs : List Gt} (s : List Bool × List Int) (x : Pk gs) : List Bool × List Int := if s.1.getD x.1.1 false then (setT s.1 (insG x.1.2), s.2 ++ [(x.1.1 : Int)]) else s
def nfold (gs : List Gt) (pre : List (Pk gs)) : List Bool × List Int := pre.foldl nstep (need0 gs.length, [])
theorem nfold_snoc {gs : List Gt} (pre : List (Pk gs)) (x : Pk gs) : nfold gs (pre ++ [x]) = nstep (nfold gs pre) x := by simp [nfold]
theorem nfold_len {gs : List Gt} (pre : List (Pk gs)) : (nfold gs pre).1.length = gs.length ∧ (nfold gs pre).2.length ≤ pre.length := by
  have key : ∀ (pre : List (Pk gs)) (s : List Bool × List Int), (pre.foldl nstep s).1.length = s.1.length ∧ (pre.foldl nstep s).2.length ≤ s.2.length + pre.length := by
    intro pre
    induction pre with
    | nil => intro s; simp
    | cons x pre ih =>
      intro s
      simp only [List.foldl_cons, List.length_cons]
      obtain ⟨h1, h2⟩ := ih (nstep s x)
      have h3 : (nstep s x).1.length = s.1.length ∧ (nstep s x).2.length ≤ s.2.length + 1 := by
        unfold nstep; split
        · simp [setT_length]
        · simp
      omega
  have := key pre (need0 gs.length, [])
  simpa [nfold, need0] using this
theorem nfold_yes {gs : List Gt} {pre : List (Pk gs)} {x : Pk gs} (h : (nfold gs pre).1.getD x.1.1 false = true) : nfold gs (pre ++ [x]) = (setT (nfold gs pre).1 (insG x.1.2), (nfold gs pre).2 ++ [(x.1.1 : Int)]) := by
  rw [nfold_snoc]; unfold nstep; rw [h]; rfl
theorem nfold_no {gs : List Gt} {pre : List (Pk gs)} {x : Pk gs} (h : (nfold gs pre).1.getD x.1.1 false = false) : nfold gs (pre ++ [x]) = nfold gs pre := by
  rw [nfold_snoc]; unfold nstep; rw [h]; rfl
theorem nfold_bw {gs : List Gt} (hg : GoodG gs) (h : 0 < gs.length) : ∀ k, k ≤ gs.length → needAt gs (gs.length - k) (nfold gs (bwTo gs h k)).1 ∧ (nfold gs (bwTo gs h k)).2 = outDown gs gs.length k := by
  intro k
  induction k with
  | zero => intro _; exact ⟨needAt_first gs, rfl⟩
  | succ k ih =>
    intro hk
    obtain ⟨h1, h2⟩ := ih (by omega)
    obtain ⟨m, hm⟩ : ∃ m, gs.length - k = m + 1 := ⟨gs.length - k - 1, by omega⟩
    have hm2 : gs.length - 1 - k = m := by omega
    have hm3 : gs.length - (k + 1) = m := by omega
    rw [hm] at h1
    have hget := needAt_get hg h1
    have hnext := needAt_next h1
    have hx : gs[m]? = some (gs[m]'(by omega)) := List.getElem?_eq_getElem (by omega)
    have hv := pkAt_val h hx
    have hD : gs.getD m g0 = gs[m]'(by omega) := by rw [List.getD_eq_getElem?_getD, hx]; rfl
    rw [bwTo_succ, hm2, hm3]
    cases hc : mark gs m
    · rw [hc] at hget
      rw [nfold_no (by rw [hv]; exact hget)]
      have hns : needStep gs (nfold gs (bwTo gs h k)).1 m = (nfold gs (bwTo gs h k)).1 := by unfold needStep; rw [hget]; rfl
      rw [hns] at hnext
      refine ⟨hnext, ?_⟩
      rw [h2]
      simp only [outDown]
      rw [hm2, hc]
      simp
    · rw [hc] at hget
      rw [nfold_yes (by rw [hv]; exact hget), hv]
      have hns : needStep gs (nfold gs (bwTo gs h k)).1 m = setT (nfold gs (bwTo gs h k)).1 (insG (gs[m]'(by omega))) := by unfold needStep; rw [hget, hD]; rfl
      rw [hns] at hnext
      refine ⟨hnext, ?_⟩
      rw [h2]
      simp only [outDown]
      rw [hm2, hc]
      simp
theorem nfold_all {gs : List Gt} (hg : GoodG gs) (h : 0 < gs.length) : (nfold gs (bwTo gs h gs.length)).2 = outDown gs gs.length gs.length := (nfold_bw hg h _ (Nat.le_refl _)).2
/-- What the loop's cells hold when pre has come. -/
def NeedI (gs : List Gt) (n : Nat) (w : World) (pre : List (Pk gs)) (W : World) : Prop :=
  ∃ (X : Option Addr) (N y : Nat), OwnM W w.heap.size w.heap.size n n (nfold gs pre).1 ∧ BoxAt W (w.heap.size + 1) 31 #[.slice (some ⟨w.heap.size, 0, none⟩) n n] ∧
    BoxAt W (w.heap.size + 1 + 1) 37 #[.slice X N y] ∧ Hid ((nfold gs pre).2.length = N) ∧ Own W (w.heap.size + 4) 3 1 X N y ((nfold gs pre).2.map (Value.int .i64)) ∧ Ext w W ∧ w.heap.size + 1 + 1 + 1 < W.heap.size
theorem NeedI.from {gs : List Gt} {n : Nat} {w : World} {B : Nat} (hB : w.heap.size ≤ B) : Go.OwnFrom B (NeedI gs n w) := by
  intro s W W' row ⟨X, N, y, h2, h3, h4, h5, h6, h7, h8⟩ hg hr
  have hr2 := fun r e => (hr r e).2
  exact ⟨X, N, y, h2.keptFrom hg hr2, h3.keptFrom hg hr2, h4.keptFrom hg hr2, h5, h6.keptFrom hg hr2, h7.grown hg (fun k e => Nat.le_trans hB (hr k e).1), Nat.lt_of_lt_of_le h8 hg.size⟩
set_option maxRecDepth 100000 in
set_option maxHeartbeats 4000000 in
theorem neededGates_c (A : Option Addr) (n c : Nat) (gs : List Gt) (w : World) (h : Gates w A n gs) (hg : GoodG gs) (hn : n ≤ 200) (hn1 : 1 ≤ n) :
    Calls Try.prog 79 #[.slice A n c] w fun e w' => ∃ v, e = .returned v ∧ OwnI w' w.heap.size v (needTo gs n) ∧ Ext w w' := by
  refine (Go.callsIn_wide (n := 7)).1 ?_
  have HG := hide hg
  have hl := hide h.len
  clear hg
  have hpos : 0 < gs.length := by rw [← hl.out]; omega
  have hA : ∀ g, A = some ⟨g, 0, none⟩ → g < w.heap.size := by
    intro g hAg
    subst hAg
    obtain ⟨g', kk, a, b, e, -, hcc, -, -⟩ := h.at_ (i := 0) (by omega)
    injection e with e
    injection e with e
    subst e
    exact World.block_lt_of_cell? _ _ hcc
  have HA := hide hA
  clear hA
  obtain ⟨n', rfl⟩ : ∃ n', n = n' + 1 := ⟨n - 1, by omega⟩
  have hmk : ∀ W, (Instr.makeSlice 31 (.int .i64 ((n' : Int) + 1)) (.int .i64 ((n' : Int) + 1))).run Try.prog W = .ok (.slice (some ⟨W.heap.size, 0, none⟩) (n' + 1) (n' + 1)) (W.alloc (.cells (madeCells #[.bool false] (n' + 1)) 4)) :=
    fun W => make_eq (P := Try.prog) 31 4 Try.underlying31 _ 1 info_bool rfl (n' + 1) (by omega) (by omega) W
  have hge := made_get (.bool false) (n' + 1) n' (by omega)
  have ho0 : OwnM (w.alloc (.cells ((madeCells #[.bool false] (n' + 1)).setIfInBounds n' (.bool true)) 4)) w.heap.size w.heap.size (n' + 1) (n' + 1) (need0 (n' + 1)) :=
    Own.arr_at _ (n' + 1) _ rfl (Nat.le_refl _) (by omega) (by simp [need0]) (by rw [toList_made_set]; exact need0_cells (n' + 1))
  refine Go.callsIn_of_wp_marks Try.func79 rfl trivial ?_ rfl
  simp only [Try.ntmps79, List.size_toArray, List.length_cons, List.length_nil, Nat.reduceAdd, Nat.reduceSub, Array.replicate_succ, Array.replicate_zero, List.push_toArray, List.append_toArray, List.nil_append, List.cons_append]
  gi_wp2_with fail
  refine ⟨trivial, ?_⟩
  refine (bw_in _ _ trivial rfl _ _ _ _).mono ?_
  rintro e w1 ⟨rfl, rfl⟩
  gi_wp2_with fail
  clear hmk hge
  obtain ⟨W0, hW0⟩ : ∃ W0, W0 = (((w.alloc (.cells ((madeCells #[.bool false] (n' + 1)).setIfInBounds n' (.bool true)) 4)).alloc (.cells #[.slice (some ⟨w.heap.size, 0, none⟩) (n' + 1) (n' + 1)] 31)).alloc (.cells #[.slice none 0 0] 37)).alloc (.cells #[.slice A (n' + 1) c] 24) := ⟨_, rfl⟩
  have hsz0 : W0.heap.size = w.heap.size + 1 + 1 + 1 + 1 := by rw [hW0]; simp
  have e0 : Ext w W0 := by rw [hW0]; exact ((((Ext.refl w).alloc _).alloc _).alloc _).alloc _
  have hm0 : OwnM W0 w.heap.size w.heap.size (n' + 1) (n' + 1) (need0 (n' + 1)) := by rw [hW0]; exact ((Own.alloc ho0 _).alloc _).alloc _
  have hb1 : BoxAt W0 (w.heap.size + 1) 31 #[.slice (some ⟨w.heap.size, 0, none⟩) (n' + 1) (n' + 1)] := by
    rw [hW0]
    have := ((BoxAt.made (w.alloc (.cells ((madeCells #[.bool false] (n' + 1)).setIfInBounds n' (.bool true)) 4)) #[.slice (some ⟨w.heap.size, 0, none⟩) (n' + 1) (n' + 1)] 31).ext ((Ext.refl _).alloc (.cells #[.slice none 0 0] 37))).ext ((Ext.refl _).alloc (.cells #[.slice A (n' + 1) c] 24))
    simpa using this
  have hb2 : BoxAt W0 (w.heap.size + 1 + 1) 37 #[.slice none 0 0] := by
    rw [hW0]
    have := (BoxAt.made ((w.alloc (.cells ((madeCells #[.bool false] (n' + 1)).setIfInBounds n' (.bool true)) 4)).alloc (.cells #[.slice (some ⟨w.heap.size, 0, none⟩) (n' + 1) (n' + 1)] 31)) #[.slice none 0 0] 37).ext ((Ext.refl _).alloc (.cells #[.slice A (n' + 1) c] 24))
    simpa using this
  have hb3 : W0.cell? ⟨w.heap.size + 1 + 1 + 1, 0, none⟩ = some (.slice A (n' + 1) c) := by
    rw [hW0]; simp [go_sem]
  rw [← hW0]
  clear hW0 ho0
  refine Go.wpIn_rangeFunc_ownH rfl (by omega) (gf := 154) (lb := #[.pointer (some ⟨w.heap.size + 1 + 1 + 1, 0, none⟩)]) rfl trivial (enters_of Try.func154 (by kernel_rfl) (by kernel_rfl))
    (bw_stops _ _ trivial rfl (by omega) (w.heap.size + 1 + 1 + 1) w.heap.size (n' + 1) c A gs hn hpos W0 (by omega) hb3 (h.ext e0) HA.out) KeepB.trans (keepB_b (by omega) (by omega)) (Below.refl _ _) (fun _ => rfl)
    (NeedI gs (n' + 1) w) (fun _ _ _ => False) (NeedI.from e0.size) (fun _ _ _ _ _ hs _ _ => hs)
    ⟨none, 0, 0, by rw [show (nfold gs ([] : List (Pk gs))).1 = need0 (n' + 1) by rw [hl.out]; rfl]; exact hm0, hb1, hb2, rfl, Own.nil _ _ _ _, e0, by omega⟩
    (fun x a' W => ∃ Bx, w.heap.size + 1 + 1 + 1 < Bx ∧ BoxAt W Bx 86 #[.int .i64 x.1.2.1, .int .i64 x.1.2.2.1, .int .i64 x.1.2.2.2] ∧ a' = { tmps := #[.slice A (n' + 1) c, undef, .slice none 0 0, .pointer (some ⟨w.heap.size + 1, 0, none⟩), .pointer (some ⟨w.heap.size + 1 + 1, 0, none⟩), .int .i64 (x.1.1 : Int), .pointer (some ⟨Bx, 0, none⟩), undef, undef, .slice A (n' + 1) c, .int .i64 ((n' : Int) + 1), .slice (some ⟨w.heap.size, 0, none⟩) (n' + 1) (n' + 1), .slice (some ⟨w.heap.size, 0, none⟩) (n' + 1) (n' + 1), .slice A (n' + 1) c, .int .i64 ((n' : Int) + 1), .int .i64 (n' : Int), .pointer (some ⟨w.heap.size, n', none⟩), .slice A (n' + 1) c, .func (.func 154) #[] #[.pointer (some ⟨w.heap.size + 1 + 1 + 1, 0, none⟩)], .int .i64 (x.1.1 : Int), gv x.1.2, undef, undef, undef, undef, undef, undef, undef, undef, undef, undef, undef, undef, undef, undef, undef, undef, undef, undef, undef, undef, undef, undef, undef], defers := [] })
    (fun x a' _ X Y row hs hg hr => by obtain ⟨Bx, h1, h2, h3⟩ := hs; exact ⟨Bx, h1, h2.keptFrom hg (fun r e => (hr r e).2), h3⟩)
    ?assign ?body ?done ?stop
  case assign =>
    rintro l pre x W K ⟨X, N, y, h2, h3, h4, h5, h6, h7, h8⟩ hK
    have hbt : BoxAt (W.alloc (.cells #[.int .i64 x.1.2.1, .int .i64 x.1.2.2.1, .int .i64 x.1.2.2.2] 86)) W.heap.size 86 #[.int .i64 x.1.2.1, .int .i64 x.1.2.2.1, .int .i64 x.1.2.2.2] := BoxAt.made _ _ _
    gi_wp2
    refine hK _ _ ((Go.KeepsOthers.alloc _ _).from _) (KeepB.ext ((Ext.refl _).alloc _)) ⟨X, N, y, h2.alloc _, h3.ext ((Ext.refl _).alloc _), h4.ext ((Ext.refl _).alloc _), h5, h6.alloc _, h7.alloc _, by simp; omega⟩ ⟨W.heap.size, h8, hbt, rfl⟩
  case body =>
    rintro l pre x a' W hll ⟨r, hr⟩ ⟨X, N, y, h2, h3, h4, h5, h6, h7, h8⟩ ⟨Bx, hBx, hbx, rfl⟩ hlt
    obtain ⟨⟨i, kk, a, b⟩, hx⟩ := x
    dsimp only at hx hbx ⊢
    have hi : i < n' + 1 := by have := (List.getElem?_eq_some_iff.1 hx).1; have := hl.out; omega
    have hml : Hid ((nfold gs pre).1.length = n' + 1) := hide (by rw [(nfold_len pre).1, ← hl.out])
    have hNl : N ≤ pre.length := by have := (nfold_len pre).2; have := h5.out; omega
    have hgood := HG.out i _ hx
    obtain ⟨v, hvd, hvg⟩ := gets_bool (xs := (nfold gs pre).1) (p := i) (by rw [hml.out]; exact hi)
    have d1 := h2.cell (get_map_bool hvg)
    have b1 := h3.cell 0 _ rfl
    have b2 := h4.cell 0 _ rfl
    have f2 := h4.frozen 0
    have g0 := hbx.cell 0 _ rfl
    have g1 := hbx.cell 1 _ rfl
    have g2 := hbx.cell 2 _ rfl
    clear hvg
    cases v
    · have hF : Hid (nfold gs (pre ++ [⟨(i, kk, a, b), hx⟩]) = nfold gs pre) := hide (nfold_no hvd)
      clear hvd
      gi_wp2_with fail
      exact ⟨Go.KeepsFrom.refl _ _, KeepB.refl _, X, N, y, by rw [hF.out]; exact h2, h3, h4, by rw [hF.out]; exact h5, by rw [hF.out]; exact h6, h7, h8⟩
    · have hF : Hid (nfold gs (pre ++ [⟨(i, kk, a, b), hx⟩]) = (setT (nfold gs pre).1 (insG (kk, a, b)), (nfold gs pre).2 ++ [(i : Int)])) := hide (nfold_yes hvd)
      clear hvd
      obtain ⟨i0, hi0, hz0, hz1, hz2⟩ := info_parts info_int
      gi_wp2_with (gi_at_builtin; refine wpListIn_append_own _ rfl _ _ 37 rfl (w.heap.size + 4) 3 i0 (.int .i64 0) 1 8 Try.underlying37 hi0 hz0 hz1 hz2 rfl (by decide) _ _ _ rfl (h6.alloc _) ⟨W.heap.size, 0, none⟩ 1 1 [.int .i64 (i : Int)] rfl rfl (cell_one_new _ _ _) (by simp [Value.oneCell']) (by simp only [maxLen]; omega) (by omega) (by simp; omega) ?_; intro v' w1 hown' hgrow _; obtain ⟨X', y', rfl⟩ := ownsRow_succ hown'; have hb4 := (h4.ext ((Ext.refl W).alloc _)).grown (h6.alloc _) (by decide) hgrow; have c4 := hb4.cell 0 _ rfl; have f4 := hb4.frozen 0; have hbx4 := (hbx.ext ((Ext.refl W).alloc _)).grown (h6.alloc _) (by decide) hgrow; have q0 := hbx4.cell 0 _ rfl; have q1 := hbx4.cell 1 _ rfl; have q2 := hbx4.cell 2 _ rfl)
      refine ⟨trivial, ?_⟩
      have hal : Ext W (W.alloc (.cells #[.int .i64 (i : Int)] 3)) := (Ext.refl W).alloc _
      have h6a : Own (W.alloc (.cells #[.int .i64 (i : Int)] 3)) (w.heap.size + 4) 3 1 X N y ((nfold gs pre).2.map (Value.int .i64)) := h6.alloc _
      have hgrow : (W.alloc (.cells #[.int .i64 (i : Int)] 3)).grownBy w1 (Value.slice X N y).ownBlock := hgrow
      have hw1 : W.heap.size ≤ w1.heap.size := Nat.le_trans hal.size hgrow.size
      obtain ⟨w2, hw2⟩ : ∃ w2, w2 = w1.setCell ⟨w.heap.size + 1 + 1, 0, none⟩ (.slice (some ⟨X', 0, none⟩) (N + 1) y') := ⟨_, rfl⟩
      have hs2 : w2.heap.size = w1.heap.size := by rw [hw2]; simp [World.setCell]
      have hE1 : Ext w w1 := (h7.trans hal).grown hgrow (fun k e => by have := (h6a.lt k e).1; omega)
      have hE2 : Ext w w2 := by rw [hw2]; exact hE1.setCell (by simp only []; omega) _
      have hM2 : OwnM w2 w.heap.size w.heap.size (n' + 1) (n' + 1) (nfold gs pre).1 := by
        rw [hw2]; exact Own.storeOther ((Own.alloc h2 _).kept hgrow ((Own.alloc h2 _).ne_type h6a (by decide))) _ (by simp [Value.ownBlock]; omega)
      have hB2 : BoxAt w2 (w.heap.size + 1) 31 #[.slice (some ⟨w.heap.size, 0, none⟩) (n' + 1) (n' + 1)] := by
        rw [hw2]; exact ((h3.ext hal).grown h6a (by decide) hgrow).setOther (by simp only []; omega) _
      have hO2 : BoxAt w2 (w.heap.size + 1 + 1) 37 #[.slice (some ⟨X', 0, none⟩) (N + 1) y'] := by
        rw [hw2]; exact hb4.set 0 _
      have hX1 : Own w1 (w.heap.size + 4) 3 1 (some ⟨X', 0, none⟩) (N + 1) y' (((nfold gs pre).2 ++ [(i : Int)]).map (Value.int .i64)) := by
        rw [List.map_append]; exact hown'
      have hX2 : Own w2 (w.heap.size + 4) 3 1 (some ⟨X', 0, none⟩) (N + 1) y' (((nfold gs pre).2 ++ [(i : Int)]).map (Value.int .i64)) := by
        rw [hw2]; exact hX1.setLow (by simp only []; omega) _
      have hK2 : Go.KeepsOthers W w2 := by
        rw [hw2]; exact ((Go.KeepsOthers.alloc W _).trans (h6a.others hgrow)).trans (Go.KeepsOthers.setCell _ _ _)
      have hP2 : KeepB (w.heap.size + 1 + 1 + 1) w.heap.size W w2 := by
        rw [hw2]; exact ((KeepB.ext hal).trans (KeepB.grown hgrow (fun k e => by have := (h6a.lt k e).1; omega))).trans (KeepB.setCell _ (by simp only []; omega) (by simp only []; omega))
      rw [← hw2]
      clear hw2 hown' hX1 hb4 hbx4 c4 f4 q0 q1 q2 hgrow hE1
      refine (Go.CallsIn.inRound l (Go.callsIn_wide.2 (inputs_c kk a b _))).mono ?_
      rintro e w3 ⟨vv, rfl, ⟨A1, n1, c1', rfl, hl1, ho1⟩, he3⟩
      have hI3 : Own w3 (w.heap.size + 4) 3 1 A1 n1 c1' ((insG (kk, a, b)).map (Value.int .i64)) := ho1.lower (by omega)
      have hn2 : n1 ≤ 2 := by have := hl1.out; have := insG_le (kk, a, b); omega
      have hM3 : OwnM w3 w.heap.size w.heap.size (n' + 1) (n' + 1) (setT (nfold gs pre).1 ((insG (kk, a, b)).take 0)) := Own.ext hM2 he3
      have hB3 := hB2.ext he3
      have hO3 := hO2.ext he3
      have hX3 := hX2.ext he3
      have hE3 := hE2.trans he3
      have hK3 := hK2.trans (keepsOthers_ext he3)
      have hP3 := hP2.trans (KeepB.ext he3)
      have hs3 := he3.size
      clear hM2 hB2 hO2 hX2 hE2 hK2 hP2 ho1
      gi_wp2_with fail
      have HG2 := hide hgood.2.1
      clear hgood b1 b2 f2 g0 g1 g2 d1 h2 h3 h4 h6 h6a hbx
      gi_loopw [33] (fun s wr => ∃ p : Nat, p ≤ n1 ∧ s = .int .i64 p ∧ OwnM wr w.heap.size w.heap.size (n' + 1) (n' + 1) (setT (nfold gs pre).1 ((insG (kk, a, b)).take p)) ∧ BoxAt wr (w.heap.size + 1) 31 #[.slice (some ⟨w.heap.size, 0, none⟩) (n' + 1) (n' + 1)] ∧
        BoxAt wr (w.heap.size + 1 + 1) 37 #[.slice (some ⟨X', 0, none⟩) (N + 1) y'] ∧ Own wr (w.heap.size + 4) 3 1 (some ⟨X', 0, none⟩) (N + 1) y' (((nfold gs pre).2 ++ [(i : Int)]).map (Value.int .i64)) ∧
        Own wr (w.heap.size + 4) 3 1 A1 n1 c1' ((insG (kk, a, b)).map (Value.int .i64)) ∧ Ext w wr ∧ Go.KeepsOthers W wr ∧ KeepB (w.heap.size + 1 + 1 + 1) w.heap.size W wr ∧ w.heap.size + 1 + 1 + 1 < wr.heap.size) (fun s _ => n1 - (intOf s).toNat)
      case atStart => exact ⟨0, by omega, rfl, hM3, hB3, hO3, hX3, hI3, hE3, hK3, hP3, by omega⟩
      case round =>
        clear hM3 hB3 hO3 hX3 hI3 hE3 hK3 hP3
        obtain ⟨p, hp, rfl, hM, hB, hO, hX, hI, hE, hK, hP, hS⟩ := hrel
        have b1 := hB.cell 0 _ rfl
        by_cases hlp : p < n1
        · obtain ⟨gI, rfl, hgI1, hgI2⟩ := hI.form (by omega)
          obtain ⟨z, hz, hzc, -⟩ := hI.int_atS (q := p) (by omega)
          have hzr := HG2.out z (List.mem_of_getElem? hz.out)
          obtain ⟨q, rfl⟩ : ∃ q : Nat, z = (q : Int) := ⟨z.toNat, by omega⟩
          have hT := hide (setT_take (m := (nfold gs pre).1) hz)
          simp only [Int.toNat_natCast] at hT
          obtain ⟨u, hud, hug⟩ := gets_bool (xs := setT (nfold gs pre).1 ((insG (kk, a, b)).take p)) (p := q) (by rw [setT_length, hml.out]; omega)
          have dq := Own.cell hM (get_map_bool hug)
          have fq := Own.frozen hM q
          have hM1 : OwnM (wr.setCell ⟨w.heap.size, q, none⟩ (.bool true)) w.heap.size w.heap.size (n' + 1) (n' + 1) (setT (nfold gs pre).1 ((insG (kk, a, b)).take (p + 1))) := by
            have h1 := Own.store hM q (.bool true)
            rw [set_map_bool, ← hT.out] at h1
            exact h1
          have HM := hide hM1
          have HB := hide (hB.setOther (p := ⟨w.heap.size, q, none⟩) (by simp only []; omega) (.bool true))
          have HO := hide (hO.setOther (p := ⟨w.heap.size, q, none⟩) (by simp only []; omega) (.bool true))
          have HX := hide (hX.setLow (p := ⟨w.heap.size, q, none⟩) (by simp only []; omega) (.bool true))
          have HI := hide (hI.setLow (p := ⟨w.heap.size, q, none⟩) (by simp only []; omega) (.bool true))
          have HE := hide (hE.setCell (p := ⟨w.heap.size, q, none⟩) (Nat.le_refl _) (.bool true))
          have HK := hide (hK.trans (Go.KeepsOthers.setCell wr ⟨w.heap.size, q, none⟩ (.bool true)))
          have HP := hide (hP.trans (KeepB.setCell (A := wr) (p := ⟨w.heap.size, q, none⟩) (.bool true) (by simp only []; omega) (Nat.le_refl _)))
          clear hM hM1 hO hX hI hE hK hP hud hug hz hB
          gi_wp2_with fail
          go_roundw
          case rel => exact ⟨p + 1, by omega, by go_num, HM.out, HB.out, HO.out, HX.out, HI.out, HE.out, HK.out, HP.out, by simpa [World.setCell] using hS⟩
          case measure => simp [intOf]; omega
        · obtain rfl : p = n1 := by omega
          rw [setT_all (by rw [hl1.out]; exact Nat.le_refl _)] at hM
          have HR := hide (show Go.KeepsFrom W0.heap.size W wr ∧ KeepB (w.heap.size + 1 + 1 + 1) w.heap.size W wr ∧ NeedI gs (n' + 1) w (pre ++ [⟨(i, kk, a, b), hx⟩]) wr from
            ⟨hK.from _, hP, some ⟨X', 0, none⟩, N + 1, y', by rw [hF.out]; exact hM, hB, hO, by rw [hF.out]; simp [Hid, h5.out], by rw [hF.out]; exact hX, hE, hS⟩)
          clear hM hB hO hX hI hE hK hP
          gi_wp2_with fail
          exact HR.out
  case done =>
    rintro D ys W hD rfl ⟨X, N, y, h2, h3, h4, h5, h6, h7, h8⟩ hK
    have hys : Hid ((nfold gs (bwTo gs hpos (n' + 1))).2 = outDown gs (n' + 1) (n' + 1)) := hide (by have := nfold_all HG.out hpos; rwa [← hl.out] at this)
    rw [hys.out] at h5 h6
    have hN : N ≤ n' + 1 := by have := h5.out; have := outDown_length gs (n' + 1) (n' + 1); omega
    have b2 := h4.cell 0 _ rfl
    gi_wp2_with fail
    refine ⟨trivial, ?_⟩
    refine (Go.callsIn_wide.2 (Reverse_c X N y (w.heap.size + 4) _ W h6 (by omega))).mono ?_
    rintro e w2 ⟨⟨vv, rfl⟩, ho2, hg2⟩
    have b3 := (h4.grown h6 (by decide) hg2).cell 0 _ rfl
    have hK2 := (h6.others hg2).same D _ hK rfl
    have hE2 : Ext w w2 := h7.grown hg2 (fun k e => by have := (h6.lt k e).1; omega)
    rw [outDown_all] at ho2
    gi_wp2_with fail
    refine ⟨by simp, .inl ⟨_, _, rfl, Go.run_takeDeferred hK2, ?_⟩⟩
    refine ⟨_, Go.results_tmp rfl _ _ _, _, rfl, OwnI.mk ((ho2.keptFrom (Go.grownBy_putObj' w2 D _) (fun r e => by cases e; exact ⟨_, hK2, rfl⟩)).lower (by omega)), ?_⟩
    exact hE2.grown (Go.grownBy_putObj' w2 D _) (fun k e => by cases e; have := e0.size; omega)
  case stop =>
    rintro D c pre W _ _ h _
    exact h.elim
end Go.Proofs.Ytcbjaomjamfjcaa
