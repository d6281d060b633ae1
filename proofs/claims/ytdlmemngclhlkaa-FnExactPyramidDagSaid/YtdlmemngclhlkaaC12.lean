/-
  Boxes of the call's own, and the functions that make a dag.
-/
import Derived.Test.YtdlmemngclhlkaaC11
namespace Go.Proofs.Ytdlmemngclhlkaa
open Go.RowKit

/-- Block b, of type t, holds the cells cs. -/
def BoxAt (w : World) (b : Nat) (t : TypeId) (cs : Array Value) : Prop := w.heap[b]? = some (.cells cs t (0, 0))
theorem BoxAt.cell {w : World} {b : Nat} {t : TypeId} {cs : Array Value} (h : BoxAt w b t cs) (j : Nat) (u : Value) (hu : cs[j]? = some u) : w.cell? ⟨b, j, none⟩ = some u := by
  have h' : w.heap[b]? = some (.cells cs t (0, 0)) := h
  simp [World.cell?, h', hu]
theorem BoxAt.frozen {w : World} {b : Nat} {t : TypeId} {cs : Array Value} (h : BoxAt w b t cs) (j : Nat) : w.frozen? ⟨b, j, none⟩ = false := by
  have h' : w.heap[b]? = some (.cells cs t (0, 0)) := h
  simp [World.frozen?, h']
theorem BoxAt.lt {w : World} {b : Nat} {t : TypeId} {cs : Array Value} (h : BoxAt w b t cs) : b < w.heap.size := (Array.getElem?_eq_some_iff.1 h).1
theorem BoxAt.ext {w w' : World} {b : Nat} {t : TypeId} {cs : Array Value} (h : BoxAt w b t cs) (he : Ext w w') : BoxAt w' b t cs := (he.block b h.lt).trans h
theorem BoxAt.made (w : World) (cs : Array Value) (t : TypeId) : BoxAt (w.alloc (.cells cs t)) w.heap.size t cs := heap_alloc_new w _
theorem BoxAt.set {w : World} {b : Nat} {t : TypeId} {cs : Array Value} (h : BoxAt w b t cs) (j : Nat) (u : Value) : BoxAt (w.setCell ⟨b, j, none⟩ u) b t (cs.setIfInBounds j u) := by
  have h' : w.heap[b]? = some (.cells cs t (0, 0)) := h
  simp [BoxAt, World.setCell, Array.getElem?_modify, h']
theorem BoxAt.setOther {w : World} {b : Nat} {t : TypeId} {cs : Array Value} (h : BoxAt w b t cs) {p : Addr} (hp : b ≠ p.block) (u : Value) : BoxAt (w.setCell p u) b t cs :=
  (Below.heap_setCell w p u b hp).trans h
theorem BoxAt.ne {w : World} {b : Nat} {t : TypeId} {cs : Array Value} (h : BoxAt w b t cs) {base : Nat} {e : TypeId} {size : Nat} {A : Option Addr} {n c : Nat} {us : List Value} (ho : Own w base e size A n c us) (hne : t ≠ e) :
    (Value.slice A n c).ownBlock ≠ some b := fun hk => by
  obtain ⟨ds, h1⟩ := ho.block_type hk
  have h' : w.heap[b]? = some (.cells cs t (0, 0)) := h
  rw [h'] at h1
  simp at h1
  exact hne h1.2
theorem BoxAt.grown {w w' : World} {b : Nat} {t : TypeId} {cs : Array Value} (h : BoxAt w b t cs) {base : Nat} {e : TypeId} {size : Nat} {A : Option Addr} {n c : Nat} {us : List Value} (ho : Own w base e size A n c us) (hne : t ≠ e)
    (hg : w.grownBy w' (Value.slice A n c).ownBlock) : BoxAt w' b t cs := (hg.block b h.lt (fun e => h.ne ho hne e.symm)).trans h
theorem OwnRows.storeBox {w : World} {lo hi : Nat} {eo ei : TypeId} {A : Option Addr} {n c : Nat} {xss : List (List Int)} {us : List Value} (h : OwnRows w lo hi eo ei A n c xss us) {b : Nat} {t : TypeId} {cs : Array Value} (hb : BoxAt w b t cs)
    (h1 : t ≠ eo) (h2 : t ≠ ei) (j : Nat) (u : Value) : OwnRows (w.setCell ⟨b, j, none⟩ u) lo hi eo ei A n c xss us := by
  have hg : w.grownBy (w.setCell ⟨b, j, none⟩ u) (some b) := ⟨rfl, rfl, rfl, by simp [World.setCell], fun k _ hk => Below.heap_setCell _ _ _ _ (fun e => hk (by rw [e]))⟩
  refine ⟨h.len, h.outer.kept hg (.inr (hb.ne h.outer h1)), h.below, fun i v xs hv hx => ?_, h.apart⟩
  refine (h.inner i v xs hv hx).kept hg (.inr ?_)
  obtain ⟨B, d, rfl, ho, _, _⟩ := h.inner i v xs hv hx
  exact hb.ne ho h2
theorem OwnRows.lit1 {w : World} {lo hi : Nat} {eo ei : TypeId} {u : Value} {xs : List Int} (h : RowV w lo hi ei u xs) (hlo : lo ≤ w.heap.size) (hh : hi ≤ w.heap.size) :
    OwnRows (w.alloc (.cells #[u] eo)) lo (w.heap.size + 1) eo ei (some ⟨w.heap.size, 0, none⟩) 1 1 [xs] [u] := by
  refine ⟨rfl, Own.arr #[u] 1 [u] hlo (by decide) rfl rfl, fun k hk => ?_, fun i v ys hv hy => ?_, fun i j v v' k hv hv' _ _ => ?_⟩
  · simp [Value.ownBlock] at hk; omega
  · cases i with
    | zero => simp at hv hy; subst hv; subst hy; exact (h.ext ((Ext.refl w).alloc _)).wider (by omega)
    | succ i => simp at hv
  · have := (List.getElem?_eq_some_iff.1 hv).1
    have := (List.getElem?_eq_some_iff.1 hv').1
    simp at *
    omega
theorem OwnRows.lit0 {w : World} {lo : Nat} {eo ei : TypeId} (hlo : lo ≤ w.heap.size) :
    OwnRows (w.alloc (.cells #[] eo)) lo (w.heap.size + 1) eo ei (some ⟨w.heap.size, 0, none⟩) 0 0 [] [] :=
  ⟨rfl, Own.arr #[] 0 [] hlo (by decide) rfl rfl, fun k hk => by simp [Value.ownBlock] at hk; omega, fun i v ys hv => by simp at hv, fun i j v v' k hv => by simp at hv⟩
theorem RowV.lit {w : World} {ei : TypeId} (cs : Array Value) (n : Nat) (xs : List Int) (hn : n = xs.length) (hcs : cs.toList = xs.map (Value.int .i64)) (hb : xs.length ≤ 140737488355328) :
    RowV (w.alloc (.cells cs ei)) w.heap.size (w.heap.size + 1) ei (.slice (some ⟨w.heap.size, 0, none⟩) n n) xs := by
  subst hn
  exact ⟨_, _, rfl, Own.arr cs _ _ (Nat.le_refl _) (by simp only [maxLen]; omega) (by simp) hcs, hb, fun k hk => by simp [Value.ownBlock] at hk; omega⟩

/-- The path's rows. -/
def pathRows (n : Nat) : List (List Int) := (List.range n).map fun x : Nat => if x = 0 then [] else [(x : Int) - 1]
theorem pathRows_length (n : Nat) : (pathRows n).length = n := by simp [pathRows]
theorem pathRows_succ (x : Nat) (h : 0 < x) : pathRows (x + 1) = pathRows x ++ [[(x : Int) - 1]] := by
  have hx : x ≠ 0 := by omega
  simp [pathRows, List.range_succ, hx]
theorem pathRows_get {n x : Nat} (h : x < n) (hx : 0 < x) : (pathRows n)[x]? = some [(x : Int) - 1] := by
  have hx' : x ≠ 0 := by omega
  simp [pathRows, h, hx']

set_option maxHeartbeats 800000 in
theorem spec_PathDag_c (k : Int) (w : World) :
    Calls Try.prog 35 #[.int .i64 k] w fun e w' =>
      ∃ A n c us, e = .returned (.tuple #[.agg #[.slice A n c], .bool (within k 1 10)]) ∧ OwnRows w' w.heap.size w'.heap.size 27 3 A n c (if within k 1 10 then pathRows k.toNat else []) us ∧ Ext w w' := by
  cases hk : within k 1 10
  · simp only [Bool.false_eq_true, if_false]
    have HK := hide hk
    go_enter Try.func35, Try.ntmps35
    go_wp2_with (go_at_call 54; refine (l1In_c _ _ _ _).mono ?_; rintro e w' ⟨rfl, rfl⟩)
    refine bodyPost_ret (v := .tuple #[.agg #[.slice none 0 0], .bool false]) (by simp [results, Try.results35, go_sem, *]) rfl ⟨_, _, _, [], rfl, OwnRows.nil, by (repeat (first | exact Ext.refl _ | with_reducible assumption | refine Ext.setCell ?_ (by first | omega | (simp <;> omega)) _ | refine Ext.drewN ?_ _ | refine Ext.drew ?_ | refine Ext.alloc ?_ _ | refine Ext.trans ?_ (by with_reducible assumption)))⟩
  · simp only [if_true]
    obtain ⟨g1, g2⟩ := within_true hk
    obtain ⟨n, rfl⟩ := int_nat (show 0 ≤ k by omega)
    rw [Int.toNat_natCast]
    go_enter Try.func35, Try.ntmps35
    go_wp2_with (go_at_call 54; refine (l1In_c _ _ _ _).mono ?_; rintro e w' ⟨rfl, rfl⟩)
    clear hk
    have h0 := RowV.lit (w := w.alloc (.cells #[.slice none 0 0] 46)) (ei := 3) #[] 0 [] rfl rfl (by simp)
    have h1 := OwnRows.lit1 (eo := 27) (h0.lower (lo' := w.heap.size) (by first | omega | (simp <;> omega))) (by first | omega | (simp <;> omega)) (by first | omega | (simp <;> omega))
    have h2 := (h1.ext ((Ext.refl _).alloc (.cells #[.slice (some ⟨w.heap.size + 1 + 1, 0, none⟩) 1 1] 46)))
    have h3 := h2.wider (hi' := w.heap.size + 1 + 1 + 1 + 1) (by first | omega | (simp <;> omega))
    have h4 := BoxAt.made (((w.alloc (.cells #[.slice none 0 0] 46)).alloc (.cells #[] 3)).alloc (.cells #[.slice (some ⟨w.heap.size + 1, 0, none⟩) 0 0] 27)) #[.slice (some ⟨w.heap.size + 1 + 1, 0, none⟩) 1 1] 46
    clear h0 h1 h2
    refine wp_loop (fun acT wr => ∃ s0 s1 s2 s3 s4 s5 s6 s7 s8 s9 s10 s11 s12 s13 s14 s15 s16 s17 s18 s19 s20 s21 s22 s23 s24 s25 s26 : Value, (s0 = .int .i64 n ∧ s2 = .pointer (some ⟨w.heap.size, 0, none⟩) ∧ s4 = .pointer (some ⟨w.heap.size + 1 + 1 + 1, 0, none⟩) ∧ (Ext w wr ∧ BoxAt wr w.heap.size 46 #[.slice none 0 0] ∧ ∃ x : Nat, 0 < x ∧ x ≤ n ∧ s5 = .int .i64 x ∧ ∃ A c us, BoxAt wr (w.heap.size + 1 + 1 + 1) 46 #[.slice A x c] ∧ OwnRows wr w.heap.size wr.heap.size 27 3 A x c (pathRows x) us)) ∧ acT = ⟨#[s0, s1, s2, s3, s4, s5, s6, s7, s8, s9, s10, s11, s12, s13, s14, s15, s16, s17, s18, s19, s20, s21, s22, s23, s24, s25, s26], []⟩) (fun acT wr => (fun (s5 : Value) (wr : World) => n - (intOf s5).toNat) (acT.tmps.getD 5 undef) wr) ?_ ?_
    · (refine ⟨_, _, _, _, _, _, _, _, _, _, _, _, _, _, _, _, _, _, _, _, _, _, _, _, _, _, _, ⟨rfl, rfl, rfl, ?_⟩, rfl⟩; exact ⟨by (repeat (first | exact Ext.refl _ | with_reducible assumption | refine Ext.setCell ?_ (by first | omega | (simp <;> omega)) _ | refine Ext.drewN ?_ _ | refine Ext.drew ?_ | refine Ext.alloc ?_ _ | refine Ext.trans ?_ (by with_reducible assumption))), (BoxAt.made w _ _).ext (by (repeat (first | exact Ext.refl _ | with_reducible assumption | refine Ext.setCell ?_ (by first | omega | (simp <;> omega)) _ | refine Ext.drewN ?_ _ | refine Ext.drew ?_ | refine Ext.alloc ?_ _ | refine Ext.trans ?_ (by with_reducible assumption)))), 1, by omega, by omega, rfl, _, _, _, by simpa using h4, by simpa [pathRows] using h3⟩)
    intro _ wr hinv; obtain ⟨s0, s1, s2, s3, s4, s5, s6, s7, s8, s9, s10, s11, s12, s13, s14, s15, s16, s17, s18, s19, s20, s21, s22, s23, s24, s25, s26, ⟨rfl, rfl, rfl, hrel⟩, rfl⟩ := hinv; (try dsimp only)
    obtain ⟨he, hbr, x, hx0, hxn, rfl, A, c, us, hbx, ho⟩ := hrel
    have hlen := ho.outer
    have c0 := hbr.cell 0 _ rfl
    have f0 := hbr.frozen 0
    have c1 := hbx.cell 0 _ rfl
    have f1 := hbx.frozen 0
    by_cases hlt : x < n
    · have hI : (0 : Int) ≤ (x : Int) - 1 := by omega
      have hr := RowV.lit (w := wr) (ei := 3) #[.int .i64 ((x : Int) - 1)] 1 [(x : Int) - 1] rfl rfl (by simp)
      have hs : w.heap.size ≤ (wr.alloc (.cells #[.int .i64 ((x : Int) - 1)] 3)).heap.size := by have := he.size; simp; omega
      have how := ho.outer.ext ((Ext.refl wr).alloc (.cells #[.int .i64 ((x : Int) - 1)] 3))
      go_wp2_with ((at_builtin; refine wpList_app rfl _ _ _ _ rfl Try.underlying44 _ 1 24 info_ints rfl (by decide) rfl how 1 [.slice (some ⟨wr.heap.size, 0, none⟩) 1 1] (by first | rfl | simp [go_sem]) rfl ?_ ?_ ?_ ?_ ?_; (intro u hu; simp at hu; first | (subst hu; rfl) | (rcases hu with rfl | rfl <;> rfl) | (rcases hu with rfl | rfl | rfl <;> rfl)); omega; omega; omega; intro A' c' w' ho' hg' hb'); have hbr' := (hbr.ext ((Ext.refl wr).alloc (.cells #[.int .i64 ((x : Int) - 1)] 3))).grown how (by decide) hg'; have hbx' := (hbx.ext ((Ext.refl wr).alloc (.cells #[.int .i64 ((x : Int) - 1)] 3))).grown how (by decide) hg'; have c2 := hbx'.cell 0 _ rfl; have f2 := hbx'.frozen 0)
      have hw' := hg'.size
      have hpush := (ho.ext ((Ext.refl wr).alloc (.cells #[.int .i64 ((x : Int) - 1)] 3))).push (by decide) he.size (by simp) (by simpa using hw') hr ho' hg'
      have hfin := hpush.storeBox hbx' (by decide) (by decide) 0 (.slice A' (x + 1) c')
      have hee : Ext w w' := Ext.trans_own (he.trans ((Ext.refl wr).alloc (.cells #[.int .i64 ((x : Int) - 1)] 3))) (Nat.le_refl _) how hg'
      exact ⟨⟨(by first | trivial | rfl), (by first | trivial | rfl), (by first | trivial | rfl), hee.setCell (by first | omega | (simp <;> omega)) _, hbr'.setOther (by first | omega | (simp <;> omega)) _, x + 1, by omega, by omega, by go_num, A', c', _, by simpa using hbx'.set 0 _, by rw [pathRows_succ x hx0]; simpa [World.setCell] using hfin⟩, (by simp [intOf] <;> omega)⟩
    · obtain rfl : x = n := by omega
      go_wp2
      refine bodyPost_ret (v := .tuple #[.agg #[.slice A x c], .bool true]) (by simp [results, Try.results35, go_sem, *]) rfl ⟨_, _, _, us, rfl, ?_, he.setCell (by simp) _⟩
      have := ho.storeBox hbr (by decide) (by decide) 0 (.slice A x c)
      simpa [World.setCell] using this
set_option maxHeartbeats 800000 in
theorem impl_PathDag_c (k : Int) (w : World) :
    Calls Try.prog 36 #[.int .i64 k] w fun e w' =>
      ∃ A n c us, e = .returned (.tuple #[.agg #[.slice A n c], .bool (within k 1 10)]) ∧ OwnRows w' w.heap.size w'.heap.size 27 3 A n c (if within k 1 10 then pathRows k.toNat else []) us ∧ Ext w w' := by
  cases hk : within k 1 10
  · simp only [Bool.false_eq_true, if_false]
    have HK := hide hk
    go_enter Try.func36, Try.ntmps36
    go_wp2_with (go_at_call 57; refine (within_c _ _ _ _).mono ?_; rintro e w' ⟨rfl, rfl⟩)
    refine bodyPost_ret (v := .tuple #[.agg #[.slice none 0 0], .bool false]) (by simp [results, Try.results36, go_sem, *]) rfl ⟨_, _, _, [], rfl, OwnRows.nil, by (repeat (first | exact Ext.refl _ | with_reducible assumption | refine Ext.setCell ?_ (by first | omega | (simp <;> omega)) _ | refine Ext.drewN ?_ _ | refine Ext.drew ?_ | refine Ext.alloc ?_ _ | refine Ext.trans ?_ (by with_reducible assumption)))⟩
  · simp only [if_true]
    obtain ⟨g1, g2⟩ := within_true hk
    obtain ⟨n, rfl⟩ := int_nat (show 0 ≤ k by omega)
    rw [Int.toNat_natCast]
    have hmk := fun W => make_eq (P := Try.prog) 44 27 Try.underlying44 _ 24 info_ints rfl n (by omega) (by omega) W
    go_enter Try.func36, Try.ntmps36
    go_wp2_with (go_at_call 57; refine (within_c _ _ _ _).mono ?_; rintro e w' ⟨rfl, rfl⟩)
    clear hk hmk
    have h0 := (ownRows_made (eo := 27) (ei := 3) (w.alloc (.cells #[.slice none 0 0] 46)) n (by omega)).lower (lo' := w.heap.size) (by first | omega | (simp <;> omega))
    have h2 := (h0.ext ((Ext.refl _).alloc (.cells #[.slice (some ⟨w.heap.size + 1, 0, none⟩) n n] 46)))
    have h3 := h2.wider (hi' := w.heap.size + 1 + 1 + 1) (by first | omega | (simp <;> omega))
    have h4 := BoxAt.made ((w.alloc (.cells #[.slice none 0 0] 46)).alloc (.cells (madeCells #[.slice none 0 0] n) 27)) #[.slice (some ⟨w.heap.size + 1, 0, none⟩) n n] 46
    have h5 : ∀ y : List (List Int), (List.replicate n ([] : List Int)).take 1 = (pathRows n).take 1 := fun _ => by
      cases n with
      | zero => simp at g1
      | succ n => simp [pathRows, List.replicate_succ, List.range_succ_eq_map]
    refine wp_loop (fun acT wr => ∃ s0 s1 s2 s3 s4 s5 s6 s7 s8 s9 s10 s11 s12 s13 s14 s15 s16 s17 s18 s19 s20 s21 s22 s23 s24 s25 : Value, (s0 = .int .i64 n ∧ s2 = .pointer (some ⟨w.heap.size, 0, none⟩) ∧ s4 = .pointer (some ⟨w.heap.size + 1 + 1, 0, none⟩) ∧ (Ext w wr ∧ BoxAt wr w.heap.size 46 #[.slice none 0 0] ∧ BoxAt wr (w.heap.size + 1 + 1) 46 #[.slice (some ⟨w.heap.size + 1, 0, none⟩) n n] ∧ ∃ x : Nat, 0 < x ∧ x ≤ n ∧ s5 = .int .i64 x ∧ ∃ yss us, OwnRows wr w.heap.size wr.heap.size 27 3 (some ⟨w.heap.size + 1, 0, none⟩) n n yss us ∧ Hid (yss.take x = (pathRows n).take x))) ∧ acT = ⟨#[s0, s1, s2, s3, s4, s5, s6, s7, s8, s9, s10, s11, s12, s13, s14, s15, s16, s17, s18, s19, s20, s21, s22, s23, s24, s25], []⟩) (fun acT wr => (fun (s5 : Value) (wr : World) => n - (intOf s5).toNat) (acT.tmps.getD 5 undef) wr) ?_ ?_
    · (refine ⟨_, _, _, _, _, _, _, _, _, _, _, _, _, _, _, _, _, _, _, _, _, _, _, _, _, _, ⟨rfl, rfl, rfl, ?_⟩, rfl⟩; exact ⟨by (repeat (first | exact Ext.refl _ | with_reducible assumption | refine Ext.setCell ?_ (by first | omega | (simp <;> omega)) _ | refine Ext.drewN ?_ _ | refine Ext.drew ?_ | refine Ext.alloc ?_ _ | refine Ext.trans ?_ (by with_reducible assumption))), (BoxAt.made w _ _).ext (by (repeat (first | exact Ext.refl _ | with_reducible assumption | refine Ext.setCell ?_ (by first | omega | (simp <;> omega)) _ | refine Ext.drewN ?_ _ | refine Ext.drew ?_ | refine Ext.alloc ?_ _ | refine Ext.trans ?_ (by with_reducible assumption)))), by simpa using h4, 1, by omega, by omega, rfl, _, _, by simpa using h3, h5 []⟩)
    intro _ wr hinv; obtain ⟨s0, s1, s2, s3, s4, s5, s6, s7, s8, s9, s10, s11, s12, s13, s14, s15, s16, s17, s18, s19, s20, s21, s22, s23, s24, s25, ⟨rfl, rfl, rfl, hrel⟩, rfl⟩ := hinv; (try dsimp only)
    obtain ⟨he, hbr, hbx, x, hx0, hxn, rfl, yss, us, ho, hq⟩ := hrel
    clear h0 h2 h3 h4 h5
    have c0 := hbr.cell 0 _ rfl
    have f0 := hbr.frozen 0
    have c1 := hbx.cell 0 _ rfl
    have f1 := hbx.frozen 0
    have hyl := hide ho.len
    have hul := hide ho.ulen
    by_cases hlt : x < n
    · have hI : (0 : Int) ≤ (x : Int) - 1 := by omega
      have hee : Ext wr (wr.alloc (.cells #[.int .i64 ((x : Int) - 1)] 3)) := (Ext.refl wr).alloc _
      have hr := RowV.lit (w := wr) (ei := 3) #[.int .i64 ((x : Int) - 1)] 1 [(x : Int) - 1] rfl rfl (by simp)
      have hcell := (ho.ext hee).outer.cell (List.getElem?_eq_getElem (show x < us.length by rw [hul.out]; exact hlt))
      have hfz := (ho.ext hee).outer.frozen x
      have hwl := hbx.lt
      go_wp2
      have hst := OwnRows.store (i := x) (ho.ext hee) (by decide) he.size (by simp) hr
      refine ⟨⟨(by first | trivial | rfl), (by first | trivial | rfl), (by first | trivial | rfl), (he.trans hee).setCell (by first | omega | (simp <;> omega)) _, (hbr.ext hee).setOther (by first | omega | (simp <;> omega)) _, (hbx.ext hee).setOther (by first | omega | (simp <;> omega)) _, x + 1, by omega, by omega, by go_num, _, _, by simpa [World.setCell] using hst, ?_⟩, (by simp [intOf] <;> omega)⟩
      unfold Hid
      rw [take_set_succ _ _ _ (by rw [← hyl.out]; exact hlt), take_succ_of (hide (pathRows_get hlt hx0)), hq.out]
    · obtain rfl : x = n := by omega
      have hyx : yss = pathRows x := take_eq_all hq (by rw [← hyl.out]; exact Nat.le_refl _) (by rw [pathRows_length]; exact Nat.le_refl _)
      subst hyx
      go_wp2
      refine bodyPost_ret (v := .tuple #[.agg #[.slice (some ⟨w.heap.size + 1, 0, none⟩) x x], .bool true]) (by simp [results, Try.results36, go_sem, *]) rfl ⟨_, _, _, rfl, ⟨us, ?_⟩, he.setCell (by simp) _⟩
      have := ho.storeBox hbr (by decide) (by decide) 0 (.slice (some ⟨w.heap.size + 1, 0, none⟩) x x)
      simpa [World.setCell] using this
end Go.Proofs.Ytdlmemngclhlkaa
