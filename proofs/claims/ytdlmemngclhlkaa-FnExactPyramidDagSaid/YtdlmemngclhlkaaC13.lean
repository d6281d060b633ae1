/-
  The functions that make a pyramid dag.
-/
import Derived.Test.YtdlmemngclhlkaaO
namespace Go.Proofs.Ytdlmemngclhlkaa
open Go.RowKit

/-- One row of a pyramid from place i on, n of them; then the rows below it. -/
def pyrBody (f : Int) (n : Nat) : List (List Int) := (List.range n).map fun i : Nat => [f + i, f + i + 1]
def pyrRest (f : Int) : Nat → List (List Int)
  | 0 => []
  | n + 1 => pyrBody f (n + 1) ++ pyrRest (f + (n + 1 : Nat) + 1) n
def pyramid (h : Nat) : List (List Int) := List.replicate h [] ++ pyrRest 0 (h - 1)
theorem pyrBody_succ (f : Int) (n : Nat) : pyrBody f (n + 1) = pyrBody f n ++ [[f + n, f + n + 1]] := by simp [pyrBody, List.range_succ]
theorem pyrRest_pos (f : Int) {n : Nat} (h : 0 < n) : pyrRest f n = pyrBody f n ++ pyrRest (f + (n : Int) + 1) (n - 1) := by
  cases n with
  | zero => omega
  | succ n => rfl
theorem pyrBody_drop (f : Int) {n i : Nat} (h : i < n) : (pyrBody f n).drop i = [f + i, f + i + 1] :: (pyrBody f n).drop (i + 1) := by
  have hl : i < (pyrBody f n).length := by simpa [pyrBody] using h
  rw [List.drop_eq_getElem_cons hl]
  simp [pyrBody]
theorem pyrBody_all (f : Int) (n : Nat) : (pyrBody f n).drop n = [] := List.drop_eq_nil_of_le (by simp [pyrBody])
theorem pyr_len {n : Nat} (h : n ≤ 4) : (pyramid n).length ≤ 10 := by
  have h2 : ∀ n < 5, (pyramid n).length ≤ 10 := by decide
  exact h2 n (by omega)
theorem pyr_size (k : Int) : rowsSize (if within k 1 4 then pyramid k.toNat else []) ≤ 100 := by
  cases h : within k 1 4
  · simp [rowsSize, rowsTotal]
  · have := within_true h
    have h2 : ∀ n < 5, rowsSize (pyramid n) ≤ 100 := by decide
    simpa using h2 k.toNat (by omega)

/-- One row appended to a dag's rows behind a box. -/
theorem pushed {w wr w' : World} {b : Nat} {D eo ei : TypeId} {A A' : Option Addr} {n c c' : Nat} {yss : List (List Int)} {us : List Value} {r : List Int}
    (he : Ext w wr) (hbx : BoxAt wr b D #[.slice A n c]) (ho : OwnRows wr w.heap.size wr.heap.size eo ei A n c yss us) (hD1 : D ≠ eo) (hD2 : D ≠ ei) (hne : eo ≠ ei) (hb : w.heap.size ≤ b)
    {wa : World} (hea : Ext wr wa) {u : Value} (hr : RowV wa wr.heap.size wa.heap.size ei u r) (ho' : Own w' w.heap.size eo 1 A' (n + 1) c' (us ++ [u])) (hg' : wa.grownBy w' (Value.slice A n c).ownBlock) :
    Ext w w' ∧ BoxAt w' b D #[.slice A n c] ∧ (∀ {b2 : Nat} {cs2 : Array Value}, BoxAt wr b2 D cs2 → BoxAt w' b2 D cs2) ∧ Ext w (w'.setCell ⟨b, 0, none⟩ (.slice A' (n + 1) c')) ∧ BoxAt (w'.setCell ⟨b, 0, none⟩ (.slice A' (n + 1) c')) b D #[.slice A' (n + 1) c'] ∧
      OwnRows (w'.setCell ⟨b, 0, none⟩ (.slice A' (n + 1) c')) w.heap.size (w'.setCell ⟨b, 0, none⟩ (.slice A' (n + 1) c')).heap.size eo ei A' (n + 1) c' (yss ++ [r]) (us ++ [u]) := by
  have how := ho.outer.ext hea
  have hbx' := (hbx.ext hea).grown how hD1 hg'
  have hw' := hg'.size
  have hpush := (ho.ext hea).push hne he.size hea.size hw' hr ho' hg'
  have hfin := hpush.storeBox hbx' hD1 hD2 0 (.slice A' (n + 1) c')
  have hee : Ext w w' := Ext.trans_own (he.trans hea) (Nat.le_refl _) how hg'
  refine ⟨hee, hbx', fun h2 => (h2.ext hea).grown how hD1 hg', hee.setCell (by simpa using hb) _, by simpa using hbx'.set 0 _, by simpa [World.setCell] using hfin⟩
theorem RowV.nilAny {w : World} {lo hi : Nat} {ei : TypeId} : RowV w lo hi ei (.slice none 0 0) [] := RowV.nil
set_option maxHeartbeats 1600000 in
theorem impl_PyramidDag_c (k : Int) (w : World) :
    Calls Try.prog 48 #[.int .i64 k] w fun e w' =>
      ∃ A n c us, e = .returned (.tuple #[.agg #[.slice A n c], .bool (within k 1 4)]) ∧ OwnRows w' w.heap.size w'.heap.size 27 3 A n c (if within k 1 4 then pyramid k.toNat else []) us ∧ Ext w w' := by
  cases hk : within k 1 4
  · simp only [Bool.false_eq_true, if_false]
    have HK := hide hk
    go_enter Try.func48, Try.ntmps48
    go_wp2_with (go_at_call 57; refine (within_c _ _ _ _).mono ?_; rintro e w' ⟨rfl, rfl⟩)
    refine bodyPost_ret (v := .tuple #[.agg #[.slice none 0 0], .bool false]) (by simp [results, Try.results48, go_sem, *]) rfl ⟨_, _, _, [], rfl, OwnRows.nil, by (repeat (first | exact Ext.refl _ | with_reducible assumption | refine Ext.setCell ?_ (by first | omega | (simp <;> omega)) _ | refine Ext.drewN ?_ _ | refine Ext.drew ?_ | refine Ext.alloc ?_ _ | refine Ext.trans ?_ (by with_reducible assumption)))⟩
  · simp only [if_true]
    obtain ⟨g1, g2⟩ := within_true hk
    obtain ⟨n, rfl⟩ := int_nat (show 0 ≤ k by omega)
    rw [Int.toNat_natCast]
    go_enter Try.func48, Try.ntmps48
    go_wp2_with (go_at_call 57; refine (within_c _ _ _ _).mono ?_; rintro e w' ⟨rfl, rfl⟩)
    clear hk
    have h4 := BoxAt.made (w.alloc (.cells #[.slice none 0 0] 46)) #[.slice none 0 0] 46
    refine wp_loop (fun acT wr => ∃ s0 s1 s2 s3 s4 s5 s6 s7 s8 s9 s10 s11 s12 s13 s14 s15 s16 s17 s18 s19 s20 s21 s22 s23 s24 s25 s26 s27 s28 s29 s30 s31 s32 s33 s34 s35 s36 s37 s38 s39 s40 s41 s42 s43 s44 s45 s46 s47 s48 s49 : Value, (s0 = .int .i64 n ∧ s2 = .pointer (some ⟨w.heap.size, 0, none⟩) ∧ s4 = .pointer (some ⟨w.heap.size + 1, 0, none⟩) ∧ s12 = .int .i64 n ∧ (Ext w wr ∧ BoxAt wr w.heap.size 46 #[.slice none 0 0] ∧ ∃ x : Nat, x ≤ n ∧ s13 = .int .i64 x ∧ ∃ A c us, BoxAt wr (w.heap.size + 1) 46 #[.slice A x c] ∧ OwnRows wr w.heap.size wr.heap.size 27 3 A x c (List.replicate x []) us)) ∧ acT = ⟨#[s0, s1, s2, s3, s4, s5, s6, s7, s8, s9, s10, s11, s12, s13, s14, s15, s16, s17, s18, s19, s20, s21, s22, s23, s24, s25, s26, s27, s28, s29, s30, s31, s32, s33, s34, s35, s36, s37, s38, s39, s40, s41, s42, s43, s44, s45, s46, s47, s48, s49], []⟩) (fun acT wr => (fun (s13 : Value) (wr : World) => n - (intOf s13).toNat) (acT.tmps.getD 13 undef) wr) ?_ ?_
    · (refine ⟨_, _, _, _, _, _, _, _, _, _, _, _, _, _, _, _, _, _, _, _, _, _, _, _, _, _, _, _, _, _, _, _, _, _, _, _, _, _, _, _, _, _, _, _, _, _, _, _, _, _, ⟨rfl, rfl, rfl, rfl, ?_⟩, rfl⟩; exact ⟨by (repeat (first | exact Ext.refl _ | with_reducible assumption | refine Ext.setCell ?_ (by first | omega | (simp <;> omega)) _ | refine Ext.drewN ?_ _ | refine Ext.drew ?_ | refine Ext.alloc ?_ _ | refine Ext.trans ?_ (by with_reducible assumption))), (BoxAt.made w _ _).ext (by (repeat (first | exact Ext.refl _ | with_reducible assumption | refine Ext.setCell ?_ (by first | omega | (simp <;> omega)) _ | refine Ext.drewN ?_ _ | refine Ext.drew ?_ | refine Ext.alloc ?_ _ | refine Ext.trans ?_ (by with_reducible assumption)))), 0, by omega, rfl, _, _, _, by simpa using h4, OwnRows.nil⟩)
    intro _ wr hinv; obtain ⟨s0, s1, s2, s3, s4, s5, s6, s7, s8, s9, s10, s11, s12, s13, s14, s15, s16, s17, s18, s19, s20, s21, s22, s23, s24, s25, s26, s27, s28, s29, s30, s31, s32, s33, s34, s35, s36, s37, s38, s39, s40, s41, s42, s43, s44, s45, s46, s47, s48, s49, ⟨rfl, rfl, rfl, rfl, hrel⟩, rfl⟩ := hinv; (try dsimp only)
    obtain ⟨he, hbr, x, hxn, rfl, A, c, us, hbx, ho⟩ := hrel
    clear h4
    have c0 := hbr.cell 0 _ rfl
    have f0 := hbr.frozen 0
    have c1 := hbx.cell 0 _ rfl
    have f1 := hbx.frozen 0
    by_cases hlt : x < n
    · have hs := he.size
      have how := ho.outer
      go_wp2_with ((at_builtin; refine wpList_app rfl _ _ _ _ rfl Try.underlying44 _ 1 24 info_ints rfl (by decide) rfl how 1 [.slice none 0 0] (by first | rfl | simp [go_sem]) rfl ?_ ?_ ?_ ?_ ?_; (intro u hu; simp at hu; first | (subst hu; rfl) | (rcases hu with rfl | rfl <;> rfl) | (rcases hu with rfl | rfl | rfl <;> rfl)); omega; omega; omega; intro A' c' w' ho' hg' hb'); obtain ⟨p1, p2, p3, p4, p5, p6⟩ := pushed (D := 46) he hbx ho (by decide) (by decide) (by decide) (by first | omega | (simp <;> omega)) (Ext.refl wr) (RowV.nilAny) ho' hg'; have hbr' := p3 hbr; have c2 := p2.cell 0 _ rfl; have f2 := p2.frozen 0)
      exact ⟨⟨(by first | trivial | rfl), (by first | trivial | rfl), (by first | trivial | rfl), (by first | trivial | rfl), p4, hbr'.setOther (by first | omega | (simp <;> omega)) _, x + 1, by omega, by go_num, A', c', _, p5, by rw [List.replicate_succ']; exact p6⟩, (by simp [intOf] <;> omega)⟩
    · obtain rfl : x = n := by omega
      go_wp2
      have hq0 : Hid (List.replicate x ([] : List Int) ++ pyrRest 0 (x - 1) = pyramid x) := rfl
      have hN := hide (pyr_len (n := x) (by omega))
      clear c0 f0 c1 f1
      refine wp_loop (fun acT wr => ∃ s0 s1 s2 s3 s4 s5 s6 s7 s8 s9 s10 s11 s12 s13 s14 s15 s16 s17 s18 s19 s20 s21 s22 s23 s24 s25 s26 s27 s28 s29 s30 s31 s32 s33 s34 s35 s36 s37 s38 s39 s40 s41 s42 s43 s44 s45 s46 s47 s48 s49 : Value, (s0 = .int .i64 x ∧ s2 = .pointer (some ⟨w.heap.size, 0, none⟩) ∧ s4 = .pointer (some ⟨w.heap.size + 1, 0, none⟩) ∧ (Ext w wr ∧ BoxAt wr w.heap.size 46 #[.slice none 0 0] ∧ ∃ (row : Nat) (f : Int), row ≤ 3 ∧ 0 ≤ f ∧ f ≤ 20 - 5 * row ∧ s5 = .int .i64 row ∧ s6 = .int .i64 f ∧ ∃ A m c yss us, BoxAt wr (w.heap.size + 1) 46 #[.slice A m c] ∧ OwnRows wr w.heap.size wr.heap.size 27 3 A m c yss us ∧ Hid (yss ++ pyrRest f row = pyramid x))) ∧ acT = ⟨#[s0, s1, s2, s3, s4, s5, s6, s7, s8, s9, s10, s11, s12, s13, s14, s15, s16, s17, s18, s19, s20, s21, s22, s23, s24, s25, s26, s27, s28, s29, s30, s31, s32, s33, s34, s35, s36, s37, s38, s39, s40, s41, s42, s43, s44, s45, s46, s47, s48, s49], []⟩) (fun acT wr => (fun (s5 : Value) (s6 : Value) (wr : World) => (intOf s5).toNat) (acT.tmps.getD 5 undef) (acT.tmps.getD 6 undef) wr) ?_ ?_
      · (refine ⟨_, _, _, _, _, _, _, _, _, _, _, _, _, _, _, _, _, _, _, _, _, _, _, _, _, _, _, _, _, _, _, _, _, _, _, _, _, _, _, _, _, _, _, _, _, _, _, _, _, _, ⟨rfl, rfl, rfl, ?_⟩, rfl⟩; exact ⟨he, hbr, x - 1, 0, by omega, by omega, by omega, by first | go_num | (congr 1; omega), rfl, _, _, _, _, _, hbx, ho, hq0⟩)
      intro _ wr hinv; obtain ⟨s0, s1, s2, s3, s4, s5, s6, s7, s8, s9, s10, s11, s12, s13, s14, s15, s16, s17, s18, s19, s20, s21, s22, s23, s24, s25, s26, s27, s28, s29, s30, s31, s32, s33, s34, s35, s36, s37, s38, s39, s40, s41, s42, s43, s44, s45, s46, s47, s48, s49, ⟨rfl, rfl, rfl, hrel⟩, rfl⟩ := hinv; (try dsimp only)
      clear he hbr hbx ho hq0
      obtain ⟨he, hbr, row, f, hr3, hf0, hf1, rfl, rfl, A, m, c, yss, us, hbx, ho, hq⟩ := hrel
      by_cases hrow : 0 < row
      · have hq1 : Hid (yss ++ ((pyrBody f row).drop 0 ++ pyrRest (f + (row : Int) + 1) (row - 1)) = pyramid x) := by
          rw [List.drop_zero, ← pyrRest_pos f hrow]; exact hq
        go_wp2
        refine wp_loop (fun acT wr => ∃ s0 s1 s2 s3 s4 s5 s6 s7 s8 s9 s10 s11 s12 s13 s14 s15 s16 s17 s18 s19 s20 s21 s22 s23 s24 s25 s26 s27 s28 s29 s30 s31 s32 s33 s34 s35 s36 s37 s38 s39 s40 s41 s42 s43 s44 s45 s46 s47 s48 s49 : Value, (s0 = .int .i64 x ∧ s2 = .pointer (some ⟨w.heap.size, 0, none⟩) ∧ s4 = .pointer (some ⟨w.heap.size + 1, 0, none⟩) ∧ s5 = .int .i64 row ∧ s6 = .int .i64 f ∧ s27 = .int .i64 row ∧ (Ext w wr ∧ BoxAt wr w.heap.size 46 #[.slice none 0 0] ∧ ∃ i : Nat, i ≤ row ∧ s28 = .int .i64 i ∧ ∃ A m c yss us, BoxAt wr (w.heap.size + 1) 46 #[.slice A m c] ∧ OwnRows wr w.heap.size wr.heap.size 27 3 A m c yss us ∧ Hid (yss ++ ((pyrBody f row).drop i ++ pyrRest (f + (row : Int) + 1) (row - 1)) = pyramid x))) ∧ acT = ⟨#[s0, s1, s2, s3, s4, s5, s6, s7, s8, s9, s10, s11, s12, s13, s14, s15, s16, s17, s18, s19, s20, s21, s22, s23, s24, s25, s26, s27, s28, s29, s30, s31, s32, s33, s34, s35, s36, s37, s38, s39, s40, s41, s42, s43, s44, s45, s46, s47, s48, s49], []⟩) (fun acT wr => (fun (s28 : Value) (wr : World) => row - (intOf s28).toNat) (acT.tmps.getD 28 undef) wr) ?_ ?_
        · (refine ⟨_, _, _, _, _, _, _, _, _, _, _, _, _, _, _, _, _, _, _, _, _, _, _, _, _, _, _, _, _, _, _, _, _, _, _, _, _, _, _, _, _, _, _, _, _, _, _, _, _, _, ⟨rfl, rfl, rfl, rfl, rfl, rfl, ?_⟩, rfl⟩; exact ⟨he, hbr, 0, by omega, rfl, _, _, _, _, _, hbx, ho, hq1⟩)
        intro _ wr hinv; obtain ⟨s0, s1, s2, s3, s4, s5, s6, s7, s8, s9, s10, s11, s12, s13, s14, s15, s16, s17, s18, s19, s20, s21, s22, s23, s24, s25, s26, s27, s28, s29, s30, s31, s32, s33, s34, s35, s36, s37, s38, s39, s40, s41, s42, s43, s44, s45, s46, s47, s48, s49, ⟨rfl, rfl, rfl, rfl, rfl, rfl, hrel⟩, rfl⟩ := hinv; (try dsimp only)
        clear he hbr hbx ho hq hq1
        obtain ⟨he, hbr, i, hi, rfl, A, m, c, yss, us, hbx, ho, hq⟩ := hrel
        by_cases hlt1 : i < row
        · have hm : m + 1 ≤ 10 := by
            have h1 := congrArg List.length hq.out
            rw [pyrBody_drop f hlt1] at h1
            have h2 := hN.out
            have h3 := ho.len
            simp at h1
            omega
          have c1 := hbx.cell 0 _ rfl
          have f1 := hbx.frozen 0
          have hee : Ext wr (wr.alloc (.cells #[.int .i64 (f + i), .int .i64 (f + i + 1)] 3)) := (Ext.refl wr).alloc _
          have hr := RowV.lit (w := wr) (ei := 3) #[.int .i64 (f + i), .int .i64 (f + i + 1)] 2 [f + i, f + i + 1] rfl rfl (by simp)
          have hs : w.heap.size ≤ (wr.alloc (.cells #[.int .i64 (f + i), .int .i64 (f + i + 1)] 3)).heap.size := by have := he.size; simp; omega
          have how := ho.outer.ext hee
          have hq2 : Hid ((yss ++ [[f + (i : Int), f + i + 1]]) ++ ((pyrBody f row).drop (i + 1) ++ pyrRest (f + (row : Int) + 1) (row - 1)) = pyramid x) := by
            have := hq.out
            rw [pyrBody_drop f hlt1] at this
            unfold Hid
            rw [← this]; simp
          go_wp2_with ((at_builtin; refine wpList_app rfl _ _ _ _ rfl Try.underlying44 _ 1 24 info_ints rfl (by decide) rfl how 1 [.slice (some ⟨wr.heap.size, 0, none⟩) 2 2] (by first | rfl | simp [go_sem]) rfl ?_ ?_ ?_ ?_ ?_; (intro u hu; simp at hu; first | (subst hu; rfl) | (rcases hu with rfl | rfl <;> rfl) | (rcases hu with rfl | rfl | rfl <;> rfl)); omega; omega; omega; intro A' c' w' ho' hg' hb'); obtain ⟨p1, p2, p3, p4, p5, p6⟩ := pushed (D := 46) he hbx ho (by decide) (by decide) (by decide) (by first | omega | (simp <;> omega)) hee (by simpa using hr) ho' hg'; have hbr' := p3 hbr; have c2 := p2.cell 0 _ rfl; have f2 := p2.frozen 0)
          exact ⟨⟨(by first | trivial | rfl), (by first | trivial | rfl), (by first | trivial | rfl), (by first | trivial | rfl), (by first | trivial | rfl), (by first | trivial | rfl), p4, hbr'.setOther (by first | omega | (simp <;> omega)) _, i + 1, by omega, by go_num, _, _, _, _, _, p5, p6, hq2⟩, (by simp [intOf] <;> omega)⟩
        · obtain rfl : i = row := by omega
          have hq2 : Hid (yss ++ pyrRest (f + ((i : Int) + 1)) (i - 1) = pyramid x) := by
            have := hq.out
            rw [pyrBody_all, List.nil_append] at this
            rw [← Int.add_assoc]; exact this
          go_wp2
          exact ⟨⟨(by first | trivial | rfl), (by first | trivial | rfl), (by first | trivial | rfl), he, hbr, i - 1, f + ((i : Int) + 1), by omega, by omega, by omega, by first | go_num | (congr 1; omega), by first | rfl | go_num, _, _, _, _, _, hbx, ho, hq2⟩, by first | (simp [intOf] <;> omega) | omega⟩
      · obtain rfl : row = 0 := by omega
        have hyp : yss = pyramid x := by have := hq.out; simpa [pyrRest] using this
        subst hyp
        have c0 := hbr.cell 0 _ rfl
        have f0 := hbr.frozen 0
        have c1 := hbx.cell 0 _ rfl
        go_wp2
        refine bodyPost_ret (v := .tuple #[.agg #[.slice A m c], .bool true]) (by simp [results, Try.results48, go_sem, *]) rfl ⟨_, _, _, us, rfl, ?_, he.setCell (by simp) _⟩
        have := ho.storeBox hbr (by decide) (by decide) 0 (.slice A m c)
        simpa [World.setCell] using this
set_option maxHeartbeats 1600000 in
theorem l14Pyramid_c (x : Nat) (w : World) (g1 : 1 ≤ (x : Int)) (g2 : (x : Int) ≤ 4) :
    Calls Try.prog 84 #[.int .i64 x] w fun e w' =>
      ∃ A n c us, e = .returned (.agg #[.slice A n c]) ∧ OwnRows w' w.heap.size w'.heap.size 27 3 A n c (pyramid x) us ∧ Ext w w' := by
  have h0 := (OwnRows.lit0 (eo := 27) (ei := 3) (lo := w.heap.size) (w := w.alloc (.cells #[.slice none 0 0] 46)) (by first | omega | (simp <;> omega))).ext ((Ext.refl _).alloc (.cells #[.slice (some ⟨w.heap.size + 1, 0, none⟩) 0 0] 46))
  have h3 := h0.wider (hi' := w.heap.size + 1 + 1 + 1) (by first | omega | (simp <;> omega))
  have h4 := BoxAt.made ((w.alloc (.cells #[.slice none 0 0] 46)).alloc (.cells #[] 27)) #[.slice (some ⟨w.heap.size + 1, 0, none⟩) 0 0] 46
  have hN := hide (pyr_len (n := x) (by omega))
  go_enter Try.func84, Try.ntmps84
  go_wp2
  refine wp_loop (fun acT wr => ∃ s0 s1 s2 s3 s4 s5 s6 s7 s8 s9 s10 s11 s12 s13 s14 s15 s16 s17 s18 s19 s20 s21 s22 s23 s24 s25 s26 s27 s28 s29 s30 s31 s32 s33 s34 s35 s36 s37 s38 s39 s40 s41 s42 s43 s44 s45 s46 s47 s48 : Value, (s0 = .int .i64 x ∧ s2 = .pointer (some ⟨w.heap.size, 0, none⟩) ∧ s3 = .pointer (some ⟨w.heap.size + 1 + 1, 0, none⟩) ∧ (Ext w wr ∧ BoxAt wr w.heap.size 46 #[.slice none 0 0] ∧ ∃ (row : Nat) (f : Int), row ≤ x ∧ 0 ≤ f ∧ f ≤ 20 - 5 * row ∧ (row = x → f = 0) ∧ s5 = .int .i64 row ∧ s4 = .int .i64 f ∧ ∃ A m c yss us, BoxAt wr (w.heap.size + 1 + 1) 46 #[.slice A m c] ∧ OwnRows wr w.heap.size wr.heap.size 27 3 A m c yss us ∧ Hid (yss ++ (if row = x then List.replicate x ([] : List Int) ++ pyrRest 0 (x - 1) else pyrRest f row) = pyramid x))) ∧ acT = ⟨#[s0, s1, s2, s3, s4, s5, s6, s7, s8, s9, s10, s11, s12, s13, s14, s15, s16, s17, s18, s19, s20, s21, s22, s23, s24, s25, s26, s27, s28, s29, s30, s31, s32, s33, s34, s35, s36, s37, s38, s39, s40, s41, s42, s43, s44, s45, s46, s47, s48], []⟩) (fun acT wr => (fun (s4 : Value) (s5 : Value) (wr : World) => (intOf s5).toNat) (acT.tmps.getD 4 undef) (acT.tmps.getD 5 undef) wr) ?_ ?_
  · (refine ⟨_, _, _, _, _, _, _, _, _, _, _, _, _, _, _, _, _, _, _, _, _, _, _, _, _, _, _, _, _, _, _, _, _, _, _, _, _, _, _, _, _, _, _, _, _, _, _, _, _, ⟨rfl, rfl, rfl, ?_⟩, rfl⟩; exact ⟨by (repeat (first | exact Ext.refl _ | with_reducible assumption | refine Ext.setCell ?_ (by first | omega | (simp <;> omega)) _ | refine Ext.drewN ?_ _ | refine Ext.drew ?_ | refine Ext.alloc ?_ _ | refine Ext.trans ?_ (by with_reducible assumption))), (BoxAt.made w _ _).ext (by (repeat (first | exact Ext.refl _ | with_reducible assumption | refine Ext.setCell ?_ (by first | omega | (simp <;> omega)) _ | refine Ext.drewN ?_ _ | refine Ext.drew ?_ | refine Ext.alloc ?_ _ | refine Ext.trans ?_ (by with_reducible assumption)))), x, 0, by omega, by omega, by omega, fun _ => rfl, rfl, rfl, _, _, _, _, _, by simpa using h4, by simpa using h3, by simp [Hid, pyramid]⟩)
  intro _ wr hinv; obtain ⟨s0, s1, s2, s3, s4, s5, s6, s7, s8, s9, s10, s11, s12, s13, s14, s15, s16, s17, s18, s19, s20, s21, s22, s23, s24, s25, s26, s27, s28, s29, s30, s31, s32, s33, s34, s35, s36, s37, s38, s39, s40, s41, s42, s43, s44, s45, s46, s47, s48, ⟨rfl, rfl, rfl, hrel⟩, rfl⟩ := hinv; (try dsimp only)
  clear h0 h3 h4
  obtain ⟨he, hbr, row, f, hr3, hf0, hf1, hff, rfl, rfl, A, m, c, yss, us, hbx, ho, hq⟩ := hrel
  by_cases hrow : 0 < row
  · by_cases hrx : row = x
    · obtain rfl := hrx
      obtain rfl := hff rfl
      have hq1 : Hid (yss ++ (List.replicate (row - 0) ([] : List Int) ++ pyrRest 0 (row - 1)) = pyramid row) := by
        have := hq.out
        simpa [Hid] using this
      clear hq hff
      have HF := hide hf1
      clear hf1
      go_wp2
      refine wp_loop (fun acT wr => ∃ s0 s1 s2 s3 s4 s5 s6 s7 s8 s9 s10 s11 s12 s13 s14 s15 s16 s17 s18 s19 s20 s21 s22 s23 s24 s25 s26 s27 s28 s29 s30 s31 s32 s33 s34 s35 s36 s37 s38 s39 s40 s41 s42 s43 s44 s45 s46 s47 s48 : Value, (s0 = .int .i64 row ∧ s2 = .pointer (some ⟨w.heap.size, 0, none⟩) ∧ s3 = .pointer (some ⟨w.heap.size + 1 + 1, 0, none⟩) ∧ s4 = .int .i64 0 ∧ s5 = .int .i64 row ∧ (Ext w wr ∧ BoxAt wr w.heap.size 46 #[.slice none 0 0] ∧ ∃ i : Nat, i ≤ row ∧ s6 = .int .i64 i ∧ ∃ A m c yss us, BoxAt wr (w.heap.size + 1 + 1) 46 #[.slice A m c] ∧ OwnRows wr w.heap.size wr.heap.size 27 3 A m c yss us ∧ Hid (yss ++ (List.replicate (row - i) ([] : List Int) ++ pyrRest 0 (row - 1)) = pyramid row))) ∧ acT = ⟨#[s0, s1, s2, s3, s4, s5, s6, s7, s8, s9, s10, s11, s12, s13, s14, s15, s16, s17, s18, s19, s20, s21, s22, s23, s24, s25, s26, s27, s28, s29, s30, s31, s32, s33, s34, s35, s36, s37, s38, s39, s40, s41, s42, s43, s44, s45, s46, s47, s48], []⟩) (fun acT wr => (fun (s6 : Value) (wr : World) => row - (intOf s6).toNat) (acT.tmps.getD 6 undef) wr) ?_ ?_
      · (refine ⟨_, _, _, _, _, _, _, _, _, _, _, _, _, _, _, _, _, _, _, _, _, _, _, _, _, _, _, _, _, _, _, _, _, _, _, _, _, _, _, _, _, _, _, _, _, _, _, _, _, ⟨rfl, rfl, rfl, rfl, rfl, ?_⟩, rfl⟩; exact ⟨he, hbr, 0, by omega, rfl, _, _, _, _, _, hbx, ho, hq1⟩)
      intro _ wr hinv; obtain ⟨s0, s1, s2, s3, s4, s5, s6, s7, s8, s9, s10, s11, s12, s13, s14, s15, s16, s17, s18, s19, s20, s21, s22, s23, s24, s25, s26, s27, s28, s29, s30, s31, s32, s33, s34, s35, s36, s37, s38, s39, s40, s41, s42, s43, s44, s45, s46, s47, s48, ⟨rfl, rfl, rfl, rfl, rfl, hrel⟩, rfl⟩ := hinv; (try dsimp only)
      clear he hbr hbx ho hq1
      obtain ⟨he, hbr, i, hi, rfl, A, m, c, yss, us, hbx, ho, hq⟩ := hrel
      by_cases hlt1 : i < row
      · have hrep : List.replicate (row - i) ([] : List Int) = [] :: List.replicate (row - (i + 1)) [] := by
          rw [show row - i = (row - (i + 1)) + 1 by omega, List.replicate_succ]
        have hm : m + 1 ≤ 10 := by
          have h1 := congrArg List.length hq.out
          rw [hrep] at h1
          have h2 := hN.out
          have h3 := ho.len
          simp at h1
          omega
        have hq2 : Hid ((yss ++ [[]]) ++ (List.replicate (row - (i + 1)) ([] : List Int) ++ pyrRest 0 (row - 1)) = pyramid row) := by
          have := hq.out
          rw [hrep] at this
          unfold Hid
          rw [← this]; simp
        clear hrep
        have c1 := hbx.cell 0 _ rfl
        have f1 := hbx.frozen 0
        have hee : Ext wr (wr.alloc (.cells #[] 3)) := (Ext.refl wr).alloc _
        have hr := RowV.lit (w := wr) (ei := 3) #[] 0 [] rfl rfl (by simp)
        have hs : w.heap.size ≤ (wr.alloc (.cells #[] 3)).heap.size := by have := he.size; simp; omega
        have how := ho.outer.ext hee
        go_wp2_with ((at_builtin; refine wpList_app rfl _ _ _ _ rfl Try.underlying44 _ 1 24 info_ints rfl (by decide) rfl how 1 [.slice (some ⟨wr.heap.size, 0, none⟩) 0 0] (by first | rfl | simp [go_sem]) rfl ?_ ?_ ?_ ?_ ?_; (intro u hu; simp at hu; first | (subst hu; rfl) | (rcases hu with rfl | rfl <;> rfl) | (rcases hu with rfl | rfl | rfl <;> rfl)); omega; omega; omega; intro A' c' w' ho' hg' hb'); obtain ⟨p1, p2, p3, p4, p5, p6⟩ := pushed (D := 46) he hbx ho (by decide) (by decide) (by decide) (by first | omega | (simp <;> omega)) hee (by simpa using hr) ho' hg'; have hbr' := p3 hbr; have c2 := p2.cell 0 _ rfl; have f2 := p2.frozen 0)
        exact ⟨⟨(by first | trivial | rfl), (by first | trivial | rfl), (by first | trivial | rfl), (by first | trivial | rfl), (by first | trivial | rfl), p4, hbr'.setOther (by first | omega | (simp <;> omega)) _, i + 1, by omega, by go_num, _, _, _, _, _, p5, p6, hq2⟩, (by simp [intOf] <;> omega)⟩
      · obtain rfl : i = row := by omega
        have hq2 : Hid (yss ++ (if i - 1 = i then List.replicate i ([] : List Int) ++ pyrRest 0 (i - 1) else pyrRest 0 (i - 1)) = pyramid i) := by
          have := hq.out
          rw [if_neg (by omega)]
          simpa [Hid] using this
        go_wp2
        exact ⟨⟨(by first | trivial | rfl), (by first | trivial | rfl), (by first | trivial | rfl), he, hbr, i - 1, 0, by omega, by omega, by omega, fun _ => rfl, by first | go_num | (congr 1; omega), rfl, _, _, _, _, _, hbx, ho, hq2⟩, by first | (simp [intOf] <;> omega) | omega⟩
    · have hq1 : Hid (yss ++ ((pyrBody f row).drop 0 ++ pyrRest (f + (row : Int) + 1) (row - 1)) = pyramid x) := by
        have := hq.out
        rw [if_neg hrx] at this
        rw [List.drop_zero, ← pyrRest_pos f hrow]; exact this
      have hrx' : row < x := by omega
      clear hff hq
      go_wp2
      refine wp_loop (fun acT wr => ∃ s0 s1 s2 s3 s4 s5 s6 s7 s8 s9 s10 s11 s12 s13 s14 s15 s16 s17 s18 s19 s20 s21 s22 s23 s24 s25 s26 s27 s28 s29 s30 s31 s32 s33 s34 s35 s36 s37 s38 s39 s40 s41 s42 s43 s44 s45 s46 s47 s48 : Value, (s0 = .int .i64 x ∧ s2 = .pointer (some ⟨w.heap.size, 0, none⟩) ∧ s3 = .pointer (some ⟨w.heap.size + 1 + 1, 0, none⟩) ∧ s4 = .int .i64 f ∧ s5 = .int .i64 row ∧ (Ext w wr ∧ BoxAt wr w.heap.size 46 #[.slice none 0 0] ∧ ∃ i : Nat, i ≤ row ∧ s6 = .int .i64 i ∧ ∃ A m c yss us, BoxAt wr (w.heap.size + 1 + 1) 46 #[.slice A m c] ∧ OwnRows wr w.heap.size wr.heap.size 27 3 A m c yss us ∧ Hid (yss ++ ((pyrBody f row).drop i ++ pyrRest (f + (row : Int) + 1) (row - 1)) = pyramid x))) ∧ acT = ⟨#[s0, s1, s2, s3, s4, s5, s6, s7, s8, s9, s10, s11, s12, s13, s14, s15, s16, s17, s18, s19, s20, s21, s22, s23, s24, s25, s26, s27, s28, s29, s30, s31, s32, s33, s34, s35, s36, s37, s38, s39, s40, s41, s42, s43, s44, s45, s46, s47, s48], []⟩) (fun acT wr => (fun (s6 : Value) (wr : World) => row - (intOf s6).toNat) (acT.tmps.getD 6 undef) wr) ?_ ?_
      · (refine ⟨_, _, _, _, _, _, _, _, _, _, _, _, _, _, _, _, _, _, _, _, _, _, _, _, _, _, _, _, _, _, _, _, _, _, _, _, _, _, _, _, _, _, _, _, _, _, _, _, _, ⟨rfl, rfl, rfl, rfl, rfl, ?_⟩, rfl⟩; exact ⟨he, hbr, 0, by omega, rfl, _, _, _, _, _, hbx, ho, hq1⟩)
      intro _ wr hinv; obtain ⟨s0, s1, s2, s3, s4, s5, s6, s7, s8, s9, s10, s11, s12, s13, s14, s15, s16, s17, s18, s19, s20, s21, s22, s23, s24, s25, s26, s27, s28, s29, s30, s31, s32, s33, s34, s35, s36, s37, s38, s39, s40, s41, s42, s43, s44, s45, s46, s47, s48, ⟨rfl, rfl, rfl, rfl, rfl, hrel⟩, rfl⟩ := hinv; (try dsimp only)
      clear he hbr hbx ho hq1
      obtain ⟨he, hbr, i, hi, rfl, A, m, c, yss, us, hbx, ho, hq⟩ := hrel
      by_cases hlt1 : i < row
      · have hm : m + 1 ≤ 10 := by
          have h1 := congrArg List.length hq.out
          rw [pyrBody_drop f hlt1] at h1
          have h2 := hN.out
          have h3 := ho.len
          simp at h1
          omega
        have c1 := hbx.cell 0 _ rfl
        have f1 := hbx.frozen 0
        have hee : Ext wr (wr.alloc (.cells #[.int .i64 (f + i), .int .i64 (f + i + 1)] 3)) := (Ext.refl wr).alloc _
        have hr := RowV.lit (w := wr) (ei := 3) #[.int .i64 (f + i), .int .i64 (f + i + 1)] 2 [f + i, f + i + 1] rfl rfl (by simp)
        have hs : w.heap.size ≤ (wr.alloc (.cells #[.int .i64 (f + i), .int .i64 (f + i + 1)] 3)).heap.size := by have := he.size; simp; omega
        have how := ho.outer.ext hee
        have hq2 : Hid ((yss ++ [[f + (i : Int), f + i + 1]]) ++ ((pyrBody f row).drop (i + 1) ++ pyrRest (f + (row : Int) + 1) (row - 1)) = pyramid x) := by
          have := hq.out
          rw [pyrBody_drop f hlt1] at this
          unfold Hid
          rw [← this]; simp
        go_wp2_with ((at_builtin; refine wpList_app rfl _ _ _ _ rfl Try.underlying44 _ 1 24 info_ints rfl (by decide) rfl how 1 [.slice (some ⟨wr.heap.size, 0, none⟩) 2 2] (by first | rfl | simp [go_sem]) rfl ?_ ?_ ?_ ?_ ?_; (intro u hu; simp at hu; first | (subst hu; rfl) | (rcases hu with rfl | rfl <;> rfl) | (rcases hu with rfl | rfl | rfl <;> rfl)); omega; omega; omega; intro A' c' w' ho' hg' hb'); obtain ⟨p1, p2, p3, p4, p5, p6⟩ := pushed (D := 46) he hbx ho (by decide) (by decide) (by decide) (by first | omega | (simp <;> omega)) hee (by simpa using hr) ho' hg'; have hbr' := p3 hbr; have c2 := p2.cell 0 _ rfl; have f2 := p2.frozen 0)
        exact ⟨⟨(by first | trivial | rfl), (by first | trivial | rfl), (by first | trivial | rfl), (by first | trivial | rfl), (by first | trivial | rfl), p4, hbr'.setOther (by first | omega | (simp <;> omega)) _, i + 1, by omega, by go_num, _, _, _, _, _, p5, p6, hq2⟩, (by simp [intOf] <;> omega)⟩
      · obtain rfl : i = row := by omega
        have hq2 : Hid (yss ++ (if i - 1 = x then List.replicate x ([] : List Int) ++ pyrRest 0 (x - 1) else pyrRest (f + (i : Int) + 1) (i - 1)) = pyramid x) := by
          have := hq.out
          rw [pyrBody_all, List.nil_append] at this
          rw [if_neg (by omega)]; exact this
        go_wp2
        exact ⟨⟨(by first | trivial | rfl), (by first | trivial | rfl), (by first | trivial | rfl), he, hbr, i - 1, f + (i : Int) + 1, by omega, by omega, by omega, by omega, by first | go_num | (congr 1; omega), by first | rfl | go_num, _, _, _, _, _, hbx, ho, hq2⟩, by first | (simp [intOf] <;> omega) | omega⟩
  · obtain rfl : row = 0 := by omega
    have hyp : yss = pyramid x := by
      have := hq.out
      rw [if_neg (by omega)] at this
      simpa [pyrRest] using this
    subst hyp
    have c0 := hbr.cell 0 _ rfl
    have f0 := hbr.frozen 0
    have c1 := hbx.cell 0 _ rfl
    clear hq hff
    go_wp2
    refine bodyPost_ret (v := .agg #[.slice A m c]) (by simp [results, Try.results84, go_sem, *]) rfl ⟨_, _, _, us, rfl, ?_, he.setCell (by simp) _⟩
    have := ho.storeBox hbr (by decide) (by decide) 0 (.slice A m c)
    simpa [World.setCell] using this
theorem spec_PyramidDag_c (k : Int) (w : World) :
    Calls Try.prog 47 #[.int .i64 k] w fun e w' =>
      ∃ A n c us, e = .returned (.tuple #[.agg #[.slice A n c], .bool (within k 1 4)]) ∧ OwnRows w' w.heap.size w'.heap.size 27 3 A n c (if within k 1 4 then pyramid k.toNat else []) us ∧ Ext w w' := by
  cases hk : within k 1 4
  · simp only [Bool.false_eq_true, if_false]
    have HK := hide hk
    go_enter Try.func47, Try.ntmps47
    go_wp2_with (go_at_call 54; refine (l1In_c _ _ _ _).mono ?_; rintro e w' ⟨rfl, rfl⟩)
    refine bodyPost_ret (v := .tuple #[.agg #[.slice none 0 0], .bool false]) (by simp [results, Try.results47, go_sem, *]) rfl ⟨_, _, _, [], rfl, OwnRows.nil, by (repeat (first | exact Ext.refl _ | with_reducible assumption | refine Ext.setCell ?_ (by first | omega | (simp <;> omega)) _ | refine Ext.drewN ?_ _ | refine Ext.drew ?_ | refine Ext.alloc ?_ _ | refine Ext.trans ?_ (by with_reducible assumption)))⟩
  · simp only [if_true]
    obtain ⟨g1, g2⟩ := within_true hk
    obtain ⟨n, rfl⟩ := int_nat (show 0 ≤ k by omega)
    rw [Int.toNat_natCast]
    go_enter Try.func47, Try.ntmps47
    go_wp2_with (first | (go_at_call 54; refine (l1In_c _ _ _ _).mono ?_; rintro e w' ⟨rfl, rfl⟩) | (go_at_call 84; refine (l14Pyramid_c n _ g1 g2).mono ?_; rintro e w1 ⟨A, m, c, us, rfl, ho, he⟩; have bc0 := he.cell (p := ⟨w.heap.size, 0, none⟩) (u := .slice none 0 0) (by first | simp [go_sem] | simp [go_sem, *]); have bf0 := he.frozen (p := ⟨w.heap.size, 0, none⟩) (by first | omega | (simp <;> omega)) (by first | simp [go_sem] | simp [go_sem, *])))
    refine bodyPost_ret (v := .tuple #[.agg #[.slice A m c], .bool true]) (by simp [results, Try.results47, go_sem, *]) rfl ⟨_, _, _, us, rfl, ?_, Ext.setCell (Ext.trans (by (repeat (first | exact Ext.refl _ | with_reducible assumption | refine Ext.setCell ?_ (by first | omega | (simp <;> omega)) _ | refine Ext.drewN ?_ _ | refine Ext.drew ?_ | refine Ext.alloc ?_ _ | refine Ext.trans ?_ (by with_reducible assumption)))) he) (by first | omega | (simp <;> omega)) _⟩
    have := OwnRows.lower (OwnRows.setLow ho (p := ⟨w.heap.size, 0, none⟩) (by first | omega | (simp <;> omega)) (.slice A m c)) (lo' := w.heap.size) (by first | omega | (simp <;> omega))
    simpa [World.setCell] using this
theorem spec_PyramidDag_o (k : Int) (w : World) :
    Calls Try.prog 47 #[.int .i64 k] w fun e w' =>
      ∃ A n c, e = .returned (.tuple #[.agg #[.slice A n c], .bool (within k 1 4)]) ∧ ObR 27 3 w' w.heap.size w'.heap.size A n c (if within k 1 4 then pyramid k.toNat else []) ∧ Ext w w' :=
  (spec_PyramidDag_c k w).mono fun _ _ ⟨A, n, c, us, he, ho, hx⟩ => ⟨A, n, c, he, ⟨⟨us, ho⟩, by have := pyr_size k; omega⟩, hx⟩
theorem impl_PyramidDag_o (k : Int) (w : World) :
    Calls Try.prog 48 #[.int .i64 k] w fun e w' =>
      ∃ A n c, e = .returned (.tuple #[.agg #[.slice A n c], .bool (within k 1 4)]) ∧ ObR 27 3 w' w.heap.size w'.heap.size A n c (if within k 1 4 then pyramid k.toNat else []) ∧ Ext w w' :=
  (impl_PyramidDag_c k w).mono fun _ _ ⟨A, n, c, us, he, ho, hx⟩ => ⟨A, n, c, he, ⟨⟨us, ho⟩, by have := pyr_size k; omega⟩, hx⟩
end Go.Proofs.Ytdlmemngclhlkaa
