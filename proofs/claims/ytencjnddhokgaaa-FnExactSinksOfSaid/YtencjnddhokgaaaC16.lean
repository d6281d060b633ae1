/-
  The functions that pick the sinks of a dag.
-/
import Derived.Test.YtencjnddhokgaaaC15
namespace Go.Proofs.Ytencjnddhokgaaa
open Go.RowKit

theorem cell_new (w : World) (u : Value) (t : TypeId) : (w.alloc (.cells #[u] t)).cell? ⟨w.heap.size, 0, none⟩ = some u := (BoxAt.made w #[u] t).cell 0 u rfl
theorem SinksOf_lit_c (B : Option Addr) (m c b : Nat) (k : Int) (xs : List Int) (w : World) (h : Ints w B m xs) (hc : w.cell? ⟨b, 0, none⟩ = some (.int .i64 k)) :
    Calls Try.prog 84 #[.slice B m c, .pointer (some ⟨b, 0, none⟩)] w fun e w' => e = .returned (.bool (hasInt k xs)) ∧ Ext w w' := by
  go_enter Try.func84, Try.ntmps84
  go_wp2_with (go_at_call 85; refine (Contains_int_c _ _ _ _ xs _ h).mono ?_; rintro e w1 ⟨rfl, he⟩)
  go_ret
  exact ⟨rfl, he⟩
theorem SinksOf_lit_enters : Enters Try.prog 84 := enters_of Try.func84 (by kernel_rfl) (by kernel_rfl)
set_option maxRecDepth 100000 in
set_option maxHeartbeats 800000 in
theorem spec_SinksOf_o (A : Option Addr) (n d : Nat) (xss : List (List Int)) (w : World) (h : Intss w A n xss) :
    Calls Try.prog 44 #[.agg #[.slice A n d]] w fun e w' =>
      ∃ A' n' c', e = .returned (.tuple #[.slice A' n' c', .bool (dagOk xss)]) ∧ ObI 3 w' w.heap.size w'.heap.size A' n' c' (if dagOk xss then pickAll (isSink xss) xss.length else []) ∧ Ext w w' := by
  have hb := h.bound
  have HL := hide h.len
  cases hd : dagOk xss
  · simp only [Bool.false_eq_true, if_false]
    have HD := hide hd
    clear hd
    go_enter Try.func44, Try.ntmps44
    go_wp2_with (go_at_call 75; refine (l14Good_c _ _ _ xss _ (h.ext (((Ext.refl w).alloc _).alloc _))).mono ?_; rw [HD.out]; rintro e w1 ⟨rfl, he⟩)
    have hs := he.size
    have h0 := ((ObI.empty (e := 3) (W := w.alloc (.cells #[.slice A n d] 49)) (lo := w.heap.size) (by first | omega | (simp <;> omega))).ext he).wider (hi' := w1.heap.size) (by simp at hs ⊢; omega)
    have hx : Ext w w1 := by (repeat (first | exact Ext.refl _ | with_reducible assumption | refine Ext.setCell ?_ (by first | omega | (simp <;> omega)) _ | refine Ext.drewN ?_ _ | refine Ext.drew ?_ | refine Ext.alloc ?_ _ | refine Ext.trans ?_ (by with_reducible assumption)))
    go_ret2
    exact ⟨_, _, _, rfl, by simpa using h0, hx⟩
  · simp only [if_true]
    have hn10 : n ≤ 10 := by have := dagOk_len hd; have := HL.out; omega
    have HD := hide hd
    clear hd
    rw [← HL.out]
    go_enter Try.func44, Try.ntmps44
    go_wp2_with (go_at_call 75; refine (l14Good_c _ _ _ xss _ (h.ext (by (repeat (first | exact Ext.refl _ | with_reducible assumption | refine Ext.setCell ?_ (by first | omega | (simp <;> omega)) _ | refine Ext.drewN ?_ _ | refine Ext.drew ?_ | refine Ext.alloc ?_ _ | refine Ext.trans ?_ (by with_reducible assumption)))))).mono ?_; rw [HD.out]; rintro e w1 ⟨rfl, he⟩; have c1 := he.cell (p := ⟨w.heap.size, 0, none⟩) (u := .slice A n d) (by simp [go_sem]))
    have hs := he.size
    have h0 := ((ObI.empty (e := 3) (W := w.alloc (.cells #[.slice A n d] 49)) (lo := w.heap.size) (by first | omega | (simp <;> omega))).ext he).own
    have hx : Ext w w1 := by (repeat (first | exact Ext.refl _ | with_reducible assumption | refine Ext.setCell ?_ (by first | omega | (simp <;> omega)) _ | refine Ext.drewN ?_ _ | refine Ext.drew ?_ | refine Ext.alloc ?_ _ | refine Ext.trans ?_ (by with_reducible assumption)))
    have hbx : BoxAt w1 w.heap.size 49 #[.slice A n d] := (BoxAt.made w _ _).ext (Ext.trans ((Ext.refl _).alloc _) he)
    refine wp_loop (fun acT wr => ∃ s0 s1 s2 s3 s4 s5 s6 s7 s8 s9 s10 s11 s12 s13 s14 s15 s16 s17 s18 s19 s20 s21 s22 s23 s24 s25 s26 s27 s28 s29 s30 s31 s32 s33 s34 s35 s36 s37 s38 s39 s40 s41 s42 s43 s44 s45 : Value, (s1 = .pointer (some ⟨w.heap.size, 0, none⟩) ∧ (Ext w wr ∧ BoxAt wr w.heap.size 49 #[.slice A n d] ∧ ∃ k : Nat, k ≤ n ∧ s5 = .int .i64 k ∧ ∃ B m c, s4 = .slice B m c ∧ m ≤ k ∧ Own wr w.heap.size 3 1 B m c ((pickAll (isSink xss) k).map (Value.int .i64)))) ∧ acT = ⟨#[s0, s1, s2, s3, s4, s5, s6, s7, s8, s9, s10, s11, s12, s13, s14, s15, s16, s17, s18, s19, s20, s21, s22, s23, s24, s25, s26, s27, s28, s29, s30, s31, s32, s33, s34, s35, s36, s37, s38, s39, s40, s41, s42, s43, s44, s45], []⟩) (fun acT wr => (fun (s5 : Value) (wr : World) => n - (intOf s5).toNat) (acT.tmps.getD 5 undef) wr) ?_ ?_
    · (refine ⟨_, _, _, _, _, _, _, _, _, _, _, _, _, _, _, _, _, _, _, _, _, _, _, _, _, _, _, _, _, _, _, _, _, _, _, _, _, _, _, _, _, _, _, _, _, _, ⟨rfl, ?_⟩, rfl⟩; exact ⟨hx, hbx, 0, by omega, rfl, _, _, _, rfl, by omega, by simpa [pickAll] using h0⟩)
    intro _ wr hinv; obtain ⟨s0, s1, s2, s3, s4, s5, s6, s7, s8, s9, s10, s11, s12, s13, s14, s15, s16, s17, s18, s19, s20, s21, s22, s23, s24, s25, s26, s27, s28, s29, s30, s31, s32, s33, s34, s35, s36, s37, s38, s39, s40, s41, s42, s43, s44, s45, ⟨rfl, hrel⟩, rfl⟩ := hinv; (try dsimp only)
    clear h0 hx hbx c1 he
    obtain ⟨he, hbx, k, hk, rfl, B, m, c, rfl, hm, ho⟩ := hrel
    have c1 := hbx.cell 0 _ rfl
    by_cases hlt : k < n
    · have HLow := hide (dag_low HD.out k)
      obtain ⟨W1, rfl⟩ : ∃ W, W = wr := ⟨_, rfl⟩
      go_wp2
      refine wp_loop (fun acT wr => ∃ s0 s1 s2 s3 s4 s5 s6 s7 s8 s9 s10 s11 s12 s13 s14 s15 s16 s17 s18 s19 s20 s21 s22 s23 s24 s25 s26 s27 s28 s29 s30 s31 s32 s33 s34 s35 s36 s37 s38 s39 s40 s41 s42 s43 s44 s45 : Value, (s1 = .pointer (some ⟨w.heap.size, 0, none⟩) ∧ s4 = .slice B m c ∧ s5 = .int .i64 k ∧ (Ext W1 wr ∧ ∃ y : Nat, k + 1 ≤ y ∧ y ≤ n ∧ s7 = .int .i64 y ∧ ∃ b : Bool, s6 = .bool b ∧ Hid ((xss.take y).any (hasInt k) = !b))) ∧ acT = ⟨#[s0, s1, s2, s3, s4, s5, s6, s7, s8, s9, s10, s11, s12, s13, s14, s15, s16, s17, s18, s19, s20, s21, s22, s23, s24, s25, s26, s27, s28, s29, s30, s31, s32, s33, s34, s35, s36, s37, s38, s39, s40, s41, s42, s43, s44, s45], []⟩) (fun acT wr => (fun (s7 : Value) (wr : World) => n - (intOf s7).toNat) (acT.tmps.getD 7 undef) wr) ?_ ?_
      · (refine ⟨_, _, _, _, _, _, _, _, _, _, _, _, _, _, _, _, _, _, _, _, _, _, _, _, _, _, _, _, _, _, _, _, _, _, _, _, _, _, _, _, _, _, _, _, _, _, ⟨rfl, rfl, rfl, ?_⟩, rfl⟩; exact ⟨Ext.refl _, k + 1, by omega, by omega, by go_num, true, rfl, hide (by rw [HLow.out]; rfl)⟩)
      intro _ wr hinv; obtain ⟨s0, s1, s2, s3, s4, s5, s6, s7, s8, s9, s10, s11, s12, s13, s14, s15, s16, s17, s18, s19, s20, s21, s22, s23, s24, s25, s26, s27, s28, s29, s30, s31, s32, s33, s34, s35, s36, s37, s38, s39, s40, s41, s42, s43, s44, s45, ⟨rfl, rfl, rfl, hrel⟩, rfl⟩ := hinv; (try dsimp only)
      obtain ⟨he1, y, hy1, hy2, rfl, b, rfl, hq⟩ := hrel
      have hbx1 := hbx.ext he1
      have c2 := hbx1.cell 0 _ rfl
      have hee := he.trans he1
      by_cases hlt1 : y < n
      · obtain ⟨ad, xs, X, p, z, rfl, hx, hc, hin⟩ := (h.ext hee).at_ hlt1
        have htk := take_succ_of hx
        cases b
        · have hq2 : Hid ((xss.take (y + 1)).any (hasInt k) = !false) := hide (by rw [htk, List.any_append, hq.out]; rfl)
          clear htk
          go_wp2
          exact ⟨⟨(by first | trivial | rfl), (by first | trivial | rfl), (by first | trivial | rfl), he1, y + 1, by omega, by omega, by go_num, false, rfl, hq2⟩, (by simp [intOf] <;> omega)⟩
        · have hq2 : Hid ((xss.take (y + 1)).any (hasInt k) = !(!hasInt k xs)) := hide (by rw [htk, List.any_append, hq.out]; simp)
          clear htk
          go_wp2_with (go_at_call 82; refine (l1Has_c _ _ _ _ xs _ hin).mono ?_; rintro e w2 ⟨rfl, he2⟩)
          exact ⟨⟨(by first | trivial | rfl), (by first | trivial | rfl), (by first | trivial | rfl), he1.trans he2, y + 1, by omega, by omega, by go_num, _, rfl, hq2⟩, (by simp [intOf] <;> omega)⟩
      · obtain rfl : y = n := by omega
        have hsk : Hid (isSink xss k = b) := hide (by
          have := hq.out
          rw [List.take_of_length_le (by rw [HL.out]; exact Nat.le_refl _)] at this
          rw [isSink, this]; simp)
        have ho1 := ho.ext he1
        cases b
        · have hp := hide (pickAll_miss hsk.out)
          go_wp2
          exact ⟨⟨(by first | trivial | rfl), hee, hbx1, k + 1, by omega, by go_num, _, _, _, rfl, by omega, by rw [hp.out]; exact ho1⟩, (by simp [intOf] <;> omega)⟩
        · have hp := hide (pickAll_hit hsk.out)
          have hsz := hee.size
          go_wp2_with (at_builtin; refine wpList_app rfl _ _ _ _ rfl Try.underlying22 _ 1 8 info_int rfl (by decide) rfl ho1 1 [.int .i64 (k : Int)] (by first | rfl | simp [go_sem]) rfl ?_ ?_ ?_ ?_ ?_; (intro u hu; simp at hu; first | (subst hu; rfl) | (rcases hu with rfl | rfl <;> rfl) | (rcases hu with rfl | rfl | rfl <;> rfl)); omega; omega; omega; intro A' c' w' ho' hg' hb')
          exact ⟨⟨(by first | trivial | rfl), hee.own ho1 hg', hbx1.grown ho1 (by decide) hg', k + 1, by omega, by go_num, _, _, _, rfl, by omega, by rw [hp.out]; simpa using ho'⟩, (by simp [intOf] <;> omega)⟩
    · obtain rfl : k = n := by omega
      go_wp2
      go_ret2
      exact ⟨_, _, _, rfl, ObI.of ho (by omega), he⟩
set_option maxRecDepth 100000 in
set_option maxHeartbeats 800000 in
theorem impl_SinksOf_o (A : Option Addr) (n d : Nat) (xss : List (List Int)) (w : World) (h : Intss w A n xss) :
    Calls Try.prog 45 #[.agg #[.slice A n d]] w fun e w' =>
      ∃ A' n' c', e = .returned (.tuple #[.slice A' n' c', .bool (dagOk xss)]) ∧ ObI 3 w' w.heap.size w'.heap.size A' n' c' (if dagOk xss then pickAll (isSink xss) xss.length else []) ∧ Ext w w' := by
  have hb := h.bound
  have HL := hide h.len
  cases hd : dagOk xss
  · simp only [Bool.false_eq_true, if_false]
    have HD := hide hd
    clear hd
    go_enter Try.func45, Try.ntmps45
    go_wp2_with (go_at_call 78; refine (impl_IsDag_c _ _ _ xss _ (h.ext ((Ext.refl w).alloc _))).mono ?_; rw [HD.out]; rintro e w1 ⟨rfl, he⟩)
    have hx : Ext w w1 := by (repeat (first | exact Ext.refl _ | with_reducible assumption | refine Ext.setCell ?_ (by first | omega | (simp <;> omega)) _ | refine Ext.drewN ?_ _ | refine Ext.drew ?_ | refine Ext.alloc ?_ _ | refine Ext.trans ?_ (by with_reducible assumption)))
    go_ret2
    exact ⟨_, _, _, rfl, ObI.nil, hx⟩
  · simp only [if_true]
    have hn10 : n ≤ 10 := by have := dagOk_len hd; have := HL.out; omega
    have HD := hide hd
    clear hd
    rw [← HL.out]
    go_enter Try.func45, Try.ntmps45
    go_wp2_with (go_at_call 78; refine (impl_IsDag_c _ _ _ xss _ (h.ext (by (repeat (first | exact Ext.refl _ | with_reducible assumption | refine Ext.setCell ?_ (by first | omega | (simp <;> omega)) _ | refine Ext.drewN ?_ _ | refine Ext.drew ?_ | refine Ext.alloc ?_ _ | refine Ext.trans ?_ (by with_reducible assumption)))))).mono ?_; rw [HD.out]; rintro e w1 ⟨rfl, he⟩; have c1 := he.cell (p := ⟨w.heap.size, 0, none⟩) (u := .slice A n d) (by simp [go_sem]))
    have hx : Ext w w1 := by (repeat (first | exact Ext.refl _ | with_reducible assumption | refine Ext.setCell ?_ (by first | omega | (simp <;> omega)) _ | refine Ext.drewN ?_ _ | refine Ext.drew ?_ | refine Ext.alloc ?_ _ | refine Ext.trans ?_ (by with_reducible assumption)))
    have hbx : BoxAt w1 w.heap.size 49 #[.slice A n d] := (BoxAt.made w _ _).ext he
    refine wp_loop (fun acT wr => ∃ s0 s1 s2 s3 s4 s5 s6 s7 s8 s9 s10 s11 s12 s13 s14 s15 s16 s17 s18 s19 s20 s21 s22 s23 s24 s25 : Value, (s1 = .pointer (some ⟨w.heap.size, 0, none⟩) ∧ s10 = .slice A n d ∧ s11 = .int .i64 n ∧ (Ext w wr ∧ BoxAt wr w.heap.size 49 #[.slice A n d] ∧ ∃ k : Nat, k ≤ n ∧ s12 = .int .i64 k ∧ ∃ B m c, s4 = .slice B m c ∧ m ≤ k ∧ Own wr w.heap.size 3 1 B m c ((pickAll (isSink xss) k).map (Value.int .i64)))) ∧ acT = ⟨#[s0, s1, s2, s3, s4, s5, s6, s7, s8, s9, s10, s11, s12, s13, s14, s15, s16, s17, s18, s19, s20, s21, s22, s23, s24, s25], []⟩) (fun acT wr => (fun (s12 : Value) (wr : World) => n - (intOf s12).toNat) (acT.tmps.getD 12 undef) wr) ?_ ?_
    · (refine ⟨_, _, _, _, _, _, _, _, _, _, _, _, _, _, _, _, _, _, _, _, _, _, _, _, _, _, ⟨rfl, rfl, rfl, ?_⟩, rfl⟩; exact ⟨hx, hbx, 0, by omega, rfl, _, _, _, rfl, by omega, by simpa [pickAll] using Own.nil _ _ _ _⟩)
    intro _ wr hinv; obtain ⟨s0, s1, s2, s3, s4, s5, s6, s7, s8, s9, s10, s11, s12, s13, s14, s15, s16, s17, s18, s19, s20, s21, s22, s23, s24, s25, ⟨rfl, rfl, rfl, hrel⟩, rfl⟩ := hinv; (try dsimp only)
    clear hx hbx c1 he
    obtain ⟨he, hbx, k, hk, rfl, B, m, c, rfl, hm, ho⟩ := hrel
    have c1 := hbx.cell 0 _ rfl
    by_cases hlt : k < n
    · have hea : Ext wr (wr.alloc (.cells #[.int .i64 k] 3)) := (Ext.refl wr).alloc _
      have hee := he.trans hea
      have c2 := (hbx.ext hea).cell 0 _ rfl
      have HC := hide (ContainsFunc_rows_c 84 #[.pointer (some ⟨wr.heap.size, 0, none⟩)] (hasInt k) A n d xss (wr.alloc (.cells #[.int .i64 k] 3)) (h.ext hee) SinksOf_lit_enters
        (fun xs B m c wr' hin hx => by simpa using SinksOf_lit_c B m c wr.heap.size k xs wr' hin (hx.cell (cell_new wr _ _))))
      have hsk : xss.any (hasInt k) = !isSink xss k := by simp [isSink]
      rw [hsk] at HC
      clear hsk
      cases hs : isSink xss k
      · have hp := hide (pickAll_miss hs)
        rw [hs] at HC
        clear hs
        go_wp2_with (go_at_call 83; refine HC.out.mono ?_; rintro e w2 ⟨rfl, he2⟩)
        exact ⟨⟨(by first | trivial | rfl), (by first | trivial | rfl), (by first | trivial | rfl), hee.trans he2, (hbx.ext hea).ext he2, k + 1, by omega, by go_num, _, _, _, rfl, by omega, by rw [hp.out]; exact (ho.ext hea).ext he2⟩, (by simp [intOf] <;> omega)⟩
      · have hp := hide (pickAll_hit hs)
        rw [hs] at HC
        clear hs
        have hsz := he.size
        go_wp2_with (first | (go_at_call 83; refine HC.out.mono ?_; rintro e w2 ⟨rfl, he2⟩; have c3 := he2.cell (cell_new wr (.int .i64 k) 3); have ho2 := (ho.ext hea).ext he2; have hsz2 := (hee.trans he2).size) | (at_builtin; refine wpList_app rfl _ _ _ _ rfl Try.underlying22 _ 1 8 info_int rfl (by decide) rfl ho2 1 [.int .i64 (k : Int)] (by first | rfl | simp [go_sem]) rfl ?_ ?_ ?_ ?_ ?_; (intro u hu; simp at hu; first | (subst hu; rfl) | (rcases hu with rfl | rfl <;> rfl) | (rcases hu with rfl | rfl | rfl <;> rfl)); omega; omega; omega; intro A' c' w' ho' hg' hb'))
        exact ⟨⟨(by first | trivial | rfl), (by first | trivial | rfl), (by first | trivial | rfl), (hee.trans he2).own ho2 hg', ((hbx.ext hea).ext he2).grown ho2 (by decide) hg', k + 1, by omega, by go_num, _, _, _, rfl, by omega, by rw [hp.out]; simpa using ho'⟩, (by simp [intOf] <;> omega)⟩
    · obtain rfl : k = n := by omega
      go_wp2
      go_ret2
      exact ⟨_, _, _, rfl, ObI.of ho (by omega), he⟩
end Go.Proofs.Ytencjnddhokgaaa
