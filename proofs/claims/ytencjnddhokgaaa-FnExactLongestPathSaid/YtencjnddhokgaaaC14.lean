/-
  The functions that pick nodes of a dag: sources and sinks.
-/
import Derived.Test.YtencjnddhokgaaaO
namespace Go.Proofs.Ytencjnddhokgaaa
set_option linter.unusedSimpArgs false
set_option linter.unusedVariables false
open Go.RowKit

/-- The numbers below n that p picks, ascending. -/
def pickAll (p : Nat → Bool) (n : Nat) : List Int := ((List.range n).filter p).map fun i : Nat => (i : Int)
theorem pickAll_hit {p : Nat → Bool} {n : Nat} (h : p n = true) : pickAll p (n + 1) = pickAll p n ++ [(n : Int)] := by simp [pickAll, List.range_succ, h]
theorem pickAll_miss {p : Nat → Bool} {n : Nat} (h : p n = false) : pickAll p (n + 1) = pickAll p n := by simp [pickAll, List.range_succ, h]
theorem pickAll_len (p : Nat → Bool) (n : Nat) : (pickAll p n).length ≤ n := by
  have := List.length_filter_le p (List.range n)
  simpa [pickAll] using this
def isSource (xss : List (List Int)) (x : Nat) : Bool := (xss.getD x []).length == 0
theorem isSource_get {xss : List (List Int)} {x : Nat} {xs : List Int} (hx : Hid (xss[x]? = some xs)) : isSource xss x = (xs.length == 0) := by simp [isSource, List.getD_eq_getElem?_getD, hx.out]
theorem dagOk_len {xss : List (List Int)} (h : dagOk xss = true) : xss.length ≤ 10 := by
  have := within_true (and2_true h).1
  omega

theorem ObI.empty {e : TypeId} {W : World} {lo : Nat} (h : lo ≤ W.heap.size) : ObI e (W.alloc (.cells #[] e)) lo (W.heap.size + 1) (some ⟨W.heap.size, 0, none⟩) 0 0 [] :=
  ⟨Own.arr #[] 0 [] h (by decide) rfl rfl, fun k hk => by simp [Value.ownBlock] at hk; omega, by omega⟩
theorem ObI.wider {e : TypeId} {w : World} {lo hi hi' : Nat} {A : Option Addr} {n c : Nat} {xs : List Int} (h : ObI e w lo hi A n c xs) (hh : hi ≤ hi') : ObI e w lo hi' A n c xs :=
  ⟨h.own, fun k hk => Nat.lt_of_lt_of_le (h.below k hk) hh, h.small⟩
theorem ObI.nil {e : TypeId} {w : World} {lo hi : Nat} : ObI e w lo hi none 0 0 [] := ⟨Own.nil _ _ _ _, by simp [Value.ownBlock], by omega⟩

set_option maxRecDepth 100000 in
set_option maxHeartbeats 800000 in
theorem spec_SourcesOf_o (A : Option Addr) (n d : Nat) (xss : List (List Int)) (w : World) (h : Intss w A n xss) :
    Calls Try.prog 40 #[.agg #[.slice A n d]] w fun e w' =>
      ∃ A' n' c', e = .returned (.tuple #[.slice A' n' c', .bool (dagOk xss)]) ∧ ObI 3 w' w.heap.size w'.heap.size A' n' c' (if dagOk xss then pickAll (isSource xss) xss.length else []) ∧ Ext w w' := by
  have hb := h.bound
  have HL := hide h.len
  cases hd : dagOk xss
  · simp only [Bool.false_eq_true, if_false]
    have HD := hide hd
    clear hd
    go_enter Try.func40, Try.ntmps40
    go_wp2_with (go_at_call 75; refine (l14Good_c _ _ _ xss _ (h.ext (((Ext.refl w).alloc _).alloc _))).mono ?_; rw [HD.out]; rintro e w1 ⟨rfl, he⟩)
    have hs := he.size
    have h0 := ((ObI.empty (e := 3) (W := w.alloc (.cells #[.slice A n d] 49)) (lo := w.heap.size) (by first | omega | (simp <;> omega))).ext he).wider (hi' := w1.heap.size) (by simp at hs ⊢; omega)
    have hx : Ext w w1 := by (repeat (first | with_reducible exact Ext.refl _ | with_reducible assumption | ((with_reducible refine Ext.setCell ?_ ?_ _); rotate_left; focus (first | omega | (simp <;> omega))) | with_reducible refine Ext.alloc ?_ _ | with_reducible refine Ext.drewN ?_ _ | with_reducible refine Ext.drew ?_ | with_reducible refine Ext.trans ?_ (by with_reducible assumption)))
    go_ret2
    exact ⟨_, _, _, rfl, by simpa using h0, hx⟩
  · simp only [if_true]
    have hn10 : n ≤ 10 := by have := dagOk_len hd; have := HL.out; omega
    have HD := hide hd
    clear hd
    rw [← HL.out]
    go_enter Try.func40, Try.ntmps40
    go_wp2_with (go_at_call 75; refine (l14Good_c _ _ _ xss _ (h.ext (by (repeat (first | with_reducible exact Ext.refl _ | with_reducible assumption | ((with_reducible refine Ext.setCell ?_ ?_ _); rotate_left; focus (first | omega | (simp <;> omega))) | with_reducible refine Ext.alloc ?_ _ | with_reducible refine Ext.drewN ?_ _ | with_reducible refine Ext.drew ?_ | with_reducible refine Ext.trans ?_ (by with_reducible assumption)))))).mono ?_; rw [HD.out]; rintro e w1 ⟨rfl, he⟩; have c1 := he.cell (p := ⟨w.heap.size, 0, none⟩) (u := .slice A n d) (by simp [go_sem]))
    have hs := he.size
    have h0 := ((ObI.empty (e := 3) (W := w.alloc (.cells #[.slice A n d] 49)) (lo := w.heap.size) (by first | omega | (simp <;> omega))).ext he).own
    have hx : Ext w w1 := by (repeat (first | with_reducible exact Ext.refl _ | with_reducible assumption | ((with_reducible refine Ext.setCell ?_ ?_ _); rotate_left; focus (first | omega | (simp <;> omega))) | with_reducible refine Ext.alloc ?_ _ | with_reducible refine Ext.drewN ?_ _ | with_reducible refine Ext.drew ?_ | with_reducible refine Ext.trans ?_ (by with_reducible assumption)))
    have hbx : BoxAt w1 w.heap.size 49 #[.slice A n d] := (BoxAt.made w _ _).ext (Ext.trans ((Ext.refl _).alloc _) he)
    refine wp_loop (fun acT wr => ∃ s0 s1 s2 s3 s4 s5 s6 s7 s8 s9 s10 s11 s12 s13 s14 s15 s16 s17 s18 s19 s20 s21 s22 s23 s24 s25 s26 s27 s28 s29 : Value, (s1 = .pointer (some ⟨w.heap.size, 0, none⟩) ∧ (Ext w wr ∧ BoxAt wr w.heap.size 49 #[.slice A n d] ∧ ∃ k : Nat, k ≤ n ∧ s5 = .int .i64 k ∧ ∃ B m c, s4 = .slice B m c ∧ m ≤ k ∧ Own wr w.heap.size 3 1 B m c ((pickAll (isSource xss) k).map (Value.int .i64)))) ∧ acT = ⟨#[s0, s1, s2, s3, s4, s5, s6, s7, s8, s9, s10, s11, s12, s13, s14, s15, s16, s17, s18, s19, s20, s21, s22, s23, s24, s25, s26, s27, s28, s29], []⟩) (fun acT wr => (fun (s5 : Value) (wr : World) => n - (intOf s5).toNat) (acT.tmps.getD 5 undef) wr) ?_ ?_
    · (refine ⟨_, _, _, _, _, _, _, _, _, _, _, _, _, _, _, _, _, _, _, _, _, _, _, _, _, _, _, _, _, _, ⟨rfl, ?_⟩, rfl⟩; exact ⟨hx, hbx, 0, by omega, rfl, _, _, _, rfl, by omega, by simpa [pickAll] using h0⟩)
    intro _ wr hinv; obtain ⟨s0, s1, s2, s3, s4, s5, s6, s7, s8, s9, s10, s11, s12, s13, s14, s15, s16, s17, s18, s19, s20, s21, s22, s23, s24, s25, s26, s27, s28, s29, ⟨rfl, hrel⟩, rfl⟩ := hinv; (try dsimp only)
    clear h0 hx hbx c1 he
    obtain ⟨he, hbx, k, hk, rfl, B, m, c, rfl, hm, ho⟩ := hrel
    have c1 := hbx.cell 0 _ rfl
    by_cases hlt : k < n
    · obtain ⟨ad, xs, X, y, z, rfl, hx, hc, hin⟩ := (h.ext he).at_ hlt
      have hsrc := isSource_get hx
      have hyl := hide hin.len
      have hyb := hin.bound
      by_cases hz0 : y = 0
      · subst hz0
        have hp := hide (pickAll_hit (show isSource xss k = true by rw [hsrc, ← hyl.out]; rfl))
        clear hsrc
        have hsz := he.size
        go_wp2_with (at_builtin; refine wpList_app rfl _ _ _ _ rfl Try.underlying22 _ 1 8 info_int rfl (by decide) rfl ho 1 [.int .i64 (k : Int)] (by first | rfl | simp [go_sem]) rfl ?_ ?_ ?_ ?_ ?_; (intro u hu; simp at hu; first | (subst hu; rfl) | (rcases hu with rfl | rfl <;> rfl) | (rcases hu with rfl | rfl | rfl <;> rfl)); omega; omega; omega; intro A' c' w' ho' hg' hb')
        exact ⟨⟨(by first | trivial | rfl), he.own ho hg', hbx.grown ho (by decide) hg', k + 1, by omega, by go_num, _, _, _, rfl, by omega, by rw [hp.out]; simpa using ho'⟩, (by simp [intOf] <;> omega)⟩
      · have hp := hide (pickAll_miss (show isSource xss k = false by rw [hsrc, ← hyl.out]; simpa using hz0))
        clear hsrc
        have hyz : ((y : Int) == 0) = false := by simp; omega
        go_wp2
        exact ⟨⟨(by first | trivial | rfl), he, hbx, k + 1, by omega, by go_num, _, _, _, rfl, by omega, by rw [hp.out]; exact ho⟩, (by simp [intOf] <;> omega)⟩
    · obtain rfl : k = n := by omega
      go_wp2
      go_ret2
      exact ⟨_, _, _, rfl, ObI.of ho (by omega), he⟩
set_option maxRecDepth 100000 in
set_option maxHeartbeats 800000 in
theorem impl_SourcesOf_o (A : Option Addr) (n d : Nat) (xss : List (List Int)) (w : World) (h : Intss w A n xss) :
    Calls Try.prog 41 #[.agg #[.slice A n d]] w fun e w' =>
      ∃ A' n' c', e = .returned (.tuple #[.slice A' n' c', .bool (dagOk xss)]) ∧ ObI 3 w' w.heap.size w'.heap.size A' n' c' (if dagOk xss then pickAll (isSource xss) xss.length else []) ∧ Ext w w' := by
  have hb := h.bound
  have HL := hide h.len
  cases hd : dagOk xss
  · simp only [Bool.false_eq_true, if_false]
    have HD := hide hd
    clear hd
    go_enter Try.func41, Try.ntmps41
    go_wp2_with (go_at_call 78; refine (impl_IsDag_c _ _ _ xss _ (h.ext ((Ext.refl w).alloc _))).mono ?_; rw [HD.out]; rintro e w1 ⟨rfl, he⟩)
    have hx : Ext w w1 := by (repeat (first | with_reducible exact Ext.refl _ | with_reducible assumption | ((with_reducible refine Ext.setCell ?_ ?_ _); rotate_left; focus (first | omega | (simp <;> omega))) | with_reducible refine Ext.alloc ?_ _ | with_reducible refine Ext.drewN ?_ _ | with_reducible refine Ext.drew ?_ | with_reducible refine Ext.trans ?_ (by with_reducible assumption)))
    go_ret2
    exact ⟨_, _, _, rfl, ObI.nil, hx⟩
  · simp only [if_true]
    have hn10 : n ≤ 10 := by have := dagOk_len hd; have := HL.out; omega
    have HD := hide hd
    clear hd
    rw [← HL.out]
    go_enter Try.func41, Try.ntmps41
    go_wp2_with (go_at_call 78; refine (impl_IsDag_c _ _ _ xss _ (h.ext (by (repeat (first | with_reducible exact Ext.refl _ | with_reducible assumption | ((with_reducible refine Ext.setCell ?_ ?_ _); rotate_left; focus (first | omega | (simp <;> omega))) | with_reducible refine Ext.alloc ?_ _ | with_reducible refine Ext.drewN ?_ _ | with_reducible refine Ext.drew ?_ | with_reducible refine Ext.trans ?_ (by with_reducible assumption)))))).mono ?_; rw [HD.out]; rintro e w1 ⟨rfl, he⟩; have c1 := he.cell (p := ⟨w.heap.size, 0, none⟩) (u := .slice A n d) (by simp [go_sem]))
    have hx : Ext w w1 := by (repeat (first | with_reducible exact Ext.refl _ | with_reducible assumption | ((with_reducible refine Ext.setCell ?_ ?_ _); rotate_left; focus (first | omega | (simp <;> omega))) | with_reducible refine Ext.alloc ?_ _ | with_reducible refine Ext.drewN ?_ _ | with_reducible refine Ext.drew ?_ | with_reducible refine Ext.trans ?_ (by with_reducible assumption)))
    have hbx : BoxAt w1 w.heap.size 49 #[.slice A n d] := (BoxAt.made w _ _).ext he
    refine wp_loop (fun acT wr => ∃ s0 s1 s2 s3 s4 s5 s6 s7 s8 s9 s10 s11 s12 s13 s14 s15 s16 s17 s18 s19 s20 s21 s22 s23 s24 s25 s26 : Value, (s1 = .pointer (some ⟨w.heap.size, 0, none⟩) ∧ s11 = .slice A n d ∧ s12 = .int .i64 n ∧ (Ext w wr ∧ BoxAt wr w.heap.size 49 #[.slice A n d] ∧ ∃ k : Nat, k ≤ n ∧ s13 = .int .i64 k ∧ ∃ B m c, s4 = .slice B m c ∧ m ≤ k ∧ Own wr w.heap.size 3 1 B m c ((pickAll (isSource xss) k).map (Value.int .i64)))) ∧ acT = ⟨#[s0, s1, s2, s3, s4, s5, s6, s7, s8, s9, s10, s11, s12, s13, s14, s15, s16, s17, s18, s19, s20, s21, s22, s23, s24, s25, s26], []⟩) (fun acT wr => (fun (s13 : Value) (wr : World) => n - (intOf s13).toNat) (acT.tmps.getD 13 undef) wr) ?_ ?_
    · (refine ⟨_, _, _, _, _, _, _, _, _, _, _, _, _, _, _, _, _, _, _, _, _, _, _, _, _, _, _, ⟨rfl, rfl, rfl, ?_⟩, rfl⟩; exact ⟨hx, hbx, 0, by omega, rfl, _, _, _, rfl, by omega, by simpa [pickAll] using Own.nil _ _ _ _⟩)
    intro _ wr hinv; obtain ⟨s0, s1, s2, s3, s4, s5, s6, s7, s8, s9, s10, s11, s12, s13, s14, s15, s16, s17, s18, s19, s20, s21, s22, s23, s24, s25, s26, ⟨rfl, rfl, rfl, hrel⟩, rfl⟩ := hinv; (try dsimp only)
    clear hx hbx c1 he
    obtain ⟨he, hbx, k, hk, rfl, B, m, c, rfl, hm, ho⟩ := hrel
    have c1 := hbx.cell 0 _ rfl
    by_cases hlt : k < n
    · obtain ⟨ad, xs, X, y, z, rfl, hx, hc, hin⟩ := (h.ext he).at_ hlt
      have hsrc := isSource_get hx
      have hyl := hide hin.len
      have hyb := hin.bound
      by_cases hz0 : y = 0
      · subst hz0
        have hp := hide (pickAll_hit (show isSource xss k = true by rw [hsrc, ← hyl.out]; rfl))
        clear hsrc
        have hsz := he.size
        go_wp2_with (at_builtin; refine wpList_app rfl _ _ _ _ rfl Try.underlying22 _ 1 8 info_int rfl (by decide) rfl ho 1 [.int .i64 (k : Int)] (by first | rfl | simp [go_sem]) rfl ?_ ?_ ?_ ?_ ?_; (intro u hu; simp at hu; first | (subst hu; rfl) | (rcases hu with rfl | rfl <;> rfl) | (rcases hu with rfl | rfl | rfl <;> rfl)); omega; omega; omega; intro A' c' w' ho' hg' hb')
        exact ⟨⟨(by first | trivial | rfl), (by first | trivial | rfl), (by first | trivial | rfl), he.own ho hg', hbx.grown ho (by decide) hg', k + 1, by omega, by go_num, _, _, _, rfl, by omega, by rw [hp.out]; simpa using ho'⟩, (by simp [intOf] <;> omega)⟩
      · have hp := hide (pickAll_miss (show isSource xss k = false by rw [hsrc, ← hyl.out]; simpa using hz0))
        clear hsrc
        have hyz : ((y : Int) == 0) = false := by simp; omega
        go_wp2
        exact ⟨⟨(by first | trivial | rfl), (by first | trivial | rfl), (by first | trivial | rfl), he, hbx, k + 1, by omega, by go_num, _, _, _, rfl, by omega, by rw [hp.out]; exact ho⟩, (by simp [intOf] <;> omega)⟩
    · obtain rfl : k = n := by omega
      go_wp2
      go_ret2
      exact ⟨_, _, _, rfl, ObI.of ho (by omega), he⟩
end Go.Proofs.Ytencjnddhokgaaa
