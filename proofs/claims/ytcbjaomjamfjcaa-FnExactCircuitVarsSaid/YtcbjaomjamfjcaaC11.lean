/-
  The laws' helpers over a dag, and which lists of lists are dags.
-/
import Derived.Test.YtcbjaomjamfjcaaC10
namespace Go.Proofs.Ytcbjaomjamfjcaa
set_option linter.unusedSimpArgs false
set_option linter.unusedVariables false
open Go.RowKit

theorem szDag_fit (A : Option Addr) (n c : Nat) (left : Int) (xss : List (List Int)) (w : World) (h : Intss w A n xss) (hl : 0 ≤ left ∧ left ≤ 1048576) (hf : (rowsSize xss : Int) ≤ left) :
    Calls Try.prog 53 #[.agg #[.slice A n c], .int .i64 left] w fun e w' => e = .returned (.int .i64 (left - rowsSize xss)) ∧ Ext w w' := by
  go_enter Try.func53, Try.ntmps53
  go_wp2_with (go_at_call 82; refine (szIntSS_fit _ _ _ _ xss _ (h.ext (by (repeat (first | with_reducible exact Ext.refl _ | with_reducible assumption | ((with_reducible refine Ext.setCell ?_ ?_ _); rotate_left; focus (first | omega | (simp <;> omega))) | with_reducible refine Ext.alloc ?_ _ | with_reducible refine Ext.drewN ?_ _ | with_reducible refine Ext.drew ?_ | with_reducible refine Ext.trans ?_ (by with_reducible assumption))))) hl hf).mono ?_; rintro e w1 ⟨rfl, he⟩)
  go_ret
  exact ⟨rfl, by (repeat (first | with_reducible exact Ext.refl _ | with_reducible assumption | ((with_reducible refine Ext.setCell ?_ ?_ _); rotate_left; focus (first | omega | (simp <;> omega))) | with_reducible refine Ext.alloc ?_ _ | with_reducible refine Ext.drewN ?_ _ | with_reducible refine Ext.drew ?_ | with_reducible refine Ext.trans ?_ (by with_reducible assumption)))⟩
theorem szDag_no (A : Option Addr) (n c : Nat) (left : Int) (xss : List (List Int)) (w : World) (h : Intss w A n xss) (hl : 0 ≤ left ∧ left ≤ 1048576) (hf : left < (rowsSize xss : Int)) :
    Calls Try.prog 53 #[.agg #[.slice A n c], .int .i64 left] w fun e w' => e = .returned (.int .i64 (-1)) ∧ Ext w w' := by
  go_enter Try.func53, Try.ntmps53
  go_wp2_with (go_at_call 82; refine (szIntSS_no _ _ _ _ xss _ (h.ext (by (repeat (first | with_reducible exact Ext.refl _ | with_reducible assumption | ((with_reducible refine Ext.setCell ?_ ?_ _); rotate_left; focus (first | omega | (simp <;> omega))) | with_reducible refine Ext.alloc ?_ _ | with_reducible refine Ext.drewN ?_ _ | with_reducible refine Ext.drew ?_ | with_reducible refine Ext.trans ?_ (by with_reducible assumption))))) hl hf).mono ?_; rintro e w1 ⟨rfl, he⟩)
  go_ret
  exact ⟨rfl, by (repeat (first | with_reducible exact Ext.refl _ | with_reducible assumption | ((with_reducible refine Ext.setCell ?_ ?_ _); rotate_left; focus (first | omega | (simp <;> omega))) | with_reducible refine Ext.alloc ?_ _ | with_reducible refine Ext.drewN ?_ _ | with_reducible refine Ext.drew ?_ | with_reducible refine Ext.trans ?_ (by with_reducible assumption)))⟩
theorem toDag_c (A : Option Addr) (n c : Nat) (xss : List (List Int)) (w : World) (h : Intss w A n xss) (hn : rowsSize xss ≤ 1048576) :
    Calls Try.prog 55 #[.agg #[.slice A n c]] w fun e w' =>
      ∃ A' c' us, e = .returned (.agg #[.slice A' n c']) ∧ OwnRows w' w.heap.size w'.heap.size 37 3 A' n c' xss us ∧ Ext w w' := by
  go_enter Try.func55, Try.ntmps55
  go_wp2_with (go_at_call 85; refine (toIntSS_c _ _ _ xss _ ?_ hn).mono ?_; exact h.ext (by (repeat (first | with_reducible exact Ext.refl _ | with_reducible assumption | ((with_reducible refine Ext.setCell ?_ ?_ _); rotate_left; focus (first | omega | (simp <;> omega))) | with_reducible refine Ext.alloc ?_ _ | with_reducible refine Ext.drewN ?_ _ | with_reducible refine Ext.drew ?_ | with_reducible refine Ext.trans ?_ (by with_reducible assumption)))); rintro e w1 ⟨A', c', us, rfl, ho, he⟩; have bc0 := he.cell (p := ⟨w.heap.size + 1, 0, none⟩) (u := .slice none 0 0) (by first | simp [go_sem] | simp [go_sem, *]); have bf0 := he.frozen (p := ⟨w.heap.size + 1, 0, none⟩) (by first | omega | (simp <;> omega)) (by first | simp [go_sem] | simp [go_sem, *]); have bc1 := he.cell (p := ⟨w.heap.size + 1 + 1, 0, none⟩) (u := .slice none 0 0) (by first | simp [go_sem] | simp [go_sem, *]); have bf1 := he.frozen (p := ⟨w.heap.size + 1 + 1, 0, none⟩) (by first | omega | (simp <;> omega)) (by first | simp [go_sem] | simp [go_sem, *]))
  refine bodyPost_ret (v := .agg #[.slice A' n c']) (by simp [results, Try.results55, go_sem, *]) rfl ⟨_, _, us, rfl, ?_, ?_⟩
  · have := OwnRows.lower (OwnRows.setLow (OwnRows.setLow ho (p := ⟨w.heap.size + 1 + 1, 0, none⟩) (by first | omega | (simp <;> omega)) (.slice A' n c')) (p := ⟨w.heap.size + 1, 0, none⟩) (by first | omega | (simp <;> omega)) (.slice A' n c')) (lo' := w.heap.size) (by first | omega | (simp <;> omega))
    simpa [World.setCell] using this
  · exact Ext.setCell (Ext.setCell (Ext.trans (by (repeat (first | with_reducible exact Ext.refl _ | with_reducible assumption | ((with_reducible refine Ext.setCell ?_ ?_ _); rotate_left; focus (first | omega | (simp <;> omega))) | with_reducible refine Ext.alloc ?_ _ | with_reducible refine Ext.drewN ?_ _ | with_reducible refine Ext.drew ?_ | with_reducible refine Ext.trans ?_ (by with_reducible assumption)))) he) (by first | omega | (simp <;> omega)) _) (by first | omega | (simp <;> omega)) _
theorem eqDag_same (A B : Option Addr) (n c m d : Nat) (xss : List (List Int)) (w : World) (h : Intss w A n xss) (k : Intss w B m xss) :
    Calls Try.prog 57 #[.agg #[.slice A n c], .agg #[.slice B m d]] w fun e w' => e = .returned (.bool true) ∧ Ext w w' := by
  go_enter Try.func57, Try.ntmps57
  go_wp2_with (go_at_call 87; refine (eqIntSS_same _ _ _ _ _ _ xss _ ?_ ?_).mono ?_; exact h.ext (by (repeat (first | with_reducible exact Ext.refl _ | with_reducible assumption | ((with_reducible refine Ext.setCell ?_ ?_ _); rotate_left; focus (first | omega | (simp <;> omega))) | with_reducible refine Ext.alloc ?_ _ | with_reducible refine Ext.drewN ?_ _ | with_reducible refine Ext.drew ?_ | with_reducible refine Ext.trans ?_ (by with_reducible assumption)))); exact k.ext (by (repeat (first | with_reducible exact Ext.refl _ | with_reducible assumption | ((with_reducible refine Ext.setCell ?_ ?_ _); rotate_left; focus (first | omega | (simp <;> omega))) | with_reducible refine Ext.alloc ?_ _ | with_reducible refine Ext.drewN ?_ _ | with_reducible refine Ext.drew ?_ | with_reducible refine Ext.trans ?_ (by with_reducible assumption)))); rintro e w1 ⟨rfl, he⟩)
  go_ret
  exact ⟨rfl, by (repeat (first | with_reducible exact Ext.refl _ | with_reducible assumption | ((with_reducible refine Ext.setCell ?_ ?_ _); rotate_left; focus (first | omega | (simp <;> omega))) | with_reducible refine Ext.alloc ?_ _ | with_reducible refine Ext.drewN ?_ _ | with_reducible refine Ext.drew ?_ | with_reducible refine Ext.trans ?_ (by with_reducible assumption)))⟩
theorem markDag_c (A : Option Addr) (n c lo hi : Nat) (k : Int) (xss : List (List Int)) (us : List Value) (w : World) (h : OwnRows w lo hi 37 3 A n c xss us) (hn : rowsSize xss ≤ 1099511627776) (hk : 0 ≤ k ∧ k ≤ 70368744177664) :
    Calls Try.prog 58 #[.agg #[.slice A n c], .int .i64 k] w fun e w' => e = .returned (.int .i64 (k + rowsTotal xss)) ∧ OwnRows w' lo hi 37 3 A n c (markRows k xss) us ∧ Touch lo hi w w' := by
  go_enter Try.func58, Try.ntmps58
  go_wp2_with (go_at_call 88; refine (markIntSS_c _ _ _ lo hi _ xss us _ ?_ hn hk).mono ?_; exact h.ext (by (repeat (first | with_reducible exact Ext.refl _ | with_reducible assumption | ((with_reducible refine Ext.setCell ?_ ?_ _); rotate_left; focus (first | omega | (simp <;> omega))) | with_reducible refine Ext.alloc ?_ _ | with_reducible refine Ext.drewN ?_ _ | with_reducible refine Ext.drew ?_ | with_reducible refine Ext.trans ?_ (by with_reducible assumption)))); rintro e w1 ⟨rfl, ho, ht⟩)
  go_ret
  exact ⟨rfl, ho, (Ext.touch (show Ext w _ by (repeat (first | with_reducible exact Ext.refl _ | with_reducible assumption | ((with_reducible refine Ext.setCell ?_ ?_ _); rotate_left; focus (first | omega | (simp <;> omega))) | with_reducible refine Ext.alloc ?_ _ | with_reducible refine Ext.drewN ?_ _ | with_reducible refine Ext.drew ?_ | with_reducible refine Ext.trans ?_ (by with_reducible assumption)))) lo hi).trans ht⟩

/-- Place i of a rising list. -/
def riseAt (lo hi : Int) (xs : List Int) (i : Nat) : Bool := within (xs.getD i 0) lo hi && (i == 0 || decide (xs.getD (i - 1) 0 < xs.getD i 0))
def rising (lo hi : Int) (xs : List Int) : Bool := (List.range xs.length).all (riseAt lo hi xs)
theorem riseAt_no {lo hi : Int} {xs : List Int} {i : Nat} {x : Int} (hx : Hid (xs[i]? = some x)) (h : within x lo hi = false) : riseAt lo hi xs i = false := by
  simp [riseAt, List.getD_eq_getElem?_getD, hx.out, h]
theorem riseAt_first {lo hi : Int} {xs : List Int} {x : Int} (hx : Hid (xs[0]? = some x)) (h : within x lo hi = true) : riseAt lo hi xs 0 = true := by
  simp only [riseAt, List.getD_eq_getElem?_getD, hx.out, Option.getD_some, h]; rfl
theorem riseAt_next {lo hi : Int} {xs : List Int} {i : Nat} {x y : Int} (hi' : 0 < i) (hx : Hid (xs[i]? = some x)) (hy : Hid (xs[i - 1]? = some y)) (h : within x lo hi = true) : riseAt lo hi xs i = decide (y < x) := by
  have : (i == 0) = false := by simpa using Nat.pos_iff_ne_zero.1 hi'
  simp only [riseAt, List.getD_eq_getElem?_getD, hx.out, hy.out, Option.getD_some, h, this, Bool.true_and, Bool.false_or]
def dagRow (xss : List (List Int)) (x : Nat) : Bool := rising 0 ((x : Int) - 1) (xss.getD x [])
/-- Which lists of lists are dags. -/
def dagOk (xss : List (List Int)) : Bool := within xss.length 1 10 && (List.range xss.length).all (dagRow xss)
theorem dagRow_get {xss : List (List Int)} {x : Nat} {xs : List Int} (hx : Hid (xss[x]? = some xs)) : dagRow xss x = rising 0 ((x : Int) - 1) xs := by
  simp [dagRow, List.getD_eq_getElem?_getD, hx.out]

set_option maxHeartbeats 800000 in
theorem l1Rising_c (lo hi : Int) (A : Option Addr) (n d : Nat) (c : List Int) (w : World) (h : Ints w A n c) :
    Calls Try.prog 143 #[.slice A n d, .int .i64 lo, .int .i64 hi] w fun e w' => e = .returned (.bool (rising lo hi c)) ∧ Ext w w' := by
  have hb := h.bound
  go_enter Try.func143, Try.ntmps143
  go_wp2
  refine wp_loop (fun acT wr => ∃ s0 s1 s2 s3 s4 s5 s6 s7 s8 s9 s10 s11 s12 s13 s14 s15 s16 s17 s18 s19 s20 s21 s22 s23 s24 s25 s26 s27 s28 s29 s30 s31 s32 s33 s34 s35 s36 s37 : Value, (s0 = .slice A n d ∧ s1 = .int .i64 lo ∧ s2 = .int .i64 hi ∧ (Ext w wr ∧ ∃ i : Nat, i ≤ n ∧ s7 = .int .i64 (i : Int) ∧ Hid ((List.range i).all (riseAt lo hi c) = true))) ∧ acT = ⟨#[s0, s1, s2, s3, s4, s5, s6, s7, s8, s9, s10, s11, s12, s13, s14, s15, s16, s17, s18, s19, s20, s21, s22, s23, s24, s25, s26, s27, s28, s29, s30, s31, s32, s33, s34, s35, s36, s37], []⟩) (fun acT wr => (fun (s7 : Value) (wr : World) => n - (intOf s7).toNat) (acT.tmps.getD 7 undef) wr) ?_ ?_
  · (refine ⟨_, _, _, _, _, _, _, _, _, _, _, _, _, _, _, _, _, _, _, _, _, _, _, _, _, _, _, _, _, _, _, _, _, _, _, _, _, _, ⟨rfl, rfl, rfl, ?_⟩, rfl⟩; exact ⟨Ext.refl _, 0, Nat.zero_le _, rfl, by simp [Hid]⟩)
  intro _ wr hinv; obtain ⟨s0, s1, s2, s3, s4, s5, s6, s7, s8, s9, s10, s11, s12, s13, s14, s15, s16, s17, s18, s19, s20, s21, s22, s23, s24, s25, s26, s27, s28, s29, s30, s31, s32, s33, s34, s35, s36, s37, ⟨rfl, rfl, rfl, hrel⟩, rfl⟩ := hinv; (try dsimp only)
  obtain ⟨he, i, hi', rfl, hq⟩ := hrel
  have hl := h.len
  have HL := hide hl
  clear hl
  by_cases hlt : i < n
  · obtain ⟨ad, x, rfl, hx, hc⟩ := (h.ext he).at_ hlt
    cases hlit : within x lo hi
    · have hp := riseAt_no hx hlit
      have HP := hide (rangeAll_false (n := c.length) (by rw [← HL.out]; exact hlt) hp)
      clear hp
      go_wp2
      go_quiet (first | (go_at_call 107; first | (refine quiet_left (l1In_c _ _ _ _)) | (refine quiet_left2 (l1In_c _ _ _ _))))
      go_wp2
      go_ret
      exact ⟨ret_bool (by simp [rising, HP.out]), he.drewN _⟩
    · rcases Nat.eq_zero_or_pos i with rfl | hpos
      · have hp := hide (riseAt_first hx hlit)
        have hc0 : wr.cell? ad = some (.int .i64 x) := by have := hc; rwa [show ad.add 0 = ad from by simp [Addr.add]] at this
        clear hc
        go_wp2
        go_quiet (first | (go_at_call 107; first | (refine quiet_left (l1In_c _ _ _ _)) | (refine quiet_left2 (l1In_c _ _ _ _))))
        go_wp2
        exact ⟨⟨(by first | trivial | rfl), (by first | trivial | rfl), (by first | trivial | rfl), he.drewN _, 1, by omega, by go_num, rangeAll_succ hq hp.out⟩, (by simp [intOf] <;> omega)⟩
      · obtain ⟨ad', y, hA, hy, hcy⟩ := (h.ext he).at_ (k := i - 1) (by omega)
        obtain rfl : ad' = ad := by injection hA with hA; exact hA.symm
        clear hA
        have hp := hide (riseAt_next hpos hx hy hlit)
        have hI : (i : Int) - 1 < (n : Int) := by omega
        have hI0 : 0 ≤ (i : Int) - 1 := by omega
        have hI1 : ((i : Int) - 1).toNat = i - 1 := by omega
        by_cases hlt2 : y < x
        · have hp2 : Hid (riseAt lo hi c i = true) := hide (by rw [hp.out]; simpa using hlt2)
          go_wp2
          go_quiet (first | (go_at_call 107; first | (refine quiet_left (l1In_c _ _ _ _)) | (refine quiet_left2 (l1In_c _ _ _ _))))
          go_wp2
          exact ⟨⟨(by first | trivial | rfl), (by first | trivial | rfl), (by first | trivial | rfl), he.drewN _, i + 1, by omega, by go_num, rangeAll_succ hq hp2.out⟩, (by simp [intOf] <;> omega)⟩
        · have hp2 : Hid (riseAt lo hi c i = false) := hide (by rw [hp.out]; simpa using hlt2)
          have HP := hide (rangeAll_false (n := c.length) (by rw [← HL.out]; exact hlt) hp2.out)
          have hlt3 : x ≤ y := by omega
          go_wp2
          go_quiet (first | (go_at_call 107; first | (refine quiet_left (l1In_c _ _ _ _)) | (refine quiet_left2 (l1In_c _ _ _ _))))
          go_wp2
          go_ret
          exact ⟨ret_bool (by simp [rising, HP.out]), he.drewN _⟩
  · obtain rfl : i = n := by omega
    go_wp2
    go_ret
    exact ⟨ret_bool (by rw [HL.out] at hq; simp [rising, hq.out]), he⟩
set_option maxHeartbeats 400000 in
theorem l14Good_c (A : Option Addr) (n d : Nat) (xss : List (List Int)) (w : World) (h : Intss w A n xss) :
    Calls Try.prog 106 #[.agg #[.slice A n d]] w fun e w' => e = .returned (.bool (dagOk xss)) ∧ Ext w w' := by
  have hb := h.bound
  have hl := h.len
  have HL := hide hl
  cases hv : within (n : Int) 1 10
  · have hf : dagOk xss = false := by rw [hl] at hv; simp [dagOk, hv]
    rw [hf]
    have HF := hide hf
    clear hf hl
    go_enter Try.func106, Try.ntmps106
    go_wp2_with (go_at_call 107; refine (l1In_c _ _ _ _).mono ?_; rintro e w' ⟨rfl, rfl⟩)
    go_ret
    exact ⟨rfl, by (repeat (first | with_reducible exact Ext.refl _ | with_reducible assumption | ((with_reducible refine Ext.setCell ?_ ?_ _); rotate_left; focus (first | omega | (simp <;> omega))) | with_reducible refine Ext.alloc ?_ _ | with_reducible refine Ext.drewN ?_ _ | with_reducible refine Ext.drew ?_ | with_reducible refine Ext.trans ?_ (by with_reducible assumption)))⟩
  · clear hl
    have hf : dagOk xss = (List.range n).all (dagRow xss) := by
      have hl := HL.out
      rw [hl] at hv ⊢
      simp [dagOk, hv]
    rw [hf]
    have HF := hide hf
    clear hf
    go_enter Try.func106, Try.ntmps106
    go_wp2_with (go_at_call 107; refine (l1In_c _ _ _ _).mono ?_; rintro e w' ⟨rfl, rfl⟩)
    refine wp_loop (fun acT wr => ∃ s0 s1 s2 s3 s4 s5 s6 s7 s8 s9 s10 s11 s12 s13 s14 s15 s16 s17 s18 s19 s20 s21 s22 s23 s24 : Value, (s1 = .pointer (some ⟨w.heap.size, 0, none⟩) ∧ (∃ k : Nat, k ≤ n ∧ s3 = .int .i64 k ∧ Ext (w.alloc (.cells #[.slice A n d] 68)) wr ∧ Hid ((List.range k).all (dagRow xss) = true))) ∧ acT = ⟨#[s0, s1, s2, s3, s4, s5, s6, s7, s8, s9, s10, s11, s12, s13, s14, s15, s16, s17, s18, s19, s20, s21, s22, s23, s24], []⟩) (fun acT wr => (fun (s3 : Value) (wr : World) => n - (intOf s3).toNat) (acT.tmps.getD 3 undef) wr) ?_ ?_
    · (refine ⟨_, _, _, _, _, _, _, _, _, _, _, _, _, _, _, _, _, _, _, _, _, _, _, _, _, ⟨rfl, ?_⟩, rfl⟩; exact ⟨0, Nat.zero_le _, rfl, Ext.refl _, by simp [Hid]⟩)
    intro _ wr hinv; obtain ⟨s0, s1, s2, s3, s4, s5, s6, s7, s8, s9, s10, s11, s12, s13, s14, s15, s16, s17, s18, s19, s20, s21, s22, s23, s24, ⟨rfl, hrel⟩, rfl⟩ := hinv; (try dsimp only)
    obtain ⟨k, hk, rfl, he, ha⟩ := hrel
    have c0 := he.box 0 _ rfl
    by_cases hlt : k < n
    · obtain ⟨ad, xs, B, m, e, rfl, hx, hc, hin⟩ := (h.ext ((Ext.refl w).alloc _ |>.trans he)).at_ hlt
      cases hr : rising 0 ((k : Int) - 1) xs
      · have HP := hide (rangeAll_false (p := dagRow xss) (n := n) hlt (by rw [dagRow_get hx]; exact hr))
        have HR := hide hr
        clear hr
        go_wp2_with (go_at_call 143; refine (l1Rising_c _ _ _ _ _ xs _ hin).mono ?_; rw [HR.out]; rintro e w1 ⟨rfl, he1⟩)
        go_ret
        exact ⟨ret_bool (by rw [HP.out]), by (repeat (first | with_reducible exact Ext.refl _ | with_reducible assumption | ((with_reducible refine Ext.setCell ?_ ?_ _); rotate_left; focus (first | omega | (simp <;> omega))) | with_reducible refine Ext.alloc ?_ _ | with_reducible refine Ext.drewN ?_ _ | with_reducible refine Ext.drew ?_ | with_reducible refine Ext.trans ?_ (by with_reducible assumption)))⟩
      · have HP : Hid (dagRow xss k = true) := hide (by rw [dagRow_get hx]; exact hr)
        have HR := hide hr
        clear hr
        go_wp2_with (go_at_call 143; refine (l1Rising_c _ _ _ _ _ xs _ hin).mono ?_; rw [HR.out]; rintro e w1 ⟨rfl, he1⟩)
        exact ⟨⟨(by first | trivial | rfl), k + 1, by omega, by go_num, he.trans he1, rangeAll_succ ha HP.out⟩, (by simp [intOf] <;> omega)⟩
    · obtain rfl : k = n := by omega
      go_wp2
      go_ret
      exact ⟨ret_bool (by rw [ha.out]), by (repeat (first | with_reducible exact Ext.refl _ | with_reducible assumption | ((with_reducible refine Ext.setCell ?_ ?_ _); rotate_left; focus (first | omega | (simp <;> omega))) | with_reducible refine Ext.alloc ?_ _ | with_reducible refine Ext.drewN ?_ _ | with_reducible refine Ext.drew ?_ | with_reducible refine Ext.trans ?_ (by with_reducible assumption)))⟩
set_option maxHeartbeats 1600000 in
theorem impl_IsDag_c (A : Option Addr) (n d : Nat) (xss : List (List Int)) (w : World) (h : Intss w A n xss) :
    Calls Try.prog 108 #[.agg #[.slice A n d]] w fun e w' => e = .returned (.bool (dagOk xss)) ∧ Ext w w' := by
  have hb := h.bound
  have hl := h.len
  have HL := hide hl
  clear hl
  go_enter Try.func108, Try.ntmps108
  go_wp2
  refine wp_loop (fun acT wr => ∃ s0 s1 s2 s3 s4 s5 s6 s7 s8 s9 s10 s11 s12 s13 s14 s15 s16 s17 s18 s19 s20 s21 s22 s23 s24 s25 s26 s27 s28 s29 s30 s31 s32 s33 s34 s35 s36 s37 s38 s39 s40 s41 s42 s43 s44 s45 : Value, (s1 = .pointer (some ⟨w.heap.size, 0, none⟩) ∧ s8 = .slice A n d ∧ s9 = .int .i64 n ∧ (∃ k : Nat, k ≤ n ∧ s10 = .int .i64 k ∧ Ext (w.alloc (.cells #[.slice A n d] 68)) wr ∧ Hid ((List.range k).all (dagRow xss) = true))) ∧ acT = ⟨#[s0, s1, s2, s3, s4, s5, s6, s7, s8, s9, s10, s11, s12, s13, s14, s15, s16, s17, s18, s19, s20, s21, s22, s23, s24, s25, s26, s27, s28, s29, s30, s31, s32, s33, s34, s35, s36, s37, s38, s39, s40, s41, s42, s43, s44, s45], []⟩) (fun acT wr => (fun (s10 : Value) (wr : World) => n - (intOf s10).toNat) (acT.tmps.getD 10 undef) wr) ?_ ?_
  · (refine ⟨_, _, _, _, _, _, _, _, _, _, _, _, _, _, _, _, _, _, _, _, _, _, _, _, _, _, _, _, _, _, _, _, _, _, _, _, _, _, _, _, _, _, _, _, _, _, ⟨rfl, rfl, rfl, ?_⟩, rfl⟩; exact ⟨0, Nat.zero_le _, rfl, Ext.refl _, by simp [Hid]⟩)
  intro _ wr hinv; obtain ⟨s0, s1, s2, s3, s4, s5, s6, s7, s8, s9, s10, s11, s12, s13, s14, s15, s16, s17, s18, s19, s20, s21, s22, s23, s24, s25, s26, s27, s28, s29, s30, s31, s32, s33, s34, s35, s36, s37, s38, s39, s40, s41, s42, s43, s44, s45, ⟨rfl, rfl, rfl, hrel⟩, rfl⟩ := hinv; (try dsimp only)
  obtain ⟨k, hk, rfl, he, ha⟩ := hrel
  have c0 := he.box 0 _ rfl
  by_cases hlt : k < n
  · obtain ⟨ad, xs, B, m, e, rfl, hx, hc, hin⟩ := (h.ext ((Ext.refl w).alloc _ |>.trans he)).at_ hlt
    have hml := hide hin.len
    have hmb := hin.bound
    have hrow := hide (dagRow_get hx)
    have hrowF : rising 0 ((k : Int) - 1) xs = false → Hid (dagOk xss = false) := fun hr => hide (by
      rw [dagOk, rangeAll_false (k := k) (by rw [← HL.out]; exact hlt) (by rw [hrow.out]; exact hr)]; simp)
    obtain ⟨W1, rfl⟩ : ∃ W, W = wr := ⟨_, rfl⟩
    have hk0 : (0 : Int) ≤ k := by omega
    go_wp2
    refine wp_loop (fun acT wr => ∃ s0 s1 s2 s3 s4 s5 s6 s7 s8 s9 s10 s11 s12 s13 s14 s15 s16 s17 s18 s19 s20 s21 s22 s23 s24 s25 s26 s27 s28 s29 s30 s31 s32 s33 s34 s35 s36 s37 s38 s39 s40 s41 s42 s43 s44 s45 : Value, (s1 = .pointer (some ⟨w.heap.size, 0, none⟩) ∧ s8 = .slice (some ad) n d ∧ s9 = .int .i64 n ∧ s10 = .int .i64 k ∧ s3 = .int .i64 k ∧ s4 = .slice B m e ∧ s15 = .slice B m e ∧ s16 = .int .i64 m ∧ (∃ i : Nat, i ≤ m ∧ s17 = .int .i64 i ∧ Ext W1 wr ∧ Hid ((List.range i).all (riseAt 0 ((k : Int) - 1) xs) = true))) ∧ acT = ⟨#[s0, s1, s2, s3, s4, s5, s6, s7, s8, s9, s10, s11, s12, s13, s14, s15, s16, s17, s18, s19, s20, s21, s22, s23, s24, s25, s26, s27, s28, s29, s30, s31, s32, s33, s34, s35, s36, s37, s38, s39, s40, s41, s42, s43, s44, s45], []⟩) (fun acT wr => (fun (s17 : Value) (wr : World) => m - (intOf s17).toNat) (acT.tmps.getD 17 undef) wr) ?_ ?_
    · (refine ⟨_, _, _, _, _, _, _, _, _, _, _, _, _, _, _, _, _, _, _, _, _, _, _, _, _, _, _, _, _, _, _, _, _, _, _, _, _, _, _, _, _, _, _, _, _, _, ⟨rfl, rfl, rfl, rfl, rfl, rfl, rfl, rfl, ?_⟩, rfl⟩; exact ⟨0, Nat.zero_le _, rfl, Ext.refl _, by simp [Hid]⟩)
    intro _ wr hinv; obtain ⟨s0, s1, s2, s3, s4, s5, s6, s7, s8, s9, s10, s11, s12, s13, s14, s15, s16, s17, s18, s19, s20, s21, s22, s23, s24, s25, s26, s27, s28, s29, s30, s31, s32, s33, s34, s35, s36, s37, s38, s39, s40, s41, s42, s43, s44, s45, ⟨rfl, rfl, rfl, rfl, rfl, rfl, rfl, rfl, hrel⟩, rfl⟩ := hinv; (try dsimp only)
    obtain ⟨i, hi, rfl, he1, hq⟩ := hrel
    by_cases hlt1 : i < m
    · obtain ⟨bd, x, rfl, hxi, hci⟩ := (hin.ext he1).at_ hlt1
      cases hlit : within x 0 ((k : Int) - 1)
      · have HP := hrowF (rangeAll_false (n := xs.length) (by rw [← hml.out]; exact hlt1) (riseAt_no hxi hlit))
        clear hrowF
        go_wp2_with (go_at_call 109; refine (within_c _ _ _ _).mono ?_; rintro e w' ⟨rfl, rfl⟩)
        go_ret
        exact ⟨ret_bool (by rw [HP.out]), by (repeat (first | with_reducible exact Ext.refl _ | with_reducible assumption | ((with_reducible refine Ext.setCell ?_ ?_ _); rotate_left; focus (first | omega | (simp <;> omega))) | with_reducible refine Ext.alloc ?_ _ | with_reducible refine Ext.drewN ?_ _ | with_reducible refine Ext.drew ?_ | with_reducible refine Ext.trans ?_ (by with_reducible assumption)))⟩
      · rcases Nat.eq_zero_or_pos i with rfl | hpos
        · have hp := hide (riseAt_first hxi hlit)
          have hc0 : wr.cell? bd = some (.int .i64 x) := by have := hci; rwa [show bd.add 0 = bd from by simp [Addr.add]] at this
          clear hci hrowF
          go_wp2_with (go_at_call 109; refine (within_c _ _ _ _).mono ?_; rintro e w' ⟨rfl, rfl⟩)
          exact ⟨⟨(by first | trivial | rfl), (by first | trivial | rfl), (by first | trivial | rfl), (by first | trivial | rfl), (by first | trivial | rfl), (by first | trivial | rfl), (by first | trivial | rfl), (by first | trivial | rfl), 1, by omega, by go_num, he1, rangeAll_succ hq hp.out⟩, (by simp [intOf] <;> omega)⟩
        · obtain ⟨bd', y, hA, hy, hcy⟩ := (hin.ext he1).at_ (k := i - 1) (by omega)
          obtain rfl : bd' = bd := by injection hA with hA; exact hA.symm
          clear hA
          have hp := hide (riseAt_next hpos hxi hy hlit)
          have hI : (i : Int) - 1 < (m : Int) := by omega
          have hI0 : 0 ≤ (i : Int) - 1 := by omega
          have hI1 : ((i : Int) - 1).toNat = i - 1 := by omega
          by_cases hlt2 : y < x
          · have hp2 : Hid (riseAt 0 ((k : Int) - 1) xs i = true) := hide (by rw [hp.out]; simpa using hlt2)
            clear hrowF
            go_wp2_with (go_at_call 109; refine (within_c _ _ _ _).mono ?_; rintro e w' ⟨rfl, rfl⟩)
            exact ⟨⟨(by first | trivial | rfl), (by first | trivial | rfl), (by first | trivial | rfl), (by first | trivial | rfl), (by first | trivial | rfl), (by first | trivial | rfl), (by first | trivial | rfl), (by first | trivial | rfl), i + 1, by omega, by go_num, he1, rangeAll_succ hq hp2.out⟩, (by simp [intOf] <;> omega)⟩
          · have hp2 : Hid (riseAt 0 ((k : Int) - 1) xs i = false) := hide (by rw [hp.out]; simpa using hlt2)
            have HP := hrowF (rangeAll_false (n := xs.length) (by rw [← hml.out]; exact hlt1) hp2.out)
            clear hrowF
            have hlt3 : x ≤ y := by omega
            go_wp2_with (go_at_call 109; refine (within_c _ _ _ _).mono ?_; rintro e w' ⟨rfl, rfl⟩)
            go_ret
            exact ⟨ret_bool (by rw [HP.out]), by (repeat (first | with_reducible exact Ext.refl _ | with_reducible assumption | ((with_reducible refine Ext.setCell ?_ ?_ _); rotate_left; focus (first | omega | (simp <;> omega))) | with_reducible refine Ext.alloc ?_ _ | with_reducible refine Ext.drewN ?_ _ | with_reducible refine Ext.drew ?_ | with_reducible refine Ext.trans ?_ (by with_reducible assumption)))⟩
    · obtain rfl : i = m := by omega
      have HP : Hid (dagRow xss k = true) := hide (by rw [hrow.out, rising, ← hml.out]; exact hq.out)
      clear hrowF
      go_wp2
      exact ⟨⟨(by first | trivial | rfl), (by first | trivial | rfl), (by first | trivial | rfl), k + 1, by omega, by go_num, he.trans he1, rangeAll_succ ha HP.out⟩, (by simp [intOf] <;> omega)⟩
  · obtain rfl : k = n := by omega
    go_wp2_with (go_at_call 109; refine (within_c _ _ _ _).mono ?_; rintro e w' ⟨rfl, rfl⟩)
    go_ret
    exact ⟨ret_bool (by rw [dagOk, ← HL.out, ha.out]; simp), by (repeat (first | with_reducible exact Ext.refl _ | with_reducible assumption | ((with_reducible refine Ext.setCell ?_ ?_ _); rotate_left; focus (first | omega | (simp <;> omega))) | with_reducible refine Ext.alloc ?_ _ | with_reducible refine Ext.drewN ?_ _ | with_reducible refine Ext.drew ?_ | with_reducible refine Ext.trans ?_ (by with_reducible assumption)))⟩
end Go.Proofs.Ytcbjaomjamfjcaa
