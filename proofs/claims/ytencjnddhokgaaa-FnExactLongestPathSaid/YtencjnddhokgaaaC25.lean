/-
  The longest path of a dag.
-/
import Derived.Test.YtencjnddhokgaaaC15
namespace Go.Proofs.Ytencjnddhokgaaa
set_option linter.unusedSimpArgs false
set_option linter.unusedVariables false
open Go.RowKit

/-- How long the longest path to a node is, out of those of its predecessors. -/
def lpOne (ls : List Int) (row : List Int) : Int := row.foldl (fun n p => max n (ls.getD p.toNat 0 + 1)) 1
def lpAll (rows : List (List Int)) : List Int := rows.foldl (fun ls row => ls ++ [lpOne ls row]) []
theorem lpAll_succ {rows : List (List Int)} {i : Nat} {row : List Int} (hx : Hid (rows[i]? = some row)) : lpAll (rows.take (i + 1)) = lpAll (rows.take i) ++ [lpOne (lpAll (rows.take i)) row] := by
  rw [take_succ_of hx]; simp [lpAll]
theorem lpAll_length (rows : List (List Int)) : (lpAll rows).length = rows.length := by
  have : ∀ (rows : List (List Int)) (ls : List Int), (rows.foldl (fun ls row => ls ++ [lpOne ls row]) ls).length = ls.length + rows.length := by
    intro rows
    induction rows with
    | nil => intro ls; simp
    | cons r rows ih => intro ls; rw [List.foldl_cons, ih]; simp; omega
  simp [lpAll, this]
theorem lpOne_succ {ls row : List Int} {j : Nat} {p : Int} (hp : Hid (row[j]? = some p)) : lpOne ls (row.take (j + 1)) = max (lpOne ls (row.take j)) (ls.getD p.toNat 0 + 1) := by
  rw [take_succ_of hp]; simp [lpOne]
theorem lpOne_le {ls : List Int} {B : Int} (h : ∀ y ∈ ls, 1 ≤ y ∧ y ≤ B) (hB : 0 ≤ B) (row : List Int) (j : Nat) : 1 ≤ lpOne ls (row.take j) ∧ lpOne ls (row.take j) ≤ B + 1 := by
  induction j with
  | zero => simp [lpOne]; omega
  | succ j ih =>
    by_cases hj : j < row.length
    · rw [lpOne_succ (hide (List.getElem?_eq_getElem hj))]
      have : ls.getD (row[j]).toNat 0 ≤ B := by
        rw [List.getD_eq_getElem?_getD]
        cases hq : ls[(row[j]).toNat]? with
        | none => simp; omega
        | some y => exact (h y (List.mem_of_getElem? hq)).2
      omega
    · rw [List.take_of_length_le (by omega)] at ih ⊢; exact ih
theorem lpAll_le (rows : List (List Int)) (i : Nat) : ∀ y ∈ lpAll (rows.take i), 1 ≤ y ∧ y ≤ (i : Int) := by
  induction i with
  | zero => simp [lpAll]
  | succ i ih =>
    by_cases hi : i < rows.length
    · rw [lpAll_succ (hide (List.getElem?_eq_getElem hi))]
      intro y hy
      simp only [List.mem_append, List.mem_singleton] at hy
      rcases hy with hy | rfl
      · have := ih y hy; omega
      · have := lpOne_le ih (by omega) rows[i] rows[i].length
        rw [List.take_length] at this
        omega
    · rw [List.take_of_length_le (by omega)] at ih ⊢
      intro y hy
      have := ih y hy
      omega
def maxOf (ls : List Int) : Int := ls.foldl max 0
theorem maxOf_succ (ls : List Int) (y : Int) : maxOf (ls ++ [y]) = max (maxOf ls) y := by simp [maxOf]
theorem maxOf_le {ls : List Int} {B : Int} (h : ∀ y ∈ ls, y ≤ B) (hB : 0 ≤ B) : 0 ≤ maxOf ls ∧ maxOf ls ≤ B := by
  have : ∀ (ls : List Int) (z : Int), (∀ y ∈ ls, y ≤ B) → z ≤ B → z ≤ ls.foldl max z ∧ ls.foldl max z ≤ B := by
    intro ls
    induction ls with
    | nil => intro z _ hz; simp; exact hz
    | cons y ls ih =>
      intro z h hz
      have h1 := h y (by simp)
      have := ih (max z y) (fun q hq => h q (by simp [hq])) (by omega)
      simp only [List.foldl_cons]; omega
  exact this ls 0 h hB
def pathLen (xss : List (List Int)) : Int := maxOf (lpAll xss)
theorem pred_low {xss : List (List Int)} (h : dagOk xss = true) {i : Nat} {xs : List Int} (hx : Hid (xss[i]? = some xs)) {j : Nat} {p : Int} (hp : Hid (xs[j]? = some p)) : ∃ u : Nat, p = u ∧ u < i := by
  have hr := dag_row h hx.out
  have := rising_mem hr (List.mem_of_getElem? hp.out)
  exact ⟨p.toNat, by omega, by omega⟩

set_option maxRecDepth 100000 in
set_option maxHeartbeats 1600000 in
theorem spec_LongestPath_c (A : Option Addr) (n d : Nat) (xss : List (List Int)) (w : World) (h : Intss w A n xss) :
    Calls Try.prog 36 #[.agg #[.slice A n d]] w fun e w' =>
      ∃ t : Int, e = .returned (.tuple #[.int .i64 t, .bool (dagOk xss)]) ∧ t = (if dagOk xss then pathLen xss else 0) ∧ Ext w w' := by
  have hb := h.bound
  have HL := hide h.len
  cases hd : dagOk xss
  · simp only [Bool.false_eq_true, if_false]
    have HD := hide hd
    clear hd
    go_enter Try.func36, Try.ntmps36
    go_wp2_with (go_at_call 75; refine (l14Good_c _ _ _ xss _ (h.ext (by (repeat (first | with_reducible exact Ext.refl _ | with_reducible assumption | ((with_reducible refine Ext.setCell ?_ ?_ _); rotate_left; focus (first | omega | (simp <;> omega))) | with_reducible refine Ext.alloc ?_ _ | with_reducible refine Ext.drewN ?_ _ | with_reducible refine Ext.drew ?_ | with_reducible refine Ext.trans ?_ (by with_reducible assumption)))))).mono ?_; rw [HD.out]; rintro e w1 ⟨rfl, he⟩)
    go_ret2
    exact ⟨_, rfl, rfl, by (repeat (first | with_reducible exact Ext.refl _ | with_reducible assumption | ((with_reducible refine Ext.setCell ?_ ?_ _); rotate_left; focus (first | omega | (simp <;> omega))) | with_reducible refine Ext.alloc ?_ _ | with_reducible refine Ext.drewN ?_ _ | with_reducible refine Ext.drew ?_ | with_reducible refine Ext.trans ?_ (by with_reducible assumption)))⟩
  · simp only [if_true]
    have hn10 : n ≤ 10 := by have := dagOk_len hd; have := HL.out; omega
    have HD := hide hd
    clear hd
    go_enter Try.func36, Try.ntmps36
    go_wp2_with (go_at_call 75; refine (l14Good_c _ _ _ xss _ (h.ext (by (repeat (first | with_reducible exact Ext.refl _ | with_reducible assumption | ((with_reducible refine Ext.setCell ?_ ?_ _); rotate_left; focus (first | omega | (simp <;> omega))) | with_reducible refine Ext.alloc ?_ _ | with_reducible refine Ext.drewN ?_ _ | with_reducible refine Ext.drew ?_ | with_reducible refine Ext.trans ?_ (by with_reducible assumption)))))).mono ?_; rw [HD.out]; rintro e w1 ⟨rfl, he⟩; have c1 := he.cell (p := ⟨w.heap.size, 0, none⟩) (u := .slice A n d) (by simp [go_sem]))
    have hs := he.size
    have h0 := ((ObI.empty (e := 3) (W := w1) (lo := w.heap.size) (by simp at hs; omega))).own
    have hx : Ext w w1 := by (repeat (first | with_reducible exact Ext.refl _ | with_reducible assumption | ((with_reducible refine Ext.setCell ?_ ?_ _); rotate_left; focus (first | omega | (simp <;> omega))) | with_reducible refine Ext.alloc ?_ _ | with_reducible refine Ext.drewN ?_ _ | with_reducible refine Ext.drew ?_ | with_reducible refine Ext.trans ?_ (by with_reducible assumption)))
    have hbx : BoxAt w1 w.heap.size 49 #[.slice A n d] := (BoxAt.made w _ _).ext he
    refine wp_loopK _ rfl (fun KK acT wr => ∃ s0 s1 s2 s3 s4 s5 s6 s7 s8 s9 s10 s11 s12 s13 s14 s15 s16 s17 s18 s19 s20 s21 s22 s23 s24 s25 s26 s27 s28 s29 s30 s31 s32 s33 s34 s35 s36 s37 s38 s39 s40 s41 s42 s43 s44 s45 s46 s47 s48 s49 s50 s51 : Value, (KeptM [false, true, false, false, false, false, false, false, false, false, false, false, false, false, false, false, false, false, false, false, false, false, false, false, false, false, false, false, false, false, false, false, false, false, false, false, false, false, false, false, false, false, false, false, false, false, false, false, false, false, false, true] [s0, s1, s2, s3, s4, s5, s6, s7, s8, s9, s10, s11, s12, s13, s14, s15, s16, s17, s18, s19, s20, s21, s22, s23, s24, s25, s26, s27, s28, s29, s30, s31, s32, s33, s34, s35, s36, s37, s38, s39, s40, s41, s42, s43, s44, s45, s46, s47, s48, s49, s50, s51] KK ∧ (Ext w wr ∧ BoxAt wr w.heap.size 49 #[.slice A n d] ∧ ∃ k : Nat, k ≤ n ∧ s6 = .int .i64 k ∧ ∃ B m c q, s4 = .slice B m c ∧ m = k ∧ Own wr w.heap.size 3 1 B m c ((lpAll (xss.take k)).map (Value.int .i64)) ∧ s5 = .int .i64 q ∧ Hid (q = maxOf (lpAll (xss.take k))))) ∧ acT = ⟨#[s0, s1, s2, s3, s4, s5, s6, s7, s8, s9, s10, s11, s12, s13, s14, s15, s16, s17, s18, s19, s20, s21, s22, s23, s24, s25, s26, s27, s28, s29, s30, s31, s32, s33, s34, s35, s36, s37, s38, s39, s40, s41, s42, s43, s44, s45, s46, s47, s48, s49, s50, s51], []⟩) (fun acT wr => (fun (s6 : Value) (wr : World) => n - (intOf s6).toNat) (acT.tmps.getD 6 undef) wr) ?_ ?_
    · (refine ⟨_, _, _, _, _, _, _, _, _, _, _, _, _, _, _, _, _, _, _, _, _, _, _, _, _, _, _, _, _, _, _, _, _, _, _, _, _, _, _, _, _, _, _, _, _, _, _, _, _, _, _, _, ⟨(by (repeat (first | exact trivial | refine ⟨rfl, ?_⟩))), ?_⟩, rfl⟩; exact ⟨by (repeat (first | with_reducible exact Ext.refl _ | with_reducible assumption | ((with_reducible refine Ext.setCell ?_ ?_ _); rotate_left; focus (first | omega | (simp <;> omega))) | with_reducible refine Ext.alloc ?_ _ | with_reducible refine Ext.drewN ?_ _ | with_reducible refine Ext.drew ?_ | with_reducible refine Ext.trans ?_ (by with_reducible assumption))), hbx.ext (by (repeat (first | with_reducible exact Ext.refl _ | with_reducible assumption | ((with_reducible refine Ext.setCell ?_ ?_ _); rotate_left; focus (first | omega | (simp <;> omega))) | with_reducible refine Ext.alloc ?_ _ | with_reducible refine Ext.drewN ?_ _ | with_reducible refine Ext.drew ?_ | with_reducible refine Ext.trans ?_ (by with_reducible assumption)))), 0, by omega, rfl, _, _, _, _, rfl, rfl, by simpa [lpAll] using h0, rfl, by simp [Hid, maxOf, lpAll]⟩)
    intro _ wr hinv; obtain ⟨s0, s1, s2, s3, s4, s5, s6, s7, s8, s9, s10, s11, s12, s13, s14, s15, s16, s17, s18, s19, s20, s21, s22, s23, s24, s25, s26, s27, s28, s29, s30, s31, s32, s33, s34, s35, s36, s37, s38, s39, s40, s41, s42, s43, s44, s45, s46, s47, s48, s49, s50, s51, ⟨hkept, hrel⟩, rfl⟩ := hinv; simp only [KeptM] at hkept; obtain ⟨rfl, rfl, -⟩ := hkept; (try dsimp only)
    clear h0 hx hbx c1 he hs
    obtain ⟨he, hbx, k, hk, hsx, B, m, c, q, hsl, rfl, ho, hsm, hq⟩ := hrel
    subst hsx; subst hsl; subst hsm
    have c1 := hbx.cell 0 _ rfl
    have hle := hide (lpAll_le xss m)
    have hqb : 0 ≤ q ∧ q ≤ (m : Int) := by rw [hq.out]; exact maxOf_le (fun y hy => (hle.out y hy).2) (by omega)
    by_cases hlt : m < n
    · obtain ⟨ad, xs, X, y, z, rfl, hx, hc, hin⟩ := (h.ext he).at_ hlt
      obtain ⟨W1, rfl⟩ : ∃ W, W = wr := ⟨_, rfl⟩
      have hyl := hide hin.len
      have hyb := hin.bound
      have hone := hide (lpOne_le hle.out (by omega) xs)
      have hll : Hid ((lpAll (xss.take m)).length = m) := hide (by rw [lpAll_length]; simp; have := HL.out; omega)
      go_wp2
      refine wp_loopK _ rfl (fun KK acT wr => ∃ s0 s1 s2 s3 s4 s5 s6 s7 s8 s9 s10 s11 s12 s13 s14 s15 s16 s17 s18 s19 s20 s21 s22 s23 s24 s25 s26 s27 s28 s29 s30 s31 s32 s33 s34 s35 s36 s37 s38 s39 s40 s41 s42 s43 s44 s45 s46 s47 s48 s49 s50 s51 : Value, (KeptM [false, true, false, false, true, true, true, false, false, false, false, false, false, true, true, true, true, true, true, true, false, false, false, false, false, false, false, false, false, false, false, false, false, false, false, false, false, false, false, false, false, false, false, false, true, true, true, true, true, true, true, true] [s0, s1, s2, s3, s4, s5, s6, s7, s8, s9, s10, s11, s12, s13, s14, s15, s16, s17, s18, s19, s20, s21, s22, s23, s24, s25, s26, s27, s28, s29, s30, s31, s32, s33, s34, s35, s36, s37, s38, s39, s40, s41, s42, s43, s44, s45, s46, s47, s48, s49, s50, s51] KK ∧ (Ext W1 wr ∧ ∃ j : Nat, j ≤ y ∧ s8 = .int .i64 j ∧ ∃ t : Int, s7 = .int .i64 t ∧ Hid (t = lpOne (lpAll (xss.take m)) (xs.take j)))) ∧ acT = ⟨#[s0, s1, s2, s3, s4, s5, s6, s7, s8, s9, s10, s11, s12, s13, s14, s15, s16, s17, s18, s19, s20, s21, s22, s23, s24, s25, s26, s27, s28, s29, s30, s31, s32, s33, s34, s35, s36, s37, s38, s39, s40, s41, s42, s43, s44, s45, s46, s47, s48, s49, s50, s51], []⟩) (fun acT wr => (fun (s8 : Value) (wr : World) => y - (intOf s8).toNat) (acT.tmps.getD 8 undef) wr) ?_ ?_
      · (refine ⟨_, _, _, _, _, _, _, _, _, _, _, _, _, _, _, _, _, _, _, _, _, _, _, _, _, _, _, _, _, _, _, _, _, _, _, _, _, _, _, _, _, _, _, _, _, _, _, _, _, _, _, _, ⟨(by (repeat (first | exact trivial | refine ⟨rfl, ?_⟩))), ?_⟩, rfl⟩; exact ⟨Ext.refl _, 0, by omega, rfl, 1, rfl, by simp [Hid, lpOne]⟩)
      intro _ wr hinv; obtain ⟨s0, s1, s2, s3, s4, s5, s6, s7, s8, s9, s10, s11, s12, s13, s14, s15, s16, s17, s18, s19, s20, s21, s22, s23, s24, s25, s26, s27, s28, s29, s30, s31, s32, s33, s34, s35, s36, s37, s38, s39, s40, s41, s42, s43, s44, s45, s46, s47, s48, s49, s50, s51, ⟨hkept, hrel⟩, rfl⟩ := hinv; simp only [KeptM] at hkept; obtain ⟨rfl, rfl, rfl, rfl, rfl, rfl, rfl, rfl, rfl, rfl, rfl, rfl, rfl, rfl, rfl, rfl, rfl, rfl, rfl, -⟩ := hkept; (try dsimp only)
      obtain ⟨he1, j, hj, rfl, t, rfl, ht⟩ := hrel
      have htb : 1 ≤ t ∧ t ≤ (m : Int) + 1 := by rw [ht.out]; exact hone.out j
      have c2 := (hbx.ext he1).cell 0 _ rfl
      have hc2 := he1.cell hc
      by_cases hlt1 : j < y
      · obtain ⟨bd, p, rfl, hp, hcp⟩ := (hin.ext he1).at_ hlt1
        obtain ⟨u, rfl, hu⟩ := pred_low HD.out hx hp
        obtain ⟨g, rfl, _, _⟩ := ho.form (by omega)
        obtain ⟨v, hv, hvc, _⟩ := (ho.ext he1).int_at hu
        have hvb := hle.out v (List.mem_of_getElem? hv.out)
        have ht2 : Hid (max t (v + 1) = lpOne (lpAll (xss.take m)) (xs.take (j + 1))) := hide (by rw [lpOne_succ hp, ← ht.out, Int.toNat_natCast, getD_of hv])
        have hum : (u : Int) < (m : Int) := by omega
        go_wp2_with (go_at_call 76; refine (l1Most_c _ _ _).mono ?_; rintro e w' ⟨rfl, rfl⟩)
        exact ⟨⟨(by (repeat (first | exact trivial | refine ⟨rfl, ?_⟩))), he1, j + 1, by omega, by go_num, _, rfl, ht2⟩, (by simp [intOf] <;> omega)⟩
      · obtain rfl : j = y := by omega
        have hall : Hid (t = lpOne (lpAll (xss.take m)) xs) := hide (by rw [ht.out, show xs.take j = xs from List.take_of_length_le (by rw [hyl.out]; exact Nat.le_refl _)])
        have hsucc := hide (lpAll_succ hx)
        have hqs : Hid (max q t = maxOf (lpAll (xss.take (m + 1)))) := hide (by rw [hsucc.out, maxOf_succ, ← hq.out, ← hall.out])
        have ho1 := ho.ext he1
        have hbx1 := hbx.ext he1
        have hee := he.trans he1
        have hsz := hee.size
        go_wp2_with (first | (go_at_call 76; refine (l1Most_c _ _ _).mono ?_; rintro e w' ⟨rfl, rfl⟩) | (at_builtin; refine wpList_app rfl _ _ _ _ rfl Try.underlying22 _ 1 8 info_int rfl (by decide) rfl ho1 1 [.int .i64 t] (by first | rfl | simp [go_sem]) rfl ?_ ?_ ?_ ?_ ?_; (intro u hu; simp at hu; first | (subst hu; rfl) | (rcases hu with rfl | rfl <;> rfl) | (rcases hu with rfl | rfl | rfl <;> rfl)); omega; omega; omega; intro A' c' w' ho' hg' hb'))
        exact ⟨⟨(by (repeat (first | exact trivial | refine ⟨rfl, ?_⟩))), hee.own ho1 hg', hbx1.grown ho1 (by decide) hg', m + 1, by omega, by go_num, _, _, _, _, rfl, rfl, by rw [hsucc.out, ← hall.out]; simpa using ho', rfl, hqs⟩, (by simp [intOf] <;> omega)⟩
    · obtain rfl : m = n := by omega
      go_wp2
      go_ret2
      exact ⟨_, rfl, by rw [hq.out, pathLen, List.take_of_length_le (by rw [← HL.out]; exact Nat.le_refl _)], he⟩
/-! ### slices.Max -/
theorem maxFrom_take {xs : List Int} {i : Nat} {x z : Int} (hx : Hid (xs[i]? = some x)) : (xs.take (i + 1)).foldl max z = max ((xs.take i).foldl max z) x := by
  rw [take_succ_of hx]; simp
theorem Max_int_c (A : Option Addr) (n d : Nat) (xs : List Int) (w : World) (h : Ints w A n xs) (hn : 0 < n) (hp : ∀ x ∈ xs, 0 ≤ x) :
    Calls Try.prog 79 #[.slice A n d] w fun e w' => e = .returned (.int .i64 (maxOf xs)) ∧ Ext w w' := by
  have hb := h.bound
  have HL := hide h.len
  have HP := hide hp
  clear hp
  obtain ⟨ad, x0, rfl, hx0, hc0'⟩ := h.at_ hn
  have hc0 : w.cell? ad = some (.int .i64 x0) := by have := hc0'; rwa [show ad.add 0 = ad from by simp [Addr.add]] at this
  have hx00 := HP.out x0 (List.mem_of_getElem? hx0.out)
  go_enter Try.func79, Try.ntmps79
  go_wp2
  refine wp_loopK _ rfl (fun KK acT wr => ∃ s0 s1 s2 s3 s4 s5 s6 s7 s8 s9 s10 s11 s12 s13 s14 s15 s16 s17 s18 s19 s20 s21 s22 s23 s24 : Value, (KeptM [true, false, false, false, false, false, false, false, false, false, false, false, false, false, false, false, false, false, false, false, false, false, false, false, true] [s0, s1, s2, s3, s4, s5, s6, s7, s8, s9, s10, s11, s12, s13, s14, s15, s16, s17, s18, s19, s20, s21, s22, s23, s24] KK ∧ (Ext w wr ∧ ∃ i : Nat, 1 ≤ i ∧ i ≤ n ∧ s4 = .int .i64 i ∧ ∃ t : Int, s3 = .int .i64 t ∧ Hid (t = maxOf (xs.take i)))) ∧ acT = ⟨#[s0, s1, s2, s3, s4, s5, s6, s7, s8, s9, s10, s11, s12, s13, s14, s15, s16, s17, s18, s19, s20, s21, s22, s23, s24], []⟩) (fun acT wr => (fun (s4 : Value) (wr : World) => n - (intOf s4).toNat) (acT.tmps.getD 4 undef) wr) ?_ ?_
  · (refine ⟨_, _, _, _, _, _, _, _, _, _, _, _, _, _, _, _, _, _, _, _, _, _, _, _, _, ⟨(by (repeat (first | exact trivial | refine ⟨rfl, ?_⟩))), ?_⟩, rfl⟩; exact ⟨Ext.refl _, 1, by omega, by omega, rfl, x0, rfl, by unfold Hid; rw [take_succ_of hx0]; simp [maxOf]; omega⟩)
  intro _ wr hinv; obtain ⟨s0, s1, s2, s3, s4, s5, s6, s7, s8, s9, s10, s11, s12, s13, s14, s15, s16, s17, s18, s19, s20, s21, s22, s23, s24, ⟨hkept, hrel⟩, rfl⟩ := hinv; simp only [KeptM] at hkept; obtain ⟨rfl, rfl, -⟩ := hkept; (try dsimp only)
  obtain ⟨he, i, hi1, hi, rfl, t, rfl, ht⟩ := hrel
  by_cases hlt : i < n
  · obtain ⟨ad', x, hA, hx, hc⟩ := (h.ext he).at_ hlt
    obtain rfl : ad' = ad := by injection hA with hA; exact hA.symm
    clear hA
    have ht2 : Hid (max t x = maxOf (xs.take (i + 1))) := hide (by rw [ht.out, maxOf, maxOf, maxFrom_take hx])
    go_wp2
    all_goals exact ⟨⟨(by (repeat (first | exact trivial | refine ⟨rfl, ?_⟩))), he, i + 1, by omega, by omega, by go_num, _, rfl, by first | exact ht2 | (rw [← Int.max_def]; exact ht2) | (have := ht2.out; unfold Hid; omega)⟩, (by simp [intOf] <;> omega)⟩
  · obtain rfl : i = n := by omega
    go_wp2
    go_ret
    exact ⟨ret_int (by rw [ht.out, List.take_of_length_le (by rw [HL.out]; exact Nat.le_refl _)]), he⟩
end Go.Proofs.Ytencjnddhokgaaa
