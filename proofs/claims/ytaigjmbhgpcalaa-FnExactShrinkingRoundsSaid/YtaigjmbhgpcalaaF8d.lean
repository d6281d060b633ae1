/-
  The program's order of clauses once more: the callee draws forward; no condition.
-/
import Derived.Test.YtaigjmbhgpcalaaF8
import Derived.Sort.Grow

namespace Go.Proofs.Ytaigjmbhgpcalaa
set_option linter.unusedSimpArgs false
set_option linter.unusedVariables false
open Go.RowKit
/-- A world that stands behind another: old blocks as they were, draws not fewer. -/
def ExtD (w w' : World) : Prop := Ext w w' ∧ w.drawn ≤ w'.drawn
theorem ExtD.refl (w : World) : ExtD w w := ⟨Ext.refl w, Nat.le_refl _⟩
theorem ExtD.trans {a b c : World} (h : ExtD a b) (k : ExtD b c) : ExtD a c := ⟨h.1.trans k.1, Nat.le_trans h.2 k.2⟩
theorem ExtD.alloc {a b : World} (h : ExtD a b) (o : Obj) : ExtD a (b.alloc o) := ⟨h.1.alloc o, h.2⟩
theorem ExtD.grown {w w' : World} (h : ExtD w w') : ∃ (q : Nat) (os : Array Obj), w' = Sort.grow (w.drewN q) os := by
  obtain ⟨he, hd⟩ := h
  refine ⟨w'.drawn - w.drawn, w'.heap.extract w.heap.size w'.heap.size, ?_⟩
  have hh : w'.heap = w.heap ++ w'.heap.extract w.heap.size w'.heap.size := by
    apply Array.ext_getElem?
    intro k
    by_cases hk : k < w.heap.size
    · rw [Array.getElem?_append_left hk]; exact he.block k hk
    · rw [Array.getElem?_append_right (by omega), Array.getElem?_extract]
      have := he.size
      by_cases hk2 : k < w'.heap.size
      · rw [if_pos (by omega), show w.heap.size + (k - w.heap.size) = k by omega]
      · rw [if_neg (by omega)]; exact Array.getElem?_eq_none (by omega)
  have h1 := he.tape
  have h2 := he.os
  have h3 := he.output
  unfold Sort.grow World.drewN
  obtain ⟨wh, wt, wd, wo, wu⟩ := w
  obtain ⟨vh, vt, vd, vo, vu⟩ := w'
  simp only at *
  subst h1; subst h2; subst h3
  congr 1
  omega
set_option maxRecDepth 100000 in
theorem Or_d (A : Option Addr) (n d : Nat) (xs : List Int) (w : World) (h : Ints w A n xs) :
    Calls Try.prog 69 #[.slice A n d] w fun e w' => e = .returned (.int .i64 (firstNZ xs)) ∧ ExtD w w' := by
  have hb := h.bound
  have HL := hide h.len
  obtain ⟨r, hr⟩ : ∃ r, r = firstNZ xs := ⟨_, rfl⟩
  rw [← hr]
  have HR := hide hr
  clear hr
  go_enter Try.func69, Try.ntmps69
  go_wp2
  refine wp_loopK _ rfl (fun KK acT wr => ∃ s0 s1 s2 s3 s4 s5 s6 s7 s8 s9 s10 s11 s12 s13 s14 s15 s16 s17 : Value, (KeptM [false, false, false, true, false, false, true, true, false, false, false, false, false, false, false, false, false, true] [s0, s1, s2, s3, s4, s5, s6, s7, s8, s9, s10, s11, s12, s13, s14, s15, s16, s17] KK ∧ (ExtD w wr ∧ ∃ i : Nat, i ≤ n ∧ s8 = .int .i64 i ∧ Hid (r = firstNZ (xs.drop i)))) ∧ acT = ⟨#[s0, s1, s2, s3, s4, s5, s6, s7, s8, s9, s10, s11, s12, s13, s14, s15, s16, s17], []⟩) (fun acT wr => (fun (s8 : Value) (wr : World) => n - (intOf s8).toNat) (acT.tmps.getD 8 undef) wr) ?_ ?_
  · (refine ⟨_, _, _, _, _, _, _, _, _, _, _, _, _, _, _, _, _, _, ⟨(by (repeat (first | exact trivial | refine ⟨rfl, ?_⟩))), ?_⟩, rfl⟩; exact ⟨ExtD.refl _, 0, by omega, rfl, by simpa using HR⟩)
  intro _ wr hinv; obtain ⟨s0, s1, s2, s3, s4, s5, s6, s7, s8, s9, s10, s11, s12, s13, s14, s15, s16, s17, ⟨hkept, hrel⟩, rfl⟩ := hinv; simp only [KeptM] at hkept; obtain ⟨rfl, rfl, rfl, rfl, -⟩ := hkept; (try dsimp only)
  obtain ⟨he, i, hi, hs1, hq⟩ := hrel
  subst hs1
  by_cases hlt : i < n
  · obtain ⟨ad, x, rfl, hx, gx⟩ := (h.ext he.1).at_ hlt
    have hd := firstNZ_drop hx
    rw [← hq.out] at hd
    by_cases hx0 : x = 0
    · rw [if_pos hx0] at hd
      have hq2 := hide hd
      have hxf : (x != 0) = false := by simpa using hx0
      clear hd hq hx hx0
      go_wp2_with fail
      exact ⟨⟨(by (repeat (first | exact trivial | refine ⟨rfl, ?_⟩))), he, i + 1, by omega, by go_num, hq2⟩, (by simp [intOf] <;> omega)⟩
    · rw [if_neg hx0] at hd
      have hq2 := hide hd
      have hxf : (x != 0) = true := by simpa using hx0
      clear hd hq hx hx0
      go_wp2_with fail
      go_ret
      exact ⟨ret_int hq2.out.symm, he⟩
  · have hq2 : Hid (r = 0) := hide (by rw [hq.out, List.drop_eq_nil_of_le (by rw [← HL.out]; omega)]; rfl)
    go_wp2_with fail
    go_ret
    exact ⟨ret_int hq2.out.symm, he⟩
set_option maxRecDepth 100000 in
theorem compareLiterals_d (a b : Int) (w : World) : Calls Try.prog 72 (#[.int .i64 a, .int .i64 b] ++ #[]) w fun e w' => e = .returned (.int .i64 (cmpL a b)) ∧ ExtD w w' := by
  unfold cmpL
  have HA := hide (fun W => abs_c a W)
  have HB := hide (fun W => abs_c b W)
  generalize absW a = x at *
  generalize absW b = y at *
  have H1 := hide (fun W => Compare_c x y W)
  have H2 := hide (fun W => Compare_c b a W)
  generalize cmpI x y = p at *
  generalize cmpI b a = q at *
  have HO := hide (Or_d (some ⟨w.heap.size, 0, none⟩) 2 2 [p, q] _ (two_ints w p q 3))
  generalize firstNZ [p, q] = r at *
  go_enter Try.func72, Try.ntmps72
  go_wp2_with fail
  refine (HA.out _).mono ?_
  rintro e w1 ⟨rfl, rfl⟩
  go_wp2_with fail
  refine (HB.out _).mono ?_
  rintro e w1 ⟨rfl, rfl⟩
  go_wp2_with fail
  refine (H1.out _).mono ?_
  rintro e w1 ⟨rfl, rfl⟩
  go_wp2_with fail
  refine (H2.out _).mono ?_
  rintro e w1 ⟨rfl, rfl⟩
  go_wp2_with fail
  refine HO.out.mono ?_
  rintro e w1 ⟨rfl, he⟩
  go_wp2_with fail
  go_ret
  exact ⟨rfl, ((ExtD.refl _).alloc _).trans he⟩
set_option maxRecDepth 100000 in
set_option maxHeartbeats 1600000 in
theorem CompareFunc_d (A : Option Addr) (n d : Nat) (xs : List Int) (B : Option Addr) (m q : Nat) (ys : List Int) (w : World) (h : Ints w A n xs) (k : Ints w B m ys) :
    Calls Try.prog 71 #[.slice A n d, .slice B m q, .func (.func 72) #[] #[]] w fun e w' => e = .returned (.int .i64 (cmpGo xs ys)) ∧ ExtD w w' := by
  have hbn := h.bound
  have hbm := k.bound
  have HL := hide h.len
  have HK := hide k.len
  obtain ⟨r, hr⟩ : ∃ r, r = cmpGo xs ys := ⟨_, rfl⟩
  rw [← hr]
  have HR := hide hr
  clear hr
  go_enter Try.func71, Try.ntmps71
  go_wp2_with fail
  refine wp_loopF 39 _ rfl rfl [0, 1, 2, 11, 12, 34, 35, 36, 37, 38] rfl (fun fr wr => ExtD w wr ∧ ∃ i : Nat, i ≤ n ∧ i ≤ m ∧ (fr 13) = .int .i64 i ∧ Hid (r = cmpGo (xs.drop i) (ys.drop i))) (fun fr wr => n - (intOf (fr 13)).toNat) ?_ ?_
  · (exact ⟨ExtD.refl _, 0, by omega, by omega, rfl, by simpa using HR⟩)
  intro ks fr wr hkept hrel; (try dsimp only at hrel)
  change Code.wp _ _ _ ⟨#[ks 0, ks 1, ks 2, fr 3, fr 4, fr 5, fr 6, fr 7, fr 8, fr 9, fr 10, ks 11, ks 12, fr 13, fr 14, fr 15, fr 16, fr 17, fr 18, fr 19, fr 20, fr 21, fr 22, fr 23, fr 24, fr 25, fr 26, fr 27, fr 28, fr 29, fr 30, fr 31, fr 32, fr 33, ks 34, ks 35, ks 36, ks 37, ks 38], []⟩ wr
  simp only [KeptV, List.getD_cons_zero, List.getD_cons_succ] at hkept; obtain ⟨hk0, hk1, hk2, hk11, hk12, hk34, hk35, hk36, hk37, hk38, -⟩ := hkept
  generalize ks 0 = k0 at hk0 ⊢; subst hk0
  generalize ks 1 = k1 at hk1 ⊢; subst hk1
  generalize ks 2 = k2 at hk2 ⊢; subst hk2
  generalize ks 11 = k11 at hk11 ⊢; subst hk11
  generalize ks 12 = k12 at hk12 ⊢; subst hk12
  generalize ks 34 = k34 at hk34 ⊢; subst hk34
  generalize ks 35 = k35 at hk35 ⊢; subst hk35
  generalize ks 36 = k36 at hk36 ⊢; subst hk36
  generalize ks 37 = k37 at hk37 ⊢; subst hk37
  generalize ks 38 = k38 at hk38 ⊢; subst hk38
  generalize fr 13 = s13 at hrel ⊢
  obtain ⟨he, i, hi, him, hs1, hq⟩ := hrel
  subst hs1
  by_cases hlt : i < n
  · obtain ⟨ad, x, rfl, hx, gx⟩ := (h.ext he.1).at_ hlt
    by_cases hlm : i < m
    · obtain ⟨ad2, y, rfl, hy, gy⟩ := (k.ext he.1).at_ hlm
      have hge : ¬ (m : Int) ≤ (i : Int) := by omega
      have hd := cmpGo_drop hx hy
      rw [← hq.out] at hd
      have HC := hide (fun W => compareLiterals_d x y W)
      have hen := compareLiterals_enters (#[.int .i64 x, .int .i64 y] ++ #[]) wr
      generalize cmpL x y = c at HC hd
      by_cases hc0 : c = 0
      · rw [if_pos hc0] at hd
        have hq2 := hide hd
        have hcf : (c != 0) = false := by simpa using hc0
        clear hd hq hx hy hc0
        go_wp2_with (refine (HC.out _).mono ?_; rintro e w1 ⟨rfl, he1⟩)
        exact ⟨⟨(by (repeat (first | exact trivial | refine ⟨rfl, ?_⟩))), he.trans he1, i + 1, by omega, by omega, by go_num, hq2⟩, (by simp [intOf] <;> omega)⟩
      · rw [if_neg hc0] at hd
        have hq2 := hide hd
        have hcf : (c != 0) = true := by simpa using hc0
        clear hd hq hx hy hc0
        go_wp2_with (refine (HC.out _).mono ?_; rintro e w1 ⟨rfl, he1⟩)
        go_ret
        exact ⟨ret_int hq2.out.symm, he.trans he1⟩
    · have hge : (m : Int) ≤ (i : Int) := by omega
      have hq2 : Hid (r = 1) := hide (by
        obtain ⟨h1, e1⟩ := List.getElem?_eq_some_iff.1 hx.out
        rw [hq.out, List.drop_eq_getElem_cons h1, (show List.drop i ys = [] from List.drop_eq_nil_of_le (by rw [← HK.out]; omega))]; rfl)
      clear hq hx
      go_wp2_with fail
      go_ret
      exact ⟨ret_int hq2.out.symm, he⟩
  · obtain rfl : i = n := by omega
    by_cases hlm : i < m
    · have hq2 : Hid (r = -1) := hide (by
        obtain ⟨ad2, y, -, hy, -⟩ := (k.ext he.1).at_ hlm
        obtain ⟨h1, e1⟩ := List.getElem?_eq_some_iff.1 hy.out
        rw [hq.out, List.drop_eq_getElem_cons h1, (show List.drop i xs = [] from List.drop_eq_nil_of_le (by rw [← HL.out]; exact Nat.le_refl _))]; rfl)
      have hlm2 : (i : Int) < (m : Int) := by omega
      clear hq
      go_wp2_with fail
      go_ret
      exact ⟨ret_int hq2.out.symm, he⟩
    · have hq2 : Hid (r = 0) := hide (by
        rw [hq.out, (show List.drop i ys = [] from List.drop_eq_nil_of_le (by rw [← HK.out]; omega)), (show List.drop i xs = [] from List.drop_eq_nil_of_le (by rw [← HL.out]; exact Nat.le_refl _))]; rfl)
      have hlm2 : ¬ (i : Int) < (m : Int) := by omega
      clear hq
      go_wp2_with fail
      go_ret
      exact ⟨ret_int hq2.out.symm, he⟩
set_option maxRecDepth 100000 in
theorem compareClauses_d (A : Option Addr) (n d : Nat) (xs : List Int) (B : Option Addr) (m q : Nat) (ys : List Int) (w : World) (h : Ints w A n xs) (k : Ints w B m ys) :
    Calls Try.prog 49 #[.slice A n d, .slice B m q] w fun e w' => e = .returned (.int .i64 (cmpC xs ys)) ∧ ExtD w w' := by
  unfold cmpC
  rw [← h.len, ← k.len]
  have H1 := hide (fun W => Compare_c (n : Int) (m : Int) W)
  have H2 := hide (CompareFunc_d A n d xs B m q ys w h k)
  generalize cmpI (n : Int) (m : Int) = x at *
  generalize cmpGo xs ys = y at *
  have HO := hide (fun W => Or_d (some ⟨W.heap.size, 0, none⟩) 2 2 [x, y] _ (two_ints W x y 3))
  generalize firstNZ [x, y] = r at *
  go_enter Try.func49, Try.ntmps49
  go_wp2_with fail
  refine (H1.out _).mono ?_
  rintro e w1 ⟨rfl, rfl⟩
  go_wp2_with fail
  refine H2.out.mono ?_
  rintro e w1 ⟨rfl, he1⟩
  go_wp2_with fail
  refine (HO.out _).mono ?_
  rintro e w2 ⟨rfl, he2⟩
  go_wp2_with fail
  go_ret
  exact ⟨rfl, he1.trans (((ExtD.refl _).alloc _).trans he2)⟩
end Go.Proofs.Ytaigjmbhgpcalaa
