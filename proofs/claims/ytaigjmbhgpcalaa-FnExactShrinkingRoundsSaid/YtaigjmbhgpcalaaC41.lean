/-
  Values of clauses under an assignment; open variables.
-/
import Derived.Test.YtaigjmbhgpcalaaC30
import Derived.Test.YtaigjmbhgpcalaaC40
import Derived.Test.YtaigjmbhgpcalaaG1

namespace Go.Proofs.Ytaigjmbhgpcalaa
set_option linter.unusedSimpArgs false
set_option linter.unusedVariables false
open Go.RowKit

theorem clGo_drop {a c : List Int} {i : Nat} {x t : Int} (hx : Hid (c[i]? = some x)) : clGo a (c.drop i) t = if hasInt x a then 1 else clGo a (c.drop (i + 1)) (if hasInt (-x) a then t else 0) := by
  have h : c.drop i = x :: c.drop (i + 1) := by
    obtain ⟨hl, he⟩ := List.getElem?_eq_some_iff.1 hx.out
    rw [← he]; exact List.drop_eq_getElem_cons hl
  rw [h]; rfl
theorem wrap_neg {x : Int} (h : -12 ≤ x ∧ x ≤ 12) : wrap64 (-x) = -x := by unfold wrap64; omega

theorem l2Has_c (A : Option Addr) (n d : Nat) (y : Int) (xs : List Int) (w : World) (h : Ints w A n xs) :
    Calls Try.prog 76 #[.slice A n d, .int .i64 y] w fun e w' => e = .returned (.bool (hasInt y xs)) ∧ Ext w w' := by
  go_enter Try.func76, Try.ntmps76
  go_wp2_with fail
  refine (l1Has_c _ _ _ _ xs _ h).mono ?_
  rintro e w1 ⟨rfl, he⟩
  go_wp2_with fail
  go_ret; exact ⟨rfl, he⟩
set_option maxHeartbeats 800000 in
theorem l3Value_c (A : Option Addr) (n d : Nat) (c : List Int) (B : Option Addr) (m q : Nat) (a : List Int) (w : World) (h : Ints w A n c) (k : Ints w B m a) (hc : ∀ x ∈ c, -12 ≤ x ∧ x ≤ 12 ∧ x ≠ 0) :
    Calls Try.prog 51 #[.slice A n d, .slice B m q] w fun e w' => e = .returned (.int .i64 (clVal c a)) ∧ Ext w w' := by
  have hb := h.bound
  have HL := hide h.len
  have HC := hide hc
  clear hc
  go_enter Try.func51, Try.ntmps51
  go_wp2
  refine wp_loopK _ rfl (fun KK acT wr => ∃ s0 s1 s2 s3 s4 s5 s6 s7 s8 s9 s10 s11 s12 s13 s14 s15 s16 s17 s18 s19 s20 s21 s22 s23 s24 s25 s26 s27 : Value, (KeptM [true, true, false, false, false, false, false, false, false, false, false, false, false, false, false, false, false, false, false, false, false, false, false, false, false, false, false, true] [s0, s1, s2, s3, s4, s5, s6, s7, s8, s9, s10, s11, s12, s13, s14, s15, s16, s17, s18, s19, s20, s21, s22, s23, s24, s25, s26, s27] KK ∧ (Ext w wr ∧ ∃ (i : Nat) (t : Int), i ≤ n ∧ s6 = .int .i64 i ∧ s5 = .int .i64 t ∧ Hid (clGo a (c.drop i) t = clVal c a))) ∧ acT = ⟨#[s0, s1, s2, s3, s4, s5, s6, s7, s8, s9, s10, s11, s12, s13, s14, s15, s16, s17, s18, s19, s20, s21, s22, s23, s24, s25, s26, s27], []⟩) (fun acT wr => (fun (s6 : Value) (wr : World) => n - (intOf s6).toNat) (acT.tmps.getD 6 undef) wr) ?_ ?_
  · (refine ⟨_, _, _, _, _, _, _, _, _, _, _, _, _, _, _, _, _, _, _, _, _, _, _, _, _, _, _, _, ⟨(by (repeat (first | exact trivial | refine ⟨rfl, ?_⟩))), ?_⟩, rfl⟩; exact ⟨Ext.refl _, 0, -1, by omega, rfl, rfl, rfl⟩)
  intro _ wr hinv; obtain ⟨s0, s1, s2, s3, s4, s5, s6, s7, s8, s9, s10, s11, s12, s13, s14, s15, s16, s17, s18, s19, s20, s21, s22, s23, s24, s25, s26, s27, ⟨hkept, hrel⟩, rfl⟩ := hinv; simp only [KeptM] at hkept; obtain ⟨rfl, rfl, rfl, -⟩ := hkept; (try dsimp only)
  obtain ⟨he, i, t, hi, hs1, hs2, hq⟩ := hrel
  subst hs1; subst hs2
  by_cases hlt : i < n
  · obtain ⟨ad, x, rfl, hx, hcx⟩ := (h.ext he).at_ hlt
    have hx12 := HC.out x (List.mem_of_getElem? hx.out)
    have hst := clGo_drop (a := a) (t := t) hx
    cases h1 : hasInt x a
    · rw [h1] at hst
      cases h2 : hasInt (-x) a
      · rw [h2] at hst
        have hq2 : Hid (clGo a (c.drop (i + 1)) 0 = clVal c a) := hide (by rw [← hq.out, hst]; simp)
        have H1 := hide h1
        have H2 := hide h2
        clear h1 h2 hst
        go_wp2_with fail
        refine (l2Has_c _ _ _ _ a _ (k.ext (by (repeat (first | with_reducible exact Ext.refl _ | with_reducible assumption | ((with_reducible refine Ext.setCell ?_ ?_ _); rotate_left; focus (first | omega | (simp <;> omega))) | with_reducible refine Ext.alloc ?_ _ | with_reducible refine Ext.drewN ?_ _ | with_reducible refine Ext.drew ?_ | with_reducible refine Ext.trans ?_ (by with_reducible assumption)))))).mono ?_
        rw [H1.out]
        rintro e w1 ⟨rfl, he1⟩
        have hcx := he1.cell hcx
        go_wp2_with fail
        refine (l2Has_c _ _ _ _ a _ (k.ext (by (repeat (first | with_reducible exact Ext.refl _ | with_reducible assumption | ((with_reducible refine Ext.setCell ?_ ?_ _); rotate_left; focus (first | omega | (simp <;> omega))) | with_reducible refine Ext.alloc ?_ _ | with_reducible refine Ext.drewN ?_ _ | with_reducible refine Ext.drew ?_ | with_reducible refine Ext.trans ?_ (by with_reducible assumption)))))).mono ?_
        (try rw [wrap_neg ⟨hx12.1, hx12.2.1⟩])
        rw [H2.out]
        rintro e w2 ⟨rfl, he2⟩
        go_wp2_with fail
        exact ⟨⟨(by (repeat (first | exact trivial | refine ⟨rfl, ?_⟩))), by (repeat (first | with_reducible exact Ext.refl _ | with_reducible assumption | ((with_reducible refine Ext.setCell ?_ ?_ _); rotate_left; focus (first | omega | (simp <;> omega))) | with_reducible refine Ext.alloc ?_ _ | with_reducible refine Ext.drewN ?_ _ | with_reducible refine Ext.drew ?_ | with_reducible refine Ext.trans ?_ (by with_reducible assumption))), i + 1, 0, by omega, by go_num, rfl, hq2⟩, (by simp [intOf] <;> omega)⟩
      · rw [h2] at hst
        have hq2 : Hid (clGo a (c.drop (i + 1)) t = clVal c a) := hide (by rw [← hq.out, hst]; simp)
        have H1 := hide h1
        have H2 := hide h2
        clear h1 h2 hst
        go_wp2_with fail
        refine (l2Has_c _ _ _ _ a _ (k.ext (by (repeat (first | with_reducible exact Ext.refl _ | with_reducible assumption | ((with_reducible refine Ext.setCell ?_ ?_ _); rotate_left; focus (first | omega | (simp <;> omega))) | with_reducible refine Ext.alloc ?_ _ | with_reducible refine Ext.drewN ?_ _ | with_reducible refine Ext.drew ?_ | with_reducible refine Ext.trans ?_ (by with_reducible assumption)))))).mono ?_
        rw [H1.out]
        rintro e w1 ⟨rfl, he1⟩
        have hcx := he1.cell hcx
        go_wp2_with fail
        refine (l2Has_c _ _ _ _ a _ (k.ext (by (repeat (first | with_reducible exact Ext.refl _ | with_reducible assumption | ((with_reducible refine Ext.setCell ?_ ?_ _); rotate_left; focus (first | omega | (simp <;> omega))) | with_reducible refine Ext.alloc ?_ _ | with_reducible refine Ext.drewN ?_ _ | with_reducible refine Ext.drew ?_ | with_reducible refine Ext.trans ?_ (by with_reducible assumption)))))).mono ?_
        (try rw [wrap_neg ⟨hx12.1, hx12.2.1⟩])
        rw [H2.out]
        rintro e w2 ⟨rfl, he2⟩
        go_wp2_with fail
        exact ⟨⟨(by (repeat (first | exact trivial | refine ⟨rfl, ?_⟩))), by (repeat (first | with_reducible exact Ext.refl _ | with_reducible assumption | ((with_reducible refine Ext.setCell ?_ ?_ _); rotate_left; focus (first | omega | (simp <;> omega))) | with_reducible refine Ext.alloc ?_ _ | with_reducible refine Ext.drewN ?_ _ | with_reducible refine Ext.drew ?_ | with_reducible refine Ext.trans ?_ (by with_reducible assumption))), i + 1, t, by omega, by go_num, rfl, hq2⟩, (by simp [intOf] <;> omega)⟩
    · rw [h1] at hst
      have hq2 : Hid (1 = clVal c a) := hide (by rw [← hq.out, hst]; simp)
      have H1 := hide h1
      clear h1 hst
      go_wp2_with fail
      refine (l2Has_c _ _ _ _ a _ (k.ext (by (repeat (first | with_reducible exact Ext.refl _ | with_reducible assumption | ((with_reducible refine Ext.setCell ?_ ?_ _); rotate_left; focus (first | omega | (simp <;> omega))) | with_reducible refine Ext.alloc ?_ _ | with_reducible refine Ext.drewN ?_ _ | with_reducible refine Ext.drew ?_ | with_reducible refine Ext.trans ?_ (by with_reducible assumption)))))).mono ?_
      rw [H1.out]
      rintro e w1 ⟨rfl, he1⟩
      go_wp2_with fail
      go_ret; exact ⟨ret_int hq2.out, by (repeat (first | with_reducible exact Ext.refl _ | with_reducible assumption | ((with_reducible refine Ext.setCell ?_ ?_ _); rotate_left; focus (first | omega | (simp <;> omega))) | with_reducible refine Ext.alloc ?_ _ | with_reducible refine Ext.drewN ?_ _ | with_reducible refine Ext.drew ?_ | with_reducible refine Ext.trans ?_ (by with_reducible assumption)))⟩
  · have hq2 : Hid (t = clVal c a) := hide (by rw [← hq.out, List.drop_eq_nil_of_le (by rw [← HL.out]; omega)]; rfl)
    go_wp2
    go_ret; exact ⟨ret_int hq2.out, he⟩
set_option maxHeartbeats 800000 in
theorem clauseValue_c (A : Option Addr) (n d : Nat) (c : List Int) (B : Option Addr) (m q : Nat) (a : List Int) (w : World) (h : Ints w A n c) (k : Ints w B m a) (hc : ∀ x ∈ c, -12 ≤ x ∧ x ≤ 12 ∧ x ≠ 0) :
    Calls Try.prog 57 #[.slice A n d, .slice B m q] w fun e w' => e = .returned (.int .i64 (clVal c a)) ∧ Ext w w' := by
  have hb := h.bound
  have HL := hide h.len
  have HC := hide hc
  clear hc
  go_enter Try.func57, Try.ntmps57
  go_wp2
  refine wp_loopK _ rfl (fun KK acT wr => ∃ s0 s1 s2 s3 s4 s5 s6 s7 s8 s9 s10 s11 s12 s13 s14 s15 s16 s17 s18 s19 s20 s21 s22 s23 s24 s25 : Value, (KeptM [false, true, false, false, false, false, false, false, true, true, false, false, false, false, false, false, false, false, false, false, false, false, false, false, false, true] [s0, s1, s2, s3, s4, s5, s6, s7, s8, s9, s10, s11, s12, s13, s14, s15, s16, s17, s18, s19, s20, s21, s22, s23, s24, s25] KK ∧ (Ext w wr ∧ ∃ (i : Nat) (t : Int), i ≤ n ∧ s10 = .int .i64 i ∧ s5 = .int .i64 t ∧ Hid (clGo a (c.drop i) t = clVal c a))) ∧ acT = ⟨#[s0, s1, s2, s3, s4, s5, s6, s7, s8, s9, s10, s11, s12, s13, s14, s15, s16, s17, s18, s19, s20, s21, s22, s23, s24, s25], []⟩) (fun acT wr => (fun (s10 : Value) (wr : World) => n - (intOf s10).toNat) (acT.tmps.getD 10 undef) wr) ?_ ?_
  · (refine ⟨_, _, _, _, _, _, _, _, _, _, _, _, _, _, _, _, _, _, _, _, _, _, _, _, _, _, ⟨(by (repeat (first | exact trivial | refine ⟨rfl, ?_⟩))), ?_⟩, rfl⟩; exact ⟨Ext.refl _, 0, -1, by omega, rfl, rfl, rfl⟩)
  intro _ wr hinv; obtain ⟨s0, s1, s2, s3, s4, s5, s6, s7, s8, s9, s10, s11, s12, s13, s14, s15, s16, s17, s18, s19, s20, s21, s22, s23, s24, s25, ⟨hkept, hrel⟩, rfl⟩ := hinv; simp only [KeptM] at hkept; obtain ⟨rfl, rfl, rfl, rfl, -⟩ := hkept; (try dsimp only)
  obtain ⟨he, i, t, hi, hs1, hs2, hq⟩ := hrel
  subst hs1; subst hs2
  by_cases hlt : i < n
  · obtain ⟨ad, x, rfl, hx, hcx⟩ := (h.ext he).at_ hlt
    have hx12 := HC.out x (List.mem_of_getElem? hx.out)
    have hst := clGo_drop (a := a) (t := t) hx
    cases h1 : hasInt x a
    · rw [h1] at hst
      cases h2 : hasInt (-x) a
      · rw [h2] at hst
        have hq2 : Hid (clGo a (c.drop (i + 1)) 0 = clVal c a) := hide (by rw [← hq.out, hst]; simp)
        have H1 := hide h1
        have H2 := hide h2
        clear h1 h2 hst
        go_wp2_with fail
        refine (Contains_int_c _ _ _ _ a _ (k.ext (by (repeat (first | with_reducible exact Ext.refl _ | with_reducible assumption | ((with_reducible refine Ext.setCell ?_ ?_ _); rotate_left; focus (first | omega | (simp <;> omega))) | with_reducible refine Ext.alloc ?_ _ | with_reducible refine Ext.drewN ?_ _ | with_reducible refine Ext.drew ?_ | with_reducible refine Ext.trans ?_ (by with_reducible assumption)))))).mono ?_
        rw [H1.out]
        rintro e w1 ⟨rfl, he1⟩
        have hcx := he1.cell hcx
        go_wp2_with fail
        refine (Contains_int_c _ _ _ _ a _ (k.ext (by (repeat (first | with_reducible exact Ext.refl _ | with_reducible assumption | ((with_reducible refine Ext.setCell ?_ ?_ _); rotate_left; focus (first | omega | (simp <;> omega))) | with_reducible refine Ext.alloc ?_ _ | with_reducible refine Ext.drewN ?_ _ | with_reducible refine Ext.drew ?_ | with_reducible refine Ext.trans ?_ (by with_reducible assumption)))))).mono ?_
        (try rw [wrap_neg ⟨hx12.1, hx12.2.1⟩])
        rw [H2.out]
        rintro e w2 ⟨rfl, he2⟩
        go_wp2_with fail
        exact ⟨⟨(by (repeat (first | exact trivial | refine ⟨rfl, ?_⟩))), by (repeat (first | with_reducible exact Ext.refl _ | with_reducible assumption | ((with_reducible refine Ext.setCell ?_ ?_ _); rotate_left; focus (first | omega | (simp <;> omega))) | with_reducible refine Ext.alloc ?_ _ | with_reducible refine Ext.drewN ?_ _ | with_reducible refine Ext.drew ?_ | with_reducible refine Ext.trans ?_ (by with_reducible assumption))), i + 1, 0, by omega, by go_num, rfl, hq2⟩, (by simp [intOf] <;> omega)⟩
      · rw [h2] at hst
        have hq2 : Hid (clGo a (c.drop (i + 1)) t = clVal c a) := hide (by rw [← hq.out, hst]; simp)
        have H1 := hide h1
        have H2 := hide h2
        clear h1 h2 hst
        go_wp2_with fail
        refine (Contains_int_c _ _ _ _ a _ (k.ext (by (repeat (first | with_reducible exact Ext.refl _ | with_reducible assumption | ((with_reducible refine Ext.setCell ?_ ?_ _); rotate_left; focus (first | omega | (simp <;> omega))) | with_reducible refine Ext.alloc ?_ _ | with_reducible refine Ext.drewN ?_ _ | with_reducible refine Ext.drew ?_ | with_reducible refine Ext.trans ?_ (by with_reducible assumption)))))).mono ?_
        rw [H1.out]
        rintro e w1 ⟨rfl, he1⟩
        have hcx := he1.cell hcx
        go_wp2_with fail
        refine (Contains_int_c _ _ _ _ a _ (k.ext (by (repeat (first | with_reducible exact Ext.refl _ | with_reducible assumption | ((with_reducible refine Ext.setCell ?_ ?_ _); rotate_left; focus (first | omega | (simp <;> omega))) | with_reducible refine Ext.alloc ?_ _ | with_reducible refine Ext.drewN ?_ _ | with_reducible refine Ext.drew ?_ | with_reducible refine Ext.trans ?_ (by with_reducible assumption)))))).mono ?_
        (try rw [wrap_neg ⟨hx12.1, hx12.2.1⟩])
        rw [H2.out]
        rintro e w2 ⟨rfl, he2⟩
        go_wp2_with fail
        exact ⟨⟨(by (repeat (first | exact trivial | refine ⟨rfl, ?_⟩))), by (repeat (first | with_reducible exact Ext.refl _ | with_reducible assumption | ((with_reducible refine Ext.setCell ?_ ?_ _); rotate_left; focus (first | omega | (simp <;> omega))) | with_reducible refine Ext.alloc ?_ _ | with_reducible refine Ext.drewN ?_ _ | with_reducible refine Ext.drew ?_ | with_reducible refine Ext.trans ?_ (by with_reducible assumption))), i + 1, t, by omega, by go_num, rfl, hq2⟩, (by simp [intOf] <;> omega)⟩
    · rw [h1] at hst
      have hq2 : Hid (1 = clVal c a) := hide (by rw [← hq.out, hst]; simp)
      have H1 := hide h1
      clear h1 hst
      go_wp2_with fail
      refine (Contains_int_c _ _ _ _ a _ (k.ext (by (repeat (first | with_reducible exact Ext.refl _ | with_reducible assumption | ((with_reducible refine Ext.setCell ?_ ?_ _); rotate_left; focus (first | omega | (simp <;> omega))) | with_reducible refine Ext.alloc ?_ _ | with_reducible refine Ext.drewN ?_ _ | with_reducible refine Ext.drew ?_ | with_reducible refine Ext.trans ?_ (by with_reducible assumption)))))).mono ?_
      rw [H1.out]
      rintro e w1 ⟨rfl, he1⟩
      go_wp2_with fail
      go_ret; exact ⟨ret_int hq2.out, by (repeat (first | with_reducible exact Ext.refl _ | with_reducible assumption | ((with_reducible refine Ext.setCell ?_ ?_ _); rotate_left; focus (first | omega | (simp <;> omega))) | with_reducible refine Ext.alloc ?_ _ | with_reducible refine Ext.drewN ?_ _ | with_reducible refine Ext.drew ?_ | with_reducible refine Ext.trans ?_ (by with_reducible assumption)))⟩
  · have hq2 : Hid (t = clVal c a) := hide (by rw [← hq.out, List.drop_eq_nil_of_le (by rw [← HL.out]; omega)]; rfl)
    go_wp2
    go_ret; exact ⟨ret_int hq2.out, he⟩
theorem upTo_c (n : Nat) (w : World) (hn : n ≤ 12) :
    Calls Try.prog 101 #[.int .i64 n] w fun e w' => ∃ A d, e = .returned (.slice A n d) ∧ Own w' w.heap.size 3 1 A n d ((upFrom 1 n).map (Value.int .i64)) ∧ Ext w w' := by
  go_enter Try.func101, Try.ntmps101
  go_wp2
  refine wp_loopK _ rfl (fun KK acT wr => ∃ s0 s1 s2 s3 s4 s5 s6 s7 s8 s9 s10 s11 s12 s13 s14 : Value, (KeptM [true, false, false, false, false, false, false, false, false, false, false, false, false, false, true] [s0, s1, s2, s3, s4, s5, s6, s7, s8, s9, s10, s11, s12, s13, s14] KK ∧ (Ext w wr ∧ ∃ k : Nat, k ≤ n ∧ s4 = .int .i64 ((k + 1 : Nat) : Int) ∧ ∃ A d, s3 = .slice A k d ∧ Own wr w.heap.size 3 1 A k d ((upFrom 1 k).map (Value.int .i64)))) ∧ acT = ⟨#[s0, s1, s2, s3, s4, s5, s6, s7, s8, s9, s10, s11, s12, s13, s14], []⟩) (fun acT wr => (fun (s4 : Value) (wr : World) => n + 1 - (intOf s4).toNat) (acT.tmps.getD 4 undef) wr) ?_ ?_
  · (refine ⟨_, _, _, _, _, _, _, _, _, _, _, _, _, _, _, ⟨(by (repeat (first | exact trivial | refine ⟨rfl, ?_⟩))), ?_⟩, rfl⟩; exact ⟨Ext.refl _, 0, by omega, rfl, _, _, rfl, Own.nil _ _ _ _⟩)
  intro _ wr hinv; obtain ⟨s0, s1, s2, s3, s4, s5, s6, s7, s8, s9, s10, s11, s12, s13, s14, ⟨hkept, hrel⟩, rfl⟩ := hinv; simp only [KeptM] at hkept; obtain ⟨rfl, rfl, -⟩ := hkept; (try dsimp only)
  obtain ⟨he, k, hk, hs1, A, d, hs2, ho⟩ := hrel
  subst hs1; subst hs2
  have hsz := he.size
  by_cases hlt : k < n
  · go_wp2_with (at_builtin; refine wpList_app rfl _ _ _ _ rfl Try.underlying35 _ 1 8 info_int rfl (by decide) rfl ho 1 [.int .i64 ((k : Int) + 1)] (by first | rfl | simp [go_sem]) rfl ?_ ?_ ?_ ?_ ?_; (intro u hu; simp at hu; first | (subst hu; rfl) | (rcases hu with rfl | rfl <;> rfl) | (rcases hu with rfl | rfl | rfl <;> rfl) | (rcases hu with rfl | rfl | rfl | rfl <;> rfl) | (rcases hu with rfl | rfl | rfl | rfl | rfl <;> rfl) | (rcases hu with rfl | rfl | rfl | rfl | rfl | rfl <;> rfl)); omega; omega; (first | omega | (simp; omega)); intro A' c' w' ho' hg' hb')
    exact ⟨⟨(by (repeat (first | exact trivial | refine ⟨rfl, ?_⟩))), he.own ho hg', k + 1, by omega, by go_num, _, _, rfl, by rw [upFrom_succ, List.map_append]; simpa [Int.add_comm] using ho'⟩, (by simp [intOf] <;> omega)⟩
  · obtain rfl : k = n := by omega
    go_wp2
    go_ret
    exact ⟨_, _, rfl, ho, he⟩
end Go.Proofs.Ytaigjmbhgpcalaa
