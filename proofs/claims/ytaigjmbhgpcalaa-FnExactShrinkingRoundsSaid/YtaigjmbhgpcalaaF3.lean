/-
  The reference's order of clauses and its search in an ascending list; no condition.
-/
import Derived.Test.YtaigjmbhgpcalaaF1
import Derived.Test.YtaigjmbhgpcalaaP3

namespace Go.Proofs.Ytaigjmbhgpcalaa
set_option linter.unusedSimpArgs false
set_option linter.unusedVariables false
open Go.RowKit
def Small (c : List Int) : Prop := ∀ x ∈ c, -12 ≤ x ∧ x ≤ 12
theorem befGo_drop {xs ys : List Int} {i : Nat} {x y : Int} (hx : Hid (xs[i]? = some x)) (hy : Hid (ys[i]? = some y)) : befGo (xs.drop i) (ys.drop i) = if x = y then befGo (xs.drop (i + 1)) (ys.drop (i + 1)) else decide (litKey x < litKey y) := by
  obtain ⟨h1, e1⟩ := List.getElem?_eq_some_iff.1 hx.out
  obtain ⟨h2, e2⟩ := List.getElem?_eq_some_iff.1 hy.out
  rw [List.drop_eq_getElem_cons h1, List.drop_eq_getElem_cons h2, e1, e2]; rfl
theorem l2Key_c (l : Int) (w : World) (hl : -12 ≤ l ∧ l ≤ 12) :
    Calls Try.prog 104 #[.int .i64 l] w fun e w' => e = .returned (.int .i64 (litKey l)) ∧ w = w' := by
  have h1 : IntKind.i64.wrap (-2 * l) = -2 * l := IntWalk.i64_in _ (by omega)
  have h2 : IntKind.i64.wrap (-2 * l + 1) = -2 * l + 1 := IntWalk.i64_in _ (by omega)
  have h3 : IntKind.i64.wrap (2 * l) = 2 * l := IntWalk.i64_in _ (by omega)
  by_cases hn : l < 0
  · have hk : litKey l = -2 * l + 1 := by unfold litKey; rw [if_pos hn]
    rw [hk]
    clear hk
    go_enter Try.func104, Try.ntmps104
    go_wp2
    go_ret
    exact ⟨ret_int (by first | rfl | omega), rfl⟩
  · have hk : litKey l = 2 * l := by unfold litKey; rw [if_neg hn]
    rw [hk]
    clear hk
    go_enter Try.func104, Try.ntmps104
    go_wp2
    go_ret
    exact ⟨ret_int (by first | rfl | omega), rfl⟩
set_option maxRecDepth 100000 in
set_option maxHeartbeats 1600000 in
theorem l2Before_c (A : Option Addr) (n c : Nat) (xs : List Int) (B : Option Addr) (m d : Nat) (ys : List Int) (w : World) (h : Ints w A n xs) (k : Ints w B m ys) (hxs : Small xs) (hys : Small ys) :
    Calls Try.prog 85 #[.slice A n c, .slice B m d] w fun e w' => e = .returned (.bool (befC xs ys)) ∧ Ext w w' := by
  have hbn := h.bound
  have hbm := k.bound
  have HX := hide hxs
  have HY := hide hys
  clear hxs hys
  by_cases hnm : n = m
  rotate_left
  · have hB : befC xs ys = decide (n < m) := by
      unfold befC; rw [if_neg (by rw [← h.len, ← k.len]; exact hnm), ← h.len, ← k.len]
    rw [hB]
    have h1 : ((n : Int) != (m : Int)) = true := by simp; omega
    go_enter Try.func85, Try.ntmps85
    go_wp2_with fail
    go_ret
    exact ⟨rfl, by (repeat (first | with_reducible exact Ext.refl _ | with_reducible assumption | ((with_reducible refine Ext.setCell ?_ ?_ _); rotate_left; focus (first | omega | (simp <;> omega))) | with_reducible refine Ext.alloc ?_ _ | with_reducible refine Ext.drewN ?_ _ | with_reducible refine Ext.drew ?_ | with_reducible refine Ext.trans ?_ (by with_reducible assumption)))⟩
  subst hnm
  have hB : befC xs ys = befGo xs ys := by unfold befC; rw [if_pos (by rw [← h.len, ← k.len])]
  rw [hB]
  clear hB
  obtain ⟨r, hr⟩ : ∃ r, r = befGo xs ys := ⟨_, rfl⟩
  rw [← hr]
  have HR := hide hr
  clear hr
  have h1 : ((n : Int) != (n : Int)) = false := by simp
  go_enter Try.func85, Try.ntmps85
  go_wp2_with fail
  refine wp_loopF 42 _ rfl rfl [0, 1] rfl (fun fr wr => Ext w wr ∧ ∃ i : Nat, i ≤ n ∧ (fr 5) = .int .i64 i ∧ Hid (r = befGo (xs.drop i) (ys.drop i))) (fun fr wr => n - (intOf (fr 5)).toNat) ?_ ?_
  · (exact ⟨Ext.refl _, 0, by omega, rfl, by simpa using HR⟩)
  intro ks fr wr hkept hrel; (try dsimp only at hrel)
  change Code.wp _ _ _ ⟨#[ks 0, ks 1, fr 2, fr 3, fr 4, fr 5, fr 6, fr 7, fr 8, fr 9, fr 10, fr 11, fr 12, fr 13, fr 14, fr 15, fr 16, fr 17, fr 18, fr 19, fr 20, fr 21, fr 22, fr 23, fr 24, fr 25, fr 26, fr 27, fr 28, fr 29, fr 30, fr 31, fr 32, fr 33, fr 34, fr 35, fr 36, fr 37, fr 38, fr 39, fr 40, fr 41], []⟩ wr
  simp only [KeptV, List.getD_cons_zero, List.getD_cons_succ] at hkept; obtain ⟨hk0, hk1, -⟩ := hkept
  generalize ks 0 = k0 at hk0 ⊢; subst hk0
  generalize ks 1 = k1 at hk1 ⊢; subst hk1
  generalize fr 5 = s5 at hrel ⊢
  obtain ⟨he, i, hi, hs1, hq⟩ := hrel
  subst hs1
  by_cases hlt : i < n
  · obtain ⟨ad, x, rfl, hx, c0⟩ := (h.ext he).at_ hlt
    obtain ⟨ad2, y, rfl, hy, d0⟩ := (k.ext he).at_ hlt
    have hxb := HX.out x (List.mem_of_getElem? hx.out)
    have hyb := HY.out y (List.mem_of_getElem? hy.out)
    have hd := befGo_drop hx hy
    rw [← hq.out] at hd
    by_cases hxy : x = y
    · subst hxy
      rw [if_pos rfl] at hd
      have hq2 := hide hd
      have HE := hide he
      clear hx hy hq he hd
      go_wp2_with fail
      go_quiet (fail)
      go_wp2_with fail
      exact ⟨⟨(by (repeat (first | exact trivial | refine ⟨rfl, ?_⟩))), HE.out.drewN _, i + 1, by omega, by go_num, hq2⟩, (by simp [intOf] <;> omega)⟩
    · rw [if_neg hxy] at hd
      have hxy' : (x != y) = true := by simpa using hxy
      have hF := hide hd
      have HE := hide he
      clear hx hy hq he hxy hd
      go_wp2_with fail
      go_quiet (fail)
      go_wp2_with fail
      go_quiet (first | (go_at_call 104; first | (refine quiet_left (l2Key_c _ _ ?_); omega) | (refine quiet_left2 (l2Key_c _ _ ?_); omega)))
      go_wp2_with fail
      go_ret
      exact ⟨ret_bool hF.out.symm, (HE.out.drewN _).drewN _⟩
  · have hT : Hid (r = false) := hide (by
      rw [hq.out, List.drop_eq_nil_of_le (by rw [← h.len]; omega)]; rfl)
    go_wp2_with fail
    go_ret
    exact ⟨ret_bool hT.out.symm, he⟩
set_option maxRecDepth 100000 in
set_option maxHeartbeats 1600000 in
theorem l2Place_c (A : Option Addr) (n d : Nat) (l : List (List Int)) (B : Option Addr) (m q : Nat) (c : List Int) (w : World) (h : Intss w A n l) (k : Ints w B m c) (hn : n ≤ 1000) (ha : Asc l) (hl : ∀ x ∈ l, Small x) (hc : Small c) :
    Calls Try.prog 64 #[.slice A n d, .slice B m q] w fun e w' => ∃ p : Nat, e = .returned (.int .i64 p) ∧ p ≤ n ∧ (∀ (i : Nat) (x : List Int), i < p → l[i]? = some x → befC x c = true) ∧ (∀ (i : Nat) (x : List Int), p ≤ i → l[i]? = some x → befC x c = false) ∧ Ext w w' := by
  have HL := hide h.len
  have HA := hide ha
  have HS := hide hl
  have HB := hide (fun (Wd : World) (E : Ext w Wd) (X : Option Addr) (y z : Nat) (xs : List Int) (hi : Ints Wd X y xs) (hs : Small xs) => l2Before_c X y z xs B m q c Wd hi (k.ext E) hs hc)
  clear ha hl
  go_enter Try.func64, Try.ntmps64
  go_wp2_with fail
  refine wp_loopF 27 _ rfl rfl [0, 1, 26] rfl (fun fr wr => Ext w wr ∧ ∃ a b : Nat, a ≤ b ∧ b ≤ n ∧ (fr 5) = .int .i64 a ∧ (fr 6) = .int .i64 b ∧ Hid (∀ (i : Nat) (x : List Int), i < a → l[i]? = some x → befC x c = true) ∧ Hid (∀ (i : Nat) (x : List Int), b ≤ i → l[i]? = some x → befC x c = false)) (fun fr wr => (intOf (fr 6)).toNat - (intOf (fr 5)).toNat) ?_ ?_
  · (exact ⟨Ext.refl _, 0, n, by omega, by omega, rfl, rfl, hide (fun i x hi => by omega), hide (fun i x hi hx => by rw [List.getElem?_eq_none (by rw [← HL.out]; exact hi)] at hx; cases hx)⟩)
  intro ks fr wr hkept hrel; (try dsimp only at hrel)
  change Code.wp _ _ _ ⟨#[ks 0, ks 1, fr 2, fr 3, fr 4, fr 5, fr 6, fr 7, fr 8, fr 9, fr 10, fr 11, fr 12, fr 13, fr 14, fr 15, fr 16, fr 17, fr 18, fr 19, fr 20, fr 21, fr 22, fr 23, fr 24, fr 25, ks 26], []⟩ wr
  simp only [KeptV, List.getD_cons_zero, List.getD_cons_succ] at hkept; obtain ⟨hk0, hk1, hk26, -⟩ := hkept
  generalize ks 0 = k0 at hk0 ⊢; subst hk0
  generalize ks 1 = k1 at hk1 ⊢; subst hk1
  generalize ks 26 = k26 at hk26 ⊢; subst hk26
  generalize fr 5 = s5 at hrel ⊢
  generalize fr 6 = s6 at hrel ⊢
  obtain ⟨he, a, b, hab, hbn, hs1, hs2, hlo, hhi⟩ := hrel
  subst hs1; subst hs2
  by_cases hlt : a < b
  · obtain ⟨mid, hmid⟩ : ∃ mid, mid = (a + b) / 2 := ⟨_, rfl⟩
    have hm1 : a ≤ mid ∧ mid < b := by omega
    have hmn : mid < n := by omega
    have hw1 : IntKind.i64.wrap ((a : Int) + (b : Int)) = (a : Int) + (b : Int) := IntWalk.i64_in _ (by omega)
    have hw2 : ((a : Int) + (b : Int)).tdiv 2 = (mid : Int) := by rw [Int.tdiv_eq_ediv_of_nonneg (by omega)]; omega
    have hw3 : ((a : Int) + (b : Int)) / 2 = (mid : Int) := by omega
    have hw4 : IntKind.i64.wrap (mid : Int) = (mid : Int) := IntWalk.i64_in _ (by omega)
    clear hmid
    obtain ⟨ad, xs, X, y, z, rfl, hx, hcx, hin⟩ := (h.ext he).at_ hmn
    have HV := hide (HB.out wr he X y z xs hin (HS.out xs (List.mem_of_getElem? hx.out)))
    cases hbf : befC xs c
    · have hhi2 : Hid (∀ (i : Nat) (x : List Int), mid ≤ i → l[i]? = some x → befC x c = false) := hide (fun i x hi hx' => by
        by_cases e : i = mid
        · subst e; rw [hx.out] at hx'; injection hx' with hx'; rw [← hx']; exact hbf
        · cases hb2 : befC x c
          · rfl
          · have := befC_trans (HA.out mid i xs x (by omega) hx.out hx') hb2
            rw [hbf] at this; cases this)
      rw [hbf] at HV
      clear hbf hx hhi
      go_wp2_with fail
      refine HV.out.mono ?_
      rintro e w1 ⟨rfl, he1⟩
      go_wp2_with fail
      exact ⟨⟨(by (repeat (first | exact trivial | refine ⟨rfl, ?_⟩))), he.trans he1, a, mid, by omega, by omega, rfl, rfl, hlo, hhi2⟩, (by simp [intOf] <;> omega)⟩
    · have hlo2 : Hid (∀ (i : Nat) (x : List Int), i < mid + 1 → l[i]? = some x → befC x c = true) := hide (fun i x hi hx' => by
        by_cases e : i = mid
        · subst e; rw [hx.out] at hx'; injection hx' with hx'; rw [← hx']; exact hbf
        · exact befC_trans (HA.out i mid x xs (by omega) hx' hx.out) hbf)
      rw [hbf] at HV
      clear hbf hx hlo
      go_wp2_with fail
      refine HV.out.mono ?_
      rintro e w1 ⟨rfl, he1⟩
      go_wp2_with fail
      exact ⟨⟨(by (repeat (first | exact trivial | refine ⟨rfl, ?_⟩))), he.trans he1, mid + 1, b, by omega, by omega, by go_num, rfl, hlo2, hhi⟩, (by simp [intOf] <;> omega)⟩
  · obtain rfl : a = b := by omega
    go_wp2_with fail
    go_ret
    exact ⟨a, rfl, hbn, hlo.out, hhi.out, he⟩
set_option maxRecDepth 100000 in
theorem l2At_c (A : Option Addr) (n d : Nat) (l : List (List Int)) (B : Option Addr) (m q : Nat) (c : List Int) (w : World) (h : Intss w A n l) (k : Ints w B m c) (hn : n ≤ 1000) (ha : Asc l) (hl : ∀ x ∈ l, Small x) (hc : Small c) :
    Calls Try.prog 52 #[.slice A n d, .slice B m q] w fun e w' => ∃ r : Int, e = .returned (.int .i64 r) ∧ decide (r < 0) = !memC l c ∧ Ext w w' := by
  have HP := hide (l2Place_c A n d l B m q c w h k hn ha hl hc)
  have HA := hide ha
  clear hc ha hl
  have hbn := h.bound
  have HL := hide h.len
  go_enter Try.func52, Try.ntmps52
  go_wp2_with fail
  refine HP.out.mono ?_
  rintro e w1 ⟨p, rfl, hpn, hlo, hhi, he1⟩
  have HM := hide (place_at HA.out hlo hhi)
  clear hlo hhi
  by_cases hp : p < n
  · obtain ⟨ad, xs, X, y, z, rfl, hx, hcx, hin⟩ := (h.ext he1).at_ hp
    have HS := hide (l1Same_c X y z xs B m q c w1 hin (k.ext he1))
    by_cases hxc : xs = c
    · have hm : memC l c = true := HM.out.2 (by rw [hx.out, hxc])
      rw [decide_eq_true hxc] at HS
      have HMM := hide hm
      clear hm hx hxc
      go_wp2_with fail
      refine HS.out.mono ?_
      rintro e w2 ⟨rfl, he2⟩
      go_wp2_with fail
      go_ret
      exact ⟨_, rfl, by rw [HMM.out]; simp, he1.trans he2⟩
    · have hm : memC l c = false := by
        cases hmm : memC l c
        · rfl
        · have := HM.out.1 hmm; rw [hx.out] at this; injection this with this; exact absurd this hxc
      rw [decide_eq_false hxc] at HS
      have HMM := hide hm
      clear hm hx hxc
      go_wp2_with fail
      refine HS.out.mono ?_
      rintro e w2 ⟨rfl, he2⟩
      go_wp2_with fail
      go_ret
      exact ⟨-1, rfl, by rw [HMM.out]; rfl, he1.trans he2⟩
  · have hm : memC l c = false := by
      cases hmm : memC l c
      · rfl
      · have := HM.out.1 hmm; rw [List.getElem?_eq_none (by rw [← HL.out]; omega)] at this; cases this
    have HMM := hide hm
    clear hm
    go_wp2_with fail
    go_ret
    exact ⟨-1, rfl, by rw [HMM.out]; rfl, he1⟩
end Go.Proofs.Ytaigjmbhgpcalaa
