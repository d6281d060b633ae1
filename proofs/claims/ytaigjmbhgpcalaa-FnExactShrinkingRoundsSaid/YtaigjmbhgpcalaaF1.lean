/-
  Allowed assignments: both sides; no condition.
-/
import Derived.Test.YtaigjmbhgpcalaaC41
import Derived.Test.YtaigjmbhgpcalaaC42
import Derived.Test.YtaigjmbhgpcalaaF0

namespace Go.Proofs.Ytaigjmbhgpcalaa
set_option linter.unusedSimpArgs false
set_option linter.unusedVariables false
open Go.RowKit
theorem l10Good_c (v : Int) (C : Option Addr) (nc dc : Nat) (cls : List (List Int)) (w : World) (hcl : Intss w C nc cls) :
    Calls Try.prog 39 #[.agg #[.int .i64 v, .slice C nc dc]] w fun e w' => e = .returned (.bool (cnfOk v cls && decide (v ≤ 6))) ∧ Ext w w' := by
  have HG := hide (fun W (E : Ext w W) => l2Good_c v C nc dc cls W (hcl.ext E))
  generalize cnfOk v cls = r at HG ⊢
  by_cases hv : v ≤ 6
  · rw [decide_eq_true hv, Bool.and_true]
    go_enter Try.func39, Try.ntmps39
    go_wp2_with (go_at_call 61; (with_reducible refine (HG.out _ (by (repeat (first | with_reducible exact Ext.refl _ | with_reducible assumption | ((with_reducible refine Ext.setCell ?_ ?_ _); rotate_left; focus (first | omega | (simp <;> omega))) | with_reducible refine Ext.alloc ?_ _ | with_reducible refine Ext.drewN ?_ _ | with_reducible refine Ext.drew ?_ | with_reducible refine Ext.trans ?_ (by with_reducible assumption))))).mono ?_); rintro e1 w1 ⟨rfl, he1⟩)
    go_ret
    exact ⟨rfl, by (repeat (first | with_reducible exact Ext.refl _ | with_reducible assumption | ((with_reducible refine Ext.setCell ?_ ?_ _); rotate_left; focus (first | omega | (simp <;> omega))) | with_reducible refine Ext.alloc ?_ _ | with_reducible refine Ext.drewN ?_ _ | with_reducible refine Ext.drew ?_ | with_reducible refine Ext.trans ?_ (by with_reducible assumption)))⟩
  · rw [decide_eq_false hv, Bool.and_false]
    go_enter Try.func39, Try.ntmps39
    go_wp2_with fail
    go_ret
    exact ⟨rfl, by (repeat (first | with_reducible exact Ext.refl _ | with_reducible assumption | ((with_reducible refine Ext.setCell ?_ ?_ _); rotate_left; focus (first | omega | (simp <;> omega))) | with_reducible refine Ext.alloc ?_ _ | with_reducible refine Ext.drewN ?_ _ | with_reducible refine Ext.drew ?_ | with_reducible refine Ext.trans ?_ (by with_reducible assumption)))⟩
theorem l13Asked_c (v W : Int) (C : Option Addr) (nc dc : Nat) (cls : List (List Int)) (w : World) (hcl : Intss w C nc cls) :
    Calls Try.prog 24 #[.agg #[.int .i64 v, .slice C nc dc], .int .i64 W] w fun e w' => e = .returned (.bool (narOk v cls W)) ∧ Ext w w' := by
  have HG := hide (fun W (E : Ext w W) => l10Good_c v C nc dc cls W (hcl.ext E))
  have HW := hide (fun Wd => l1In_c W 0 6 Wd)
  have hn : narOk v cls W = ((cnfOk v cls && decide (v ≤ 6)) && within W 0 6) := by simp [narOk, Bool.and_assoc]
  rw [hn]
  clear hn
  have HI : Hid (∀ Wd, Calls Try.prog 40 #[.int .i64 W] Wd fun e w' => e = .returned (.bool (within W 0 6)) ∧ Wd = w') := by
    refine hide fun Wd => ?_
    generalize within W 0 6 = r at HW ⊢
    go_enter Try.func40, Try.ntmps40
    go_wp2_with (go_at_call 62; (with_reducible refine (HW.out _).mono ?_); rintro e1 w1 ⟨rfl, rfl⟩)
    go_ret
    exact ⟨rfl, rfl⟩
  clear HW
  generalize within W 0 6 = r at HI ⊢
  cases hg : (cnfOk v cls && decide (v ≤ 6))
  · rw [hg] at HG; clear hg
    go_enter Try.func24, Try.ntmps24
    go_wp2_with (go_at_call 39; (with_reducible refine (HG.out _ (by (repeat (first | with_reducible exact Ext.refl _ | with_reducible assumption | ((with_reducible refine Ext.setCell ?_ ?_ _); rotate_left; focus (first | omega | (simp <;> omega))) | with_reducible refine Ext.alloc ?_ _ | with_reducible refine Ext.drewN ?_ _ | with_reducible refine Ext.drew ?_ | with_reducible refine Ext.trans ?_ (by with_reducible assumption))))).mono ?_); rintro e1 w1 ⟨rfl, he1⟩)
    go_ret
    exact ⟨rfl, by (repeat (first | with_reducible exact Ext.refl _ | with_reducible assumption | ((with_reducible refine Ext.setCell ?_ ?_ _); rotate_left; focus (first | omega | (simp <;> omega))) | with_reducible refine Ext.alloc ?_ _ | with_reducible refine Ext.drewN ?_ _ | with_reducible refine Ext.drew ?_ | with_reducible refine Ext.trans ?_ (by with_reducible assumption)))⟩
  · rw [hg] at HG; clear hg
    go_enter Try.func24, Try.ntmps24
    go_wp2_with (first | (go_at_call 39; (with_reducible refine (HG.out _ (by (repeat (first | with_reducible exact Ext.refl _ | with_reducible assumption | ((with_reducible refine Ext.setCell ?_ ?_ _); rotate_left; focus (first | omega | (simp <;> omega))) | with_reducible refine Ext.alloc ?_ _ | with_reducible refine Ext.drewN ?_ _ | with_reducible refine Ext.drew ?_ | with_reducible refine Ext.trans ?_ (by with_reducible assumption))))).mono ?_); rintro e1 w1 ⟨rfl, he1⟩) | (go_at_call 40; (with_reducible refine (HI.out _).mono ?_); rintro e2 w2 ⟨rfl, rfl⟩))
    go_ret
    exact ⟨rfl, by (repeat (first | with_reducible exact Ext.refl _ | with_reducible assumption | ((with_reducible refine Ext.setCell ?_ ?_ _); rotate_left; focus (first | omega | (simp <;> omega))) | with_reducible refine Ext.alloc ?_ _ | with_reducible refine Ext.drewN ?_ _ | with_reducible refine Ext.drew ?_ | with_reducible refine Ext.trans ?_ (by with_reducible assumption)))⟩
theorem narrowOk_c (v W : Int) (C : Option Addr) (nc dc : Nat) (cls : List (List Int)) (w : World) (hcl : Intss w C nc cls) :
    Calls Try.prog 27 #[.agg #[.int .i64 v, .slice C nc dc], .int .i64 W] w fun e w' => e = .returned (.bool (narOk v cls W)) ∧ Ext w w' := by
  have HG := hide (fun W (E : Ext w W) => IsCnf_c v C nc dc cls W (hcl.ext E))
  have HW := hide (fun Wd => within_c W 0 6 Wd)
  unfold narOk
  generalize within W 0 6 = r at HW ⊢
  cases hg : cnfOk v cls
  · rw [hg] at HG; clear hg
    go_enter Try.func27, Try.ntmps27
    go_wp2_with (go_at_call 43; (with_reducible refine (HG.out _ (by (repeat (first | with_reducible exact Ext.refl _ | with_reducible assumption | ((with_reducible refine Ext.setCell ?_ ?_ _); rotate_left; focus (first | omega | (simp <;> omega))) | with_reducible refine Ext.alloc ?_ _ | with_reducible refine Ext.drewN ?_ _ | with_reducible refine Ext.drew ?_ | with_reducible refine Ext.trans ?_ (by with_reducible assumption))))).mono ?_); rintro e1 w1 ⟨rfl, he1⟩)
    go_ret
    exact ⟨rfl, by (repeat (first | with_reducible exact Ext.refl _ | with_reducible assumption | ((with_reducible refine Ext.setCell ?_ ?_ _); rotate_left; focus (first | omega | (simp <;> omega))) | with_reducible refine Ext.alloc ?_ _ | with_reducible refine Ext.drewN ?_ _ | with_reducible refine Ext.drew ?_ | with_reducible refine Ext.trans ?_ (by with_reducible assumption)))⟩
  · rw [hg] at HG; clear hg
    by_cases hv : v ≤ 6
    · rw [decide_eq_true hv]
      go_enter Try.func27, Try.ntmps27
      go_wp2_with (first | (go_at_call 43; (with_reducible refine (HG.out _ (by (repeat (first | with_reducible exact Ext.refl _ | with_reducible assumption | ((with_reducible refine Ext.setCell ?_ ?_ _); rotate_left; focus (first | omega | (simp <;> omega))) | with_reducible refine Ext.alloc ?_ _ | with_reducible refine Ext.drewN ?_ _ | with_reducible refine Ext.drew ?_ | with_reducible refine Ext.trans ?_ (by with_reducible assumption))))).mono ?_); rintro e1 w1 ⟨rfl, he1⟩; have bc0 := he1.cell (p := ⟨w.heap.size, 0, none⟩) (u := .int .i64 v) (by first | simp [go_sem] | simp [go_sem, *]); have bf0 := he1.frozen (p := ⟨w.heap.size, 0, none⟩) (by first | omega | (simp <;> omega)) (by first | simp [go_sem] | simp [go_sem, *]); have bc1 := he1.cell (p := ⟨w.heap.size, 1, none⟩) (u := .slice C nc dc) (by first | simp [go_sem] | simp [go_sem, *]); have bf1 := he1.frozen (p := ⟨w.heap.size, 1, none⟩) (by first | omega | (simp <;> omega)) (by first | simp [go_sem] | simp [go_sem, *])) | (go_at_call 44; (with_reducible refine (HW.out _).mono ?_); rintro e2 w2 ⟨rfl, rfl⟩))
      go_ret
      exact ⟨rfl, by (repeat (first | with_reducible exact Ext.refl _ | with_reducible assumption | ((with_reducible refine Ext.setCell ?_ ?_ _); rotate_left; focus (first | omega | (simp <;> omega))) | with_reducible refine Ext.alloc ?_ _ | with_reducible refine Ext.drewN ?_ _ | with_reducible refine Ext.drew ?_ | with_reducible refine Ext.trans ?_ (by with_reducible assumption)))⟩
    · rw [decide_eq_false hv]
      go_enter Try.func27, Try.ntmps27
      go_wp2_with (go_at_call 43; (with_reducible refine (HG.out _ (by (repeat (first | with_reducible exact Ext.refl _ | with_reducible assumption | ((with_reducible refine Ext.setCell ?_ ?_ _); rotate_left; focus (first | omega | (simp <;> omega))) | with_reducible refine Ext.alloc ?_ _ | with_reducible refine Ext.drewN ?_ _ | with_reducible refine Ext.drew ?_ | with_reducible refine Ext.trans ?_ (by with_reducible assumption))))).mono ?_); rintro e1 w1 ⟨rfl, he1⟩; have bc2 := he1.cell (p := ⟨w.heap.size, 0, none⟩) (u := .int .i64 v) (by first | simp [go_sem] | simp [go_sem, *]); have bf2 := he1.frozen (p := ⟨w.heap.size, 0, none⟩) (by first | omega | (simp <;> omega)) (by first | simp [go_sem] | simp [go_sem, *]); have bc3 := he1.cell (p := ⟨w.heap.size, 1, none⟩) (u := .slice C nc dc) (by first | simp [go_sem] | simp [go_sem, *]); have bf3 := he1.frozen (p := ⟨w.heap.size, 1, none⟩) (by first | omega | (simp <;> omega)) (by first | simp [go_sem] | simp [go_sem, *]))
      go_ret
      exact ⟨rfl, by (repeat (first | with_reducible exact Ext.refl _ | with_reducible assumption | ((with_reducible refine Ext.setCell ?_ ?_ _); rotate_left; focus (first | omega | (simp <;> omega))) | with_reducible refine Ext.alloc ?_ _ | with_reducible refine Ext.drewN ?_ _ | with_reducible refine Ext.drew ?_ | with_reducible refine Ext.trans ?_ (by with_reducible assumption)))⟩
def badC (W : Int) (a c : List Int) : Bool := decide ((c.length : Int) ≤ W) && decide (clVal c a < 0)
theorem allowB_eq (cls : List (List Int)) (W : Int) (a : List Int) : allowB cls W a = (decide ((a.length : Int) ≤ W + 1) && !cls.any (badC W a)) := rfl
set_option maxRecDepth 100000 in
set_option maxHeartbeats 1600000 in
theorem l13Allowed_c (v W : Int) (C : Option Addr) (nc dc : Nat) (cls : List (List Int)) (B : Option Addr) (m q : Nat) (a : List Int) (w : World) (h : Intss w C nc cls) (k : Ints w B m a) (hc : ∀ c ∈ cls, ∀ x ∈ c, -12 ≤ x ∧ x ≤ 12 ∧ x ≠ 0) (hW : 0 ≤ W ∧ W ≤ 6) :
    Calls Try.prog 31 #[.agg #[.int .i64 v, .slice C nc dc], .int .i64 W, .slice B m q] w fun e w' => e = .returned (.bool (allowB cls W a)) ∧ Ext w w' := by
  have hb := h.bound
  have hkb := k.bound
  have HL := hide h.len
  have HK := hide k.len
  have HC := hide hc
  clear hc
  have hw1 : IntKind.i64.wrap (W + 1) = W + 1 := IntWalk.i64_in _ (by omega)
  rw [allowB_eq]
  by_cases hlen : (m : Int) ≤ W + 1
  rotate_left
  · rw [decide_eq_false (by rw [← HK.out]; exact hlen), Bool.false_and]
    have hgt : W + 1 < (m : Int) := by omega
    go_enter Try.func31, Try.ntmps31
    go_wp2_with fail
    go_ret
    exact ⟨rfl, by (repeat (first | with_reducible exact Ext.refl _ | with_reducible assumption | ((with_reducible refine Ext.setCell ?_ ?_ _); rotate_left; focus (first | omega | (simp <;> omega))) | with_reducible refine Ext.alloc ?_ _ | with_reducible refine Ext.drewN ?_ _ | with_reducible refine Ext.drew ?_ | with_reducible refine Ext.trans ?_ (by with_reducible assumption)))⟩
  rw [decide_eq_true (by rw [← HK.out]; exact hlen), Bool.true_and]
  have hgt : ¬ W + 1 < (m : Int) := by omega
  obtain ⟨r, hr⟩ : ∃ r, r = !cls.any (badC W a) := ⟨_, rfl⟩
  rw [← hr]
  have HR := hide hr
  clear hr
  go_enter Try.func31, Try.ntmps31
  go_wp2
  refine wp_loopK _ rfl (fun KK acT wr => ∃ s0 s1 s2 s3 s4 s5 s6 s7 s8 s9 s10 s11 s12 s13 s14 s15 s16 s17 s18 s19 s20 s21 s22 s23 s24 s25 s26 s27 s28 s29 s30 s31 s32 s33 s34 s35 s36 s37 : Value, (KeptM [false, true, true, true, false, false, false, false, true, false, false, false, false, false, false, false, false, false, false, false, false, false, false, false, false, false, false, false, false, false, false, false, false, false, false, false, false, false] [s0, s1, s2, s3, s4, s5, s6, s7, s8, s9, s10, s11, s12, s13, s14, s15, s16, s17, s18, s19, s20, s21, s22, s23, s24, s25, s26, s27, s28, s29, s30, s31, s32, s33, s34, s35, s36, s37] KK ∧ (Ext (w.alloc (.cells #[.int .i64 v, .slice C nc dc] 28)) wr ∧ ∃ (i : Nat), i ≤ nc ∧ s7 = .int .i64 i ∧ Hid ((cls.take i).any (badC W a) = false))) ∧ acT = ⟨#[s0, s1, s2, s3, s4, s5, s6, s7, s8, s9, s10, s11, s12, s13, s14, s15, s16, s17, s18, s19, s20, s21, s22, s23, s24, s25, s26, s27, s28, s29, s30, s31, s32, s33, s34, s35, s36, s37], []⟩) (fun acT wr => (fun (s7 : Value) (wr : World) => nc - (intOf s7).toNat) (acT.tmps.getD 7 undef) wr) ?_ ?_
  · (refine ⟨_, _, _, _, _, _, _, _, _, _, _, _, _, _, _, _, _, _, _, _, _, _, _, _, _, _, _, _, _, _, _, _, _, _, _, _, _, _, ⟨(by (repeat (first | exact trivial | refine ⟨rfl, ?_⟩))), ?_⟩, rfl⟩; exact ⟨Ext.refl _, 0, by omega, rfl, rfl⟩)
  intro _ wr hinv; obtain ⟨s0, s1, s2, s3, s4, s5, s6, s7, s8, s9, s10, s11, s12, s13, s14, s15, s16, s17, s18, s19, s20, s21, s22, s23, s24, s25, s26, s27, s28, s29, s30, s31, s32, s33, s34, s35, s36, s37, ⟨hkept, hrel⟩, rfl⟩ := hinv; simp only [KeptM] at hkept; obtain ⟨rfl, rfl, rfl, rfl, -⟩ := hkept; (try dsimp only)
  obtain ⟨he, i, hi, hs1, hq⟩ := hrel
  subst hs1
  have b0 := he.box 0 _ rfl
  have b1 := he.box 1 _ rfl
  by_cases hlt : i < nc
  · obtain ⟨ad, xs, X, y, z, rfl, hx, hcx, hin⟩ := (h.ext (w' := wr) (by (repeat (first | with_reducible exact Ext.refl _ | with_reducible assumption | ((with_reducible refine Ext.setCell ?_ ?_ _); rotate_left; focus (first | omega | (simp <;> omega))) | with_reducible refine Ext.alloc ?_ _ | with_reducible refine Ext.drewN ?_ _ | with_reducible refine Ext.drew ?_ | with_reducible refine Ext.trans ?_ (by with_reducible assumption))))).at_ hlt
    have hy := hide hin.len
    have HV := hide (l3Value_c X y z xs B m q a wr hin (k.ext (by (repeat (first | with_reducible exact Ext.refl _ | with_reducible assumption | ((with_reducible refine Ext.setCell ?_ ?_ _); rotate_left; focus (first | omega | (simp <;> omega))) | with_reducible refine Ext.alloc ?_ _ | with_reducible refine Ext.drewN ?_ _ | with_reducible refine Ext.drew ?_ | with_reducible refine Ext.trans ?_ (by with_reducible assumption))))) (HC.out xs (List.mem_of_getElem? hx.out)))
    by_cases hsh : (y : Int) ≤ W
    · by_cases hneg : clVal xs a < 0
      · have hb1 : badC W a xs = true := by unfold badC; rw [← hy.out, decide_eq_true hsh, decide_eq_true hneg]; rfl
        have hq2 : Hid (r = false) := hide (by rw [HR.out, any_true_of (p := badC W a) hx hb1]; rfl)
        clear hb1
        generalize clVal xs a = t at *
        go_wp2_with fail
        refine HV.out.mono ?_
        rintro e w1 ⟨rfl, he1⟩
        go_wp2_with fail
        go_ret; exact ⟨ret_bool hq2.out.symm, by (repeat (first | with_reducible exact Ext.refl _ | with_reducible assumption | ((with_reducible refine Ext.setCell ?_ ?_ _); rotate_left; focus (first | omega | (simp <;> omega))) | with_reducible refine Ext.alloc ?_ _ | with_reducible refine Ext.drewN ?_ _ | with_reducible refine Ext.drew ?_ | with_reducible refine Ext.trans ?_ (by with_reducible assumption)))⟩
      · have hq2 := any_false_take (p := badC W a) hx hq (by unfold badC; rw [decide_eq_false hneg, Bool.and_false])
        generalize clVal xs a = t at *
        go_wp2_with fail
        refine HV.out.mono ?_
        rintro e w1 ⟨rfl, he1⟩
        go_wp2_with fail
        exact ⟨⟨(by (repeat (first | exact trivial | refine ⟨rfl, ?_⟩))), he.trans he1, i + 1, by omega, by go_num, hq2⟩, (by simp [intOf] <;> omega)⟩
    · have hq2 := any_false_take (p := badC W a) hx hq (by unfold badC; rw [← hy.out, decide_eq_false hsh, Bool.false_and])
      have hsf : decide ((y : Int) ≤ W) = false := decide_eq_false hsh
      clear HV
      go_wp2_with fail
      exact ⟨⟨(by (repeat (first | exact trivial | refine ⟨rfl, ?_⟩))), he, i + 1, by omega, by go_num, hq2⟩, (by simp [intOf] <;> omega)⟩
  · have hq2 : Hid (r = true) := hide (by rw [HR.out]; have := hq.out; rw [List.take_of_length_le (by rw [← HL.out]; omega)] at this; rw [this]; rfl)
    go_wp2
    go_ret; exact ⟨ret_bool hq2.out.symm, by (repeat (first | with_reducible exact Ext.refl _ | with_reducible assumption | ((with_reducible refine Ext.setCell ?_ ?_ _); rotate_left; focus (first | omega | (simp <;> omega))) | with_reducible refine Ext.alloc ?_ _ | with_reducible refine Ext.drewN ?_ _ | with_reducible refine Ext.drew ?_ | with_reducible refine Ext.trans ?_ (by with_reducible assumption)))⟩
set_option maxRecDepth 100000 in
theorem allowed_lit_c (W : Int) (p q' : Nat) (X : Option Addr) (y z : Nat) (c : List Int) (B : Option Addr) (m q : Nat) (a : List Int) (w : World) (h : Ints w X y c) (k : Ints w B m a) (hc : ∀ x ∈ c, -12 ≤ x ∧ x ≤ 12 ∧ x ≠ 0)
    (h1 : w.cell? ⟨p, 0, none⟩ = some (.int .i64 W)) (h2 : w.cell? ⟨q', 0, none⟩ = some (.slice B m q)) :
    Calls Try.prog 56 (#[.slice X y z] ++ #[.pointer (some ⟨p, 0, none⟩), .pointer (some ⟨q', 0, none⟩)]) w fun e w' => e = .returned (.bool (badC W a c)) ∧ Ext w w' := by
  have HV := hide (clauseValue_c X y z c B m q a w h k hc)
  have hy := h.len
  unfold badC
  rw [← hy]
  clear hy hc
  generalize clVal c a = t at HV ⊢
  by_cases hsh : (y : Int) ≤ W
  · rw [decide_eq_true hsh, Bool.true_and]
    go_enter Try.func56, Try.ntmps56
    go_wp2_with (go_at_call 57; (with_reducible refine HV.out.mono ?_); rintro e1 w1 ⟨rfl, he1⟩)
    go_ret
    exact ⟨rfl, by (repeat (first | with_reducible exact Ext.refl _ | with_reducible assumption | ((with_reducible refine Ext.setCell ?_ ?_ _); rotate_left; focus (first | omega | (simp <;> omega))) | with_reducible refine Ext.alloc ?_ _ | with_reducible refine Ext.drewN ?_ _ | with_reducible refine Ext.drew ?_ | with_reducible refine Ext.trans ?_ (by with_reducible assumption)))⟩
  · rw [decide_eq_false hsh, Bool.false_and]
    have hsf : decide ((y : Int) ≤ W) = false := decide_eq_false hsh
    go_enter Try.func56, Try.ntmps56
    go_wp2_with fail
    go_ret
    exact ⟨rfl, by (repeat (first | with_reducible exact Ext.refl _ | with_reducible assumption | ((with_reducible refine Ext.setCell ?_ ?_ _); rotate_left; focus (first | omega | (simp <;> omega))) | with_reducible refine Ext.alloc ?_ _ | with_reducible refine Ext.drewN ?_ _ | with_reducible refine Ext.drew ?_ | with_reducible refine Ext.trans ?_ (by with_reducible assumption)))⟩
theorem allowed_lit_enters : Enters Try.prog 56 := enters_of Try.func56 (by kernel_rfl) (by kernel_rfl)
set_option maxRecDepth 100000 in
set_option maxHeartbeats 800000 in
theorem allowed_c (v W : Int) (C : Option Addr) (nc dc : Nat) (cls : List (List Int)) (B : Option Addr) (m q : Nat) (a : List Int) (w : World) (h : Intss w C nc cls) (k : Ints w B m a) (hc : ∀ c ∈ cls, ∀ x ∈ c, -12 ≤ x ∧ x ≤ 12 ∧ x ≠ 0) (hW : 0 ≤ W ∧ W ≤ 6) :
    Calls Try.prog 35 #[.agg #[.int .i64 v, .slice C nc dc], .int .i64 W, .slice B m q] w fun e w' => e = .returned (.bool (allowB cls W a)) ∧ Ext w w' := by
  have hkb := k.bound
  have HK := hide k.len
  have hw1 : IntKind.i64.wrap (W + 1) = W + 1 := IntWalk.i64_in _ (by omega)
  have HC := hide (fun Wd (E : Ext w Wd) (p q' : Nat) (h1 : Wd.cell? ⟨p, 0, none⟩ = some (.int .i64 W)) (h2 : Wd.cell? ⟨q', 0, none⟩ = some (.slice B m q)) =>
    ContainsFunc_rows_mem 56 #[.pointer (some ⟨p, 0, none⟩), .pointer (some ⟨q', 0, none⟩)] (badC W a) C nc dc cls Wd (h.ext E) allowed_lit_enters
      (fun xs X y z wr hx hin he => allowed_lit_c W p q' X y z xs B m q a wr hin ((k.ext E).ext he) (hc xs hx) (he.cell h1) (he.cell h2)))
  clear hc
  rw [allowB_eq]
  generalize cls.any (badC W a) = r at HC ⊢
  by_cases hlen : (m : Int) ≤ W + 1
  · rw [decide_eq_true (by rw [← HK.out]; exact hlen), Bool.true_and]
    go_enter Try.func35, Try.ntmps35
    go_wp2_with (go_at_call 55; (with_reducible refine (HC.out _ (by (repeat (first | with_reducible exact Ext.refl _ | with_reducible assumption | ((with_reducible refine Ext.setCell ?_ ?_ _); rotate_left; focus (first | omega | (simp <;> omega))) | with_reducible refine Ext.alloc ?_ _ | with_reducible refine Ext.drewN ?_ _ | with_reducible refine Ext.drew ?_ | with_reducible refine Ext.trans ?_ (by with_reducible assumption)))) _ _ ?_ ?_).mono ?_); (simp [go_sem]); (simp [go_sem]); rintro e1 w1 ⟨rfl, he1⟩)
    go_ret
    exact ⟨ret_bool (by first | rfl | simp), by (repeat (first | with_reducible exact Ext.refl _ | with_reducible assumption | ((with_reducible refine Ext.setCell ?_ ?_ _); rotate_left; focus (first | omega | (simp <;> omega))) | with_reducible refine Ext.alloc ?_ _ | with_reducible refine Ext.drewN ?_ _ | with_reducible refine Ext.drew ?_ | with_reducible refine Ext.trans ?_ (by with_reducible assumption)))⟩
  · rw [decide_eq_false (by rw [← HK.out]; exact hlen), Bool.false_and]
    have hlf : decide ((m : Int) ≤ W + 1) = false := decide_eq_false hlen
    go_enter Try.func35, Try.ntmps35
    go_wp2_with fail
    go_ret
    exact ⟨rfl, by (repeat (first | with_reducible exact Ext.refl _ | with_reducible assumption | ((with_reducible refine Ext.setCell ?_ ?_ _); rotate_left; focus (first | omega | (simp <;> omega))) | with_reducible refine Ext.alloc ?_ _ | with_reducible refine Ext.drewN ?_ _ | with_reducible refine Ext.drew ?_ | with_reducible refine Ext.trans ?_ (by with_reducible assumption)))⟩
end Go.Proofs.Ytaigjmbhgpcalaa
