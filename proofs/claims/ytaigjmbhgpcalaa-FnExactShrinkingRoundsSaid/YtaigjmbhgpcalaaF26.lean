/-
  The program's walk over all clauses; no condition.
-/
import Derived.Test.YtaigjmbhgpcalaaF25

namespace Go.Proofs.Ytaigjmbhgpcalaa
set_option linter.unusedSimpArgs false
set_option linter.unusedVariables false
open Go.RowKit
theorem genR_step {al : List Int → Bool} {j : Nat} {u : Int} {a : List Int} {xs qs rs R : List (List Int)} (h : xs ++ (genR (j + 1) u a).filter al = R) (h1 : qs = ((a ++ [u]) :: genR j (u + 1) (a ++ [u])).filter al) (u' : Int) (hu : u' = -u)
    (h2 : rs = ((a ++ [u']) :: genR j (u + 1) (a ++ [u'])).filter al) : xs ++ qs ++ rs ++ (genR j (u + 1) a).filter al = R := by
  subst hu; subst h1; subst h2; rw [← h]
  simp only [genR, List.filter_append, List.append_assoc]
theorem genR_len2 {al : List Int → Bool} {k : Nat} {u : Int} {c : List Int} {xs ys : List (List Int)} (h : xs ++ ys = (c :: genR k u c).filter al) : xs.length + ys.length ≤ pow3 k := by
  have h1 := congrArg List.length h
  have h2 := List.length_filter_le al (c :: genR k u c)
  have h3 := genR_len k u c
  rw [List.length_append] at h1
  rw [List.length_cons] at h2
  omega
theorem pow3_le {j k : Nat} (h : j < k) : 3 * pow3 j ≤ pow3 k := by
  have := pow3_mono (show j + 1 ≤ k by omega)
  simpa [pow3] using this
set_option maxRecDepth 100000 in
set_option maxHeartbeats 6400000 in
theorem allClauses_c (w0 : World) (v : Nat) (W : Int) (C : Option Addr) (nc dc : Nat) (cls : List (List Int)) (hcl : Intss w0 C nc cls) (hc : ∀ c ∈ cls, ∀ x ∈ c, -12 ≤ x ∧ x ≤ 12 ∧ x ≠ 0) (hW : 0 ≤ W ∧ W ≤ 6) (hv : v ≤ 6) :
    ∀ (k : Nat) (u : Int) (X : Option Addr) (z : Nat) (c : List Int) (h1 : Nat) (w : World) (ps : List (Value × List Int)), u + k = v + 1 → 1 ≤ u → (c.length : Int) < u → ps.length + 2 * pow3 k ≤ 90000 → StA w0 v W C nc dc h1 w ps → RowV w h1 w.heap.size 3 (.slice X c.length z) c →
    Calls Try.prog 46 #[.int .i64 v, .int .i64 u, .slice X c.length z, .func (.func 47) #[] #[.pointer (some ⟨w0.heap.size, 0, none⟩), .pointer (some ⟨w0.heap.size + 1, 0, none⟩), .pointer (some ⟨w0.heap.size + 2, 0, none⟩)]] w fun e w' =>
      e = .returned (.tuple #[]) ∧ ∃ qs, StA w0 v W C nc dc w'.heap.size w' (ps ++ qs) ∧ qs.map (·.2) = (c :: genR k u c).filter (allowB cls W) ∧ KeepI w0.heap.size w w' := by
  intro k
  induction k using Nat.strongRecOn with
  | ind k ih =>
  intro u X z c h1 w ps huk hu hcu hpl st hr
  have HD := hide (allowedAll_lit_c w0 v W C nc dc cls hcl hc hW h1 X c.length z c w ps st hr (by omega))
  have HIH := hide ih
  have HR := hide hr
  clear ih st hr hc
  go_enter Try.func46, Try.ntmps46
  go_wp2_with fail
  refine HD.out.mono ?_
  rintro e w1 ⟨rfl, hst, hk1⟩
  obtain ⟨q1, hq1⟩ : ∃ q1, q1 = hdP (allowB cls W c) (.slice X c.length z, c) := ⟨_, rfl⟩
  rw [← hq1] at hst
  have HS1 := hide hst
  have HK1 := hide hk1
  have HQ1 : Hid (q1.map (·.2) ++ (genR k u c).filter (allowB cls W) = (c :: genR k u c).filter (allowB cls W)) := hide (by
    rw [hq1, List.filter_cons]; cases allowB cls W c <;> simp [hdP])
  clear hst hk1 hq1 HD
  go_wp2_with fail
  refine wp_loopF 39 _ rfl rfl [0, 2, 3] rfl (fun fr wr => ∃ (i j : Nat) (pu : Int) (qs : List (Value × List Int)), i + j = k ∧ Hid (pu = u + i) ∧ (fr 8) = .int .i64 pu ∧ Hid (StA w0 v W C nc dc wr.heap.size wr (ps ++ qs)) ∧ Hid (qs.map (·.2) ++ (genR j pu c).filter (allowB cls W) = (c :: genR k u c).filter (allowB cls W)) ∧ Hid (KeepI w0.heap.size w wr)) (fun fr wr => k - (intOf (fr 8) - u).toNat) ?_ ?_
  · (exact ⟨0, k, u, q1, by omega, hide (by omega), rfl, HS1, HQ1, HK1⟩)
  intro ks fr wr hkept hrel; (try dsimp only at hrel)
  change Code.wp _ _ _ ⟨#[ks 0, fr 1, ks 2, ks 3, fr 4, fr 5, fr 6, fr 7, fr 8, fr 9, fr 10, fr 11, fr 12, fr 13, fr 14, fr 15, fr 16, fr 17, fr 18, fr 19, fr 20, fr 21, fr 22, fr 23, fr 24, fr 25, fr 26, fr 27, fr 28, fr 29, fr 30, fr 31, fr 32, fr 33, fr 34, fr 35, fr 36, fr 37, fr 38], []⟩ wr
  simp only [KeptV, List.getD_cons_zero, List.getD_cons_succ] at hkept; obtain ⟨hk0, hk2, hk3, -⟩ := hkept
  generalize ks 0 = k0 at hk0 ⊢; subst hk0
  generalize ks 2 = k2 at hk2 ⊢; subst hk2
  generalize ks 3 = k3 at hk3 ⊢; subst hk3
  generalize fr 8 = s8 at hrel ⊢
  obtain ⟨i, j, pu, qs, hij, hpu, hs1, HS, HQ, HK⟩ := hrel
  subst hs1
  cases j with
  | zero =>
    have hlt : ¬ pu ≤ (v : Int) := by have := hpu.out; omega
    have HQ2 : Hid (qs.map (·.2) = (c :: genR k u c).filter (allowB cls W)) := hide (by simpa [genR] using HQ.out)
    clear HQ HS1 HQ1 HK1
    go_wp2_with fail
    go_end0
    exact ⟨rfl, qs, HS.out, HQ2.out, HK.out⟩
  | succ j =>
    have hlt : pu ≤ (v : Int) := by have := hpu.out; omega
    have hpb : 1 ≤ pu ∧ pu ≤ 6 := by have := hpu.out; omega
    have hcb : c.length ≤ 6 := by omega
    have hrr := HK.out.rowV HR.out
    obtain ⟨B', d', e', hro, -, -⟩ := hrr
    injection e' with e1 e2 e3
    subst e1; subst e3
    have HC := hide (Clone_int_c X c.length z c wr (hro.ints (by omega)) (by omega))
    have hlen := genR_len2 HQ.out
    rw [List.length_map] at hlen
    have hp3 := pow3_le (show j < k by omega)
    have HREC := hide (fun (Wd : World) (h2 : Nat) (rs : List (Value × List Int)) (d : Int) (X : Option Addr) (z m : Nat) (hm : m = c.length + 1) (hpl : rs.length ≤ pow3 k) (st : StA w0 v W C nc dc h2 Wd (ps ++ rs)) (hr : RowV Wd h2 Wd.heap.size 3 (.slice X m z) (c ++ [d])) => (by
      have hm2 : m = (c ++ [d]).length := by rw [List.length_append]; exact hm
      subst hm2
      exact HIH.out j (by omega) (pu + 1) X z (c ++ [d]) h2 Wd (ps ++ rs) (by have := hpu.out; omega) (by omega) (by have := hpu.out; simp; omega) (by rw [List.length_append]; omega) st hr :
      Calls Try.prog 46 #[.int .i64 v, .int .i64 (pu + 1), .slice X m z, .func (.func 47) #[] #[.pointer (some ⟨w0.heap.size, 0, none⟩), .pointer (some ⟨w0.heap.size + 1, 0, none⟩), .pointer (some ⟨w0.heap.size + 2, 0, none⟩)]] Wd fun e w' =>
        e = .returned (.tuple #[]) ∧ ∃ qs, StA w0 v W C nc dc w'.heap.size w' (ps ++ rs ++ qs) ∧ qs.map (·.2) = ((c ++ [d]) :: genR j (pu + 1) (c ++ [d])).filter (allowB cls W) ∧ KeepI w0.heap.size Wd w'))
    have HL1 : Hid (qs.length ≤ pow3 k) := hide (by omega)
    obtain ⟨nu, hnu⟩ : ∃ nu : Int, IntKind.i64.wrap (-pu) = nu := ⟨_, rfl⟩
    have HNu : Hid (nu = -pu) := hide (by rw [← hnu]; exact IntWalk.i64_in _ (by omega))
    have HC1 := HC
    clear hro hp3 hlen HS1 HQ1 HK1 HC HIH
    go_wp2_with fail
    refine HC1.out.mono ?_
    rintro e wa1 ⟨A1, d1, rfl, ho1, he1⟩
    have ez1 := he1.size
    go_wp2_with ((at_builtin; refine wpList_app rfl _ _ _ _ rfl Try.underlying35 _ 1 8 info_int rfl (by decide) rfl ho1 1 [.int .i64 pu] (by first | rfl | simp [go_sem]) rfl ?_ ?_ ?_ ?_ ?_; (intro u hu; simp at hu; first | (subst hu; rfl) | (rcases hu with rfl | rfl <;> rfl) | (rcases hu with rfl | rfl | rfl <;> rfl) | (rcases hu with rfl | rfl | rfl | rfl <;> rfl) | (rcases hu with rfl | rfl | rfl | rfl | rfl <;> rfl) | (rcases hu with rfl | rfl | rfl | rfl | rfl | rfl <;> rfl)); omega; omega; (first | omega | (simp; omega)); intro A' c' w' ho' hg' hb'); have EW1 : Hid (Ext wr w') := hide (Ext.trans_own he1 (Nat.le_refl _) ho1 hg'); have HO1 : Hid (Own w' wr.heap.size 3 1 A' (c.length + 1) c' ((c ++ [pu]).map (Value.int .i64))) := hide (by simpa using ho'); clear ho' hg' hb' he1 ho1)
    have HRo1 := hide (RowV.ofOwn HO1.out (by omega))
    refine (HREC.out w' wr.heap.size qs pu A' c' _ rfl HL1.out (HS.out.more EW1.out) HRo1.out).mono ?_
    rintro e wb1 ⟨rfl, r1, hst1, hq1, hk1⟩
    have HS1 : Hid (StA w0 v W C nc dc wb1.heap.size wb1 (ps ++ (qs ++ r1))) := hide (by simpa using hst1)
    have HK1 := hide ((HK.out.trans (KeepI.ofExt _ EW1.out)).trans hk1)
    have Hq1 := hide hq1
    clear hst1 hk1 hq1 EW1 HO1 HRo1
    have HL2 : Hid ((qs ++ r1).length ≤ pow3 k) := hide (by
      have h5 := genR_len2 HQ.out
      have h6 := congrArg List.length Hq1.out
      simp only [genR, List.filter_append, List.length_append, List.length_map] at h5 h6 ⊢
      omega)
    obtain ⟨B', d', e', hro, -, -⟩ := HK1.out.rowV HR.out
    injection e' with e1 e2 e3
    subst e1; subst e3
    have HC2 := hide (Clone_int_c X c.length z c wb1 (hro.ints (by omega)) (by omega))
    clear hro
    go_wp2_with fail
    refine HC2.out.mono ?_
    rintro e wa2 ⟨A2, d2, rfl, ho2, he2⟩
    have ez2 := he2.size
    go_wp2_with ((at_builtin; refine wpList_app rfl _ _ _ _ rfl Try.underlying35 _ 1 8 info_int rfl (by decide) rfl ho2 1 [.int .i64 nu] (by first | rfl | simp [go_sem]) rfl ?_ ?_ ?_ ?_ ?_; (intro u hu; simp at hu; first | (subst hu; rfl) | (rcases hu with rfl | rfl <;> rfl) | (rcases hu with rfl | rfl | rfl <;> rfl) | (rcases hu with rfl | rfl | rfl | rfl <;> rfl) | (rcases hu with rfl | rfl | rfl | rfl | rfl <;> rfl) | (rcases hu with rfl | rfl | rfl | rfl | rfl | rfl <;> rfl)); omega; omega; (first | omega | (simp; omega)); intro A' c' w' ho' hg' hb'); have EW2 : Hid (Ext wb1 w') := hide (Ext.trans_own he2 (Nat.le_refl _) ho2 hg'); have HO2 : Hid (Own w' wb1.heap.size 3 1 A' (c.length + 1) c' ((c ++ [nu]).map (Value.int .i64))) := hide (by simpa using ho'); clear ho' hg' hb' he2 ho2)
    have HRo2 := hide (RowV.ofOwn HO2.out (by omega))
    refine (HREC.out w' wb1.heap.size (qs ++ r1) nu A' c' _ rfl HL2.out (HS1.out.more EW2.out) HRo2.out).mono ?_
    rintro e wb2 ⟨rfl, r2, hst2, hq2, hk2⟩
    have HS2 : Hid (StA w0 v W C nc dc wb2.heap.size wb2 (ps ++ ((qs ++ r1) ++ r2))) := hide (by simpa using hst2)
    have HK2 := hide ((HK1.out.trans (KeepI.ofExt _ EW2.out)).trans hk2)
    have Hq2 := hide hq2
    clear hst2 hk2 hq2 EW2 HO2 HRo2
    have HQ2 := hide (genR_step HQ.out Hq1.out nu HNu.out Hq2.out)
    have HPu : Hid (pu + 1 = u + ((i + 1 : Nat) : Int)) := hide (by have := hpu.out; omega)
    clear hnu HREC HNu Hq1 Hq2 HQ HS1 HK1 HS HK HL1 HL2
    go_wp2_with fail
    have hpp := hpu.out
    exact ⟨⟨(by (repeat (first | exact trivial | refine ⟨rfl, ?_⟩))), i + 1, j, pu + 1, qs ++ r1 ++ r2, by omega, HPu, by go_num, HS2, hide (by simpa using HQ2.out), HK2⟩, (by simp [intOf] <;> omega)⟩
end Go.Proofs.Ytaigjmbhgpcalaa
