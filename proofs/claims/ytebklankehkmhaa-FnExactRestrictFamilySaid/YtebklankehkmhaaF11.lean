/-
  The program's isFamily; IsFamily on both sides; no condition.
-/
import Derived.Test.YtebklankehkmhaaF10
import Derived.Test.YtebklankehkmhaaF8
namespace Go.Proofs.Ytebklankehkmhaa
set_option linter.unusedSimpArgs false
set_option linter.unusedVariables false
open Go.RowKit
theorem isFamily_lit_c (v : Nat) (W : Int) (pf pw pi : Nat) (C : Option Addr) (nc dc g cN : Nat) (l : List (List Int)) (X : Option Addr) (y z : Nat) (a : List Int) (w : World) (hi : Ints w X y a) (hbits : Bits w g (pow3 v) (markB l)) (hok : clauseOk v a = true) (hv : v ≤ 6)
    (h0 : w.cell? ⟨pf, 0, none⟩ = some (.int .i64 v)) (h1 : w.cell? ⟨pf, 1, none⟩ = some (.slice C nc dc)) (h2 : w.cell? ⟨pw, 0, none⟩ = some (.int .i64 W)) (h3 : w.cell? ⟨pi, 0, none⟩ = some (.slice (some ⟨g, 0, none⟩) (pow3 v) cN)) :
    Calls Try.prog 139 (#[.slice X y z] ++ #[.pointer (some ⟨pf, 0, none⟩), .pointer (some ⟨pw, 0, none⟩), .pointer (some ⟨pi, 0, none⟩)]) w fun e w' => e = .returned (.bool (!closB v W l a)) ∧ Ext w w' := by
  have HC := hide (closedAt_c v W C nc dc g cN l X y z a w hbits hi hok hv)
  generalize closB v W l a = r at HC ⊢
  generalize pow3 v = N at HC h3
  clear hbits hok
  go_enter Try.func139, Try.ntmps139
  go_wp2_with (go_at_call 140; (with_reducible refine HC.out.mono ?_); rintro e1 w1 ⟨rfl, he1⟩)
  go_ret
  exact ⟨rfl, he1⟩
theorem isFamily_lit_enters : Enters Try.prog 139 := enters_of Try.func139 (by kernel_rfl) (by kernel_rfl)
theorem fam_any {v : Nat} {W : Int} {l : List (List Int)} (hl : ∀ b ∈ l, clauseOk v b = true) : l.any (fun a => !closB v W l a) = !l.all (keepB v W l) := by
  rw [List.not_all_eq_any_not]
  rw [Bool.eq_iff_iff, List.any_eq_true, List.any_eq_true]
  constructor <;> (rintro ⟨a, ha, h⟩; refine ⟨a, ha, ?_⟩; simpa [clos_keep (W := W) hl (hl a ha)] using h)
set_option maxRecDepth 100000 in
set_option maxHeartbeats 6400000 in
theorem isFamily_c (v : Nat) (W : Int) (C : Option Addr) (nc dc : Nat) (cls : List (List Int)) (A : Option Addr) (n d : Nat) (l : List (List Int)) (w : World) (h : Intss w A n l) (hcl : Intss w C nc cls) (hc : ∀ c ∈ cls, ∀ x ∈ c, -12 ≤ x ∧ x ≤ 12 ∧ x ≠ 0) (hW : 0 ≤ W ∧ W ≤ 6) (hv : v ≤ 6) :
    Calls Try.prog 92 #[.agg #[.int .i64 v, .slice C nc dc], .int .i64 W, .slice A n d] w fun e w' => e = .returned (.bool (famB v cls W l)) ∧ Ext w w' := by
  have hb := h.bound
  have HL := hide h.len
  have HG := hide (fun (Wd : World) (X : Option Addr) (y z : Nat) (c : List Int) (hi : Ints Wd X y c) => IsAssignment_c (v : Int) X y z c Wd hi)
  have HAl := hide (fun (Wd : World) (E : Ext w Wd) (X : Option Addr) (y z : Nat) (c : List Int) (hi : Ints Wd X y c) => allowed_c (v : Int) W C nc dc cls X y z c Wd (hcl.ext E) hi hc hW)
  clear hc
  obtain ⟨r, hr⟩ : ∃ r, r = famB v cls W l := ⟨_, rfl⟩
  rw [← hr]
  have HR := hide hr
  clear hr
  go_enter Try.func92, Try.ntmps92
  go_wp2_with fail
  refine wp_loopF 56 _ rfl rfl [2, 3, 4, 5, 9, 10, 11, 44, 45, 46, 47, 48, 49, 50, 51, 52, 53, 54, 55] rfl (fun fr wr => Ext ((w.alloc (.cells #[.int .i64 v, .slice C nc dc] 41)).alloc (.cells #[.int .i64 W] 3)) wr ∧ ∃ i : Nat, i ≤ n ∧ (fr 12) = .int .i64 i ∧ Hid ((List.range i).all (famAt v cls W l) = true)) (fun fr wr => n - (intOf (fr 12)).toNat) ?_ ?_
  · (exact ⟨Ext.refl _, 0, by omega, rfl, by simp [Hid]⟩)
  intro ks fr wr hkept hrel; (try dsimp only at hrel)
  change Code.wp _ _ _ ⟨#[fr 0, fr 1, ks 2, ks 3, ks 4, ks 5, fr 6, fr 7, fr 8, ks 9, ks 10, ks 11, fr 12, fr 13, fr 14, fr 15, fr 16, fr 17, fr 18, fr 19, fr 20, fr 21, fr 22, fr 23, fr 24, fr 25, fr 26, fr 27, fr 28, fr 29, fr 30, fr 31, fr 32, fr 33, fr 34, fr 35, fr 36, fr 37, fr 38, fr 39, fr 40, fr 41, fr 42, fr 43, ks 44, ks 45, ks 46, ks 47, ks 48, ks 49, ks 50, ks 51, ks 52, ks 53, ks 54, ks 55], []⟩ wr
  simp only [KeptV, List.getD_cons_zero, List.getD_cons_succ] at hkept; obtain ⟨hk2, hk3, hk4, hk5, hk9, hk10, hk11, hk44, hk45, hk46, hk47, hk48, hk49, hk50, hk51, hk52, hk53, hk54, hk55, -⟩ := hkept
  generalize ks 2 = k2 at hk2 ⊢; subst hk2
  generalize ks 3 = k3 at hk3 ⊢; subst hk3
  generalize ks 4 = k4 at hk4 ⊢; subst hk4
  generalize ks 5 = k5 at hk5 ⊢; subst hk5
  generalize ks 9 = k9 at hk9 ⊢; subst hk9
  generalize ks 10 = k10 at hk10 ⊢; subst hk10
  generalize ks 11 = k11 at hk11 ⊢; subst hk11
  generalize ks 44 = k44 at hk44 ⊢; subst hk44
  generalize ks 45 = k45 at hk45 ⊢; subst hk45
  generalize ks 46 = k46 at hk46 ⊢; subst hk46
  generalize ks 47 = k47 at hk47 ⊢; subst hk47
  generalize ks 48 = k48 at hk48 ⊢; subst hk48
  generalize ks 49 = k49 at hk49 ⊢; subst hk49
  generalize ks 50 = k50 at hk50 ⊢; subst hk50
  generalize ks 51 = k51 at hk51 ⊢; subst hk51
  generalize ks 52 = k52 at hk52 ⊢; subst hk52
  generalize ks 53 = k53 at hk53 ⊢; subst hk53
  generalize ks 54 = k54 at hk54 ⊢; subst hk54
  generalize ks 55 = k55 at hk55 ⊢; subst hk55
  generalize fr 12 = s12 at hrel ⊢
  obtain ⟨he, i, hi, hs1, hq⟩ := hrel
  subst hs1
  have ewr : Ext w wr := Ext.trans (((Ext.refl _).alloc _).alloc _) he
  have b0 := he.cell (p := ⟨w.heap.size, 0, none⟩) (u := .int .i64 v) (by simp [go_sem])
  have b1 := he.cell (p := ⟨w.heap.size, 1, none⟩) (u := .slice C nc dc) (by simp [go_sem])
  have b2 := he.cell (p := ⟨w.heap.size + 1, 0, none⟩) (u := .int .i64 W) (by simp [go_sem])
  by_cases hlt : i < n
  · obtain ⟨ad, xs, X, y, z, rfl, hx, gx0, hin0⟩ := h.at_ hlt
    have gx := ewr.cell gx0
    have HGx := hide (fun (Wd : World) (E : Ext w Wd) => HG.out Wd X y z xs (hin0.ext E))
    have HAx := hide (fun (Wd : World) (E : Ext w Wd) => HAl.out Wd E X y z xs (hin0.ext E))
    have hfalse : famAt v cls W l i = false → Hid (r = false) := fun hf => hide (by
      rw [HR.out]; unfold famB famA
      rw [rangeAll_false (k := i) (by rw [← HL.out]; exact hlt) hf]; rfl)
    have hF := hide hfalse
    clear hfalse
    cases hok : clauseOk v xs
    · have hf := hF.out (famAt_0 (cls := cls) (W := W) hx hok)
      rw [hok] at HGx
      clear hok hx hq hF
      go_wp2_with (first | (go_at_call 89; (with_reducible refine (HGx.out _ ewr).mono ?_); rintro e3 w3 ⟨rfl, he3⟩; have ew3 : Hid (Ext w w3) := hide (ewr.trans he3); have x0 := he3.cell b0; have x1 := he3.cell b1; have x2 := he3.cell b2; have x4 := ew3.out.cell gx0))
      go_ret
      exact ⟨ret_bool hf.out.symm, ew3.out⟩
    rw [hok] at HGx
    cases hal : allowB cls W xs
    · have hf := hF.out (famAt_1 (v := (v : Int)) hx hal)
      rw [hal] at HAx
      clear hok hal hx hq hF
      go_wp2_with (first | (go_at_call 89; (with_reducible refine (HGx.out _ ewr).mono ?_); rintro e3 w3 ⟨rfl, he3⟩; have ew3 : Hid (Ext w w3) := hide (ewr.trans he3); have x0 := he3.cell b0; have x1 := he3.cell b1; have x2 := he3.cell b2; have x4 := ew3.out.cell gx0) | (go_at_call 90; (with_reducible refine (HAx.out _ ew3.out).mono ?_); rintro e4 w4 ⟨rfl, he4⟩; have ew4 : Hid (Ext w w4) := hide (ew3.out.trans he4)))
      go_ret
      exact ⟨ret_bool hf.out.symm, ew4.out⟩
    rw [hal] at HAx
    rcases Nat.eq_zero_or_pos i with hi0 | hi0
    · have hq2 : Hid ((List.range (i + 1)).all (famAt v cls W l) = true) := rangeAll_succ hq (famAt_2 hi0 hx hok hal)
      have hip : decide (0 < i) = false := by simp; omega
      have hi0' := hide hi0
      clear hok hal hx hq hF hi0
      go_wp2_with (first | (go_at_call 89; (with_reducible refine (HGx.out _ ewr).mono ?_); rintro e3 w3 ⟨rfl, he3⟩; have ew3 : Hid (Ext w w3) := hide (ewr.trans he3); have x0 := he3.cell b0; have x1 := he3.cell b1; have x2 := he3.cell b2; have x4 := ew3.out.cell gx0) | (go_at_call 90; (with_reducible refine (HAx.out _ ew3.out).mono ?_); rintro e4 w4 ⟨rfl, he4⟩; have ew4 : Hid (Ext w w4) := hide (ew3.out.trans he4)))
      exact ⟨⟨(by (repeat (first | exact trivial | refine ⟨rfl, ?_⟩))), (he.trans he3).trans he4, i + 1, by omega, by go_num, hq2⟩, (by simp [intOf] <;> omega)⟩
    · obtain ⟨j, hij0⟩ : ∃ j, i = j + 1 := ⟨i - 1, by omega⟩
      have hij := hide hij0
      clear hij0
      obtain ⟨ad', ys, X2, y2, z2, hade, hy, gy0, hiny⟩ := h.at_ (show j < n by have := hij.out; omega)
      injection hade with hade
      subst hade
      have hoky := fam_pre hq (show j < i by have := hij.out; omega) hy.out
      have hB := fun (Wd : World) (E : Ext w Wd) => compareClauses_c X2 y2 z2 ys X y z xs Wd (hiny.ext E) (hin0.ext E)
      have hcb := cmpC_bef (clause_small hoky) (clause_small hok)
      obtain ⟨cc, hcc⟩ : ∃ cc, cc = cmpC ys xs := ⟨_, rfl⟩
      rw [← hcc] at hcb
      simp only [← hcc] at hB
      have HB := hide hB
      clear hB hcc
      have hwj : IntKind.i64.wrap ((i : Int) - 1) = (j : Int) := by rw [show ((i : Int) - 1) = (j : Int) by have := hij.out; omega]; exact IntWalk.i64_in _ (by have := hij.out; omega)
      have hpos : (0 : Int) < (i : Int) := by omega
      have hj0 : (0 : Int) ≤ (j : Int) := by omega
      have hjn2 : j < n := by have := hij.out; omega
      have hjn : (j : Int) < (n : Int) := by omega
      cases hbf : befC ys xs
      · have hf := hF.out (by rw [famAt_3 hij.out hx hy hok hal, hbf])
        have hge : (0 : Int) ≤ cc := by rw [hbf] at hcb; simpa using hcb
        have hged : decide ((0 : Int) ≤ cc) = true := decide_eq_true hge
        clear hok hal hx hy hq hF hbf hoky hcb
        go_wp2_with (first | (go_at_call 89; (with_reducible refine (HGx.out _ ewr).mono ?_); rintro e3 w3 ⟨rfl, he3⟩; have ew3 : Hid (Ext w w3) := hide (ewr.trans he3); have x0 := he3.cell b0; have x1 := he3.cell b1; have x2 := he3.cell b2; have x4 := ew3.out.cell gx0) | (go_at_call 90; (with_reducible refine (HAx.out _ ew3.out).mono ?_); rintro e4 w4 ⟨rfl, he4⟩; have ew4 : Hid (Ext w w4) := hide (ew3.out.trans he4); have y5 := (show w4.cell? _ = _ from ew4.out.cell gy0)) | (go_at_call 112; (with_reducible refine (HB.out _ ew4.out).mono ?_); rintro e5 w5 ⟨rfl, he5⟩; have ew5 : Hid (Ext w w5) := hide (ew4.out.trans he5)))
        go_ret
        exact ⟨ret_bool hf.out.symm, ew5.out⟩
      · have hq2 : Hid ((List.range (i + 1)).all (famAt v cls W l) = true) := rangeAll_succ hq (by rw [famAt_3 hij.out hx hy hok hal, hbf])
        have hge : ¬ (0 : Int) ≤ cc := by rw [hbf] at hcb; simpa using hcb
        have hged : decide ((0 : Int) ≤ cc) = false := decide_eq_false hge
        clear hok hal hx hy hq hF hbf hoky hcb
        go_wp2_with (first | (go_at_call 89; (with_reducible refine (HGx.out _ ewr).mono ?_); rintro e3 w3 ⟨rfl, he3⟩; have ew3 : Hid (Ext w w3) := hide (ewr.trans he3); have x0 := he3.cell b0; have x1 := he3.cell b1; have x2 := he3.cell b2; have x4 := ew3.out.cell gx0) | (go_at_call 90; (with_reducible refine (HAx.out _ ew3.out).mono ?_); rintro e4 w4 ⟨rfl, he4⟩; have ew4 : Hid (Ext w w4) := hide (ew3.out.trans he4); have y5 := (show w4.cell? _ = _ from ew4.out.cell gy0)) | (go_at_call 112; (with_reducible refine (HB.out _ ew4.out).mono ?_); rintro e5 w5 ⟨rfl, he5⟩; have ew5 : Hid (Ext w w5) := hide (ew4.out.trans he5)))
        exact ⟨⟨(by (repeat (first | exact trivial | refine ⟨rfl, ?_⟩))), ((he.trans he3).trans he4).trans he5, i + 1, by omega, by go_num, hq2⟩, (by simp [intOf] <;> omega)⟩
  obtain rfl : i = n := by omega
  have hfam : Hid (famA v cls W l = true) := hide (by unfold famA; rw [← HL.out]; exact hq.out)
  obtain ⟨hoks, -⟩ := famA_facts hfam.out
  have hany := fam_any (W := W) hoks
  have HR2 : Hid (r = (decide (0 < i) && !l.any (fun a => !closB v W l a))) := hide (by rw [HR.out, hany, Bool.not_not]; unfold famB; rw [hfam.out, HL.out]; rfl)
  have HMk := hide (fun (Wd : World) (E : Ext w Wd) => marks_c v C nc dc A i d l Wd (h.ext E) hv hoks)
  have HO := hide hoks
  clear hany hfam hq HR HG HAl hlt hoks
  obtain ⟨W2, rfl⟩ : ∃ W, W = wr := ⟨_, rfl⟩
  go_wp2_with fail
  refine (HMk.out _ ewr).mono ?_
  rintro e w3 ⟨g, c, rfl, hbits, he3⟩
  have ew3 : Hid (Ext w w3) := hide (ewr.trans he3)
  have hsz3 : w.heap.size + 1 < w3.heap.size := by have h1 := he.size; have h2 := he3.size; simp at h1; omega
  obtain ⟨N, hN⟩ : ∃ N, N = pow3 v := ⟨_, rfl⟩
  obtain ⟨W4, hW4⟩ : ∃ W4, W4 = w3.alloc (.cells #[.slice (some ⟨g, 0, none⟩) (pow3 v) c] 116) := ⟨_, rfl⟩
  have e34 : Ext w3 W4 := by rw [hW4]; exact (Ext.refl _).alloc _
  have c0 := (he3.trans e34).cell b0
  have c1 := (he3.trans e34).cell b1
  have c2 := (he3.trans e34).cell b2
  have c3 : W4.cell? ⟨w3.heap.size, 0, none⟩ = some (.slice (some ⟨g, 0, none⟩) (pow3 v) c) := by rw [hW4]; exact (BoxAt.made w3 _ _).cell 0 _ rfl
  have HCf := hide (ContainsFunc_rows_mem 139 #[.pointer (some ⟨w.heap.size, 0, none⟩), .pointer (some ⟨w.heap.size + 1, 0, none⟩), .pointer (some ⟨w3.heap.size, 0, none⟩)] (fun a => !closB v W l a) A i d l W4 (h.ext (ew3.out.trans e34)) isFamily_lit_enters
    (fun xs B m q wr hx hin hew => isFamily_lit_c v W w.heap.size (w.heap.size + 1) w3.heap.size C nc dc g c l B m q xs wr hin ((hbits.ext e34).ext hew) (HO.out xs hx) hv (hew.cell c0) (hew.cell c1) (hew.cell c2) (hew.cell c3)))
  generalize l.any (fun a => !closB v W l a) = p at HCf HR2
  have ew4 : Hid (Ext w W4) := hide (ew3.out.trans e34)
  rcases Nat.eq_zero_or_pos i with hi0 | hi0
  · have hR : Hid (r = false) := hide (by rw [HR2.out, decide_eq_false (by omega : ¬ 0 < i)]; rfl)
    have hip : decide (0 < i) = false := by simp; omega
    have hi0' := hide hi0
    clear hi0 HR2
    go_wp2_with fail
    rw [← hW4]
    go_ret
    exact ⟨ret_bool hR.out.symm, ew4.out⟩
  · have hR : Hid (r = !p) := hide (by rw [HR2.out, decide_eq_true hi0]; rfl)
    have hip : decide (0 < i) = true := by simp; omega
    clear HR2
    go_wp2_with fail
    rw [← hW4]
    refine HCf.out.mono ?_
    rintro e w5 ⟨rfl, he5⟩
    go_wp2_with fail
    go_ret
    exact ⟨ret_bool hR.out.symm, ew4.out.trans he5⟩
end Go.Proofs.Ytebklankehkmhaa
