/-
  The program's marks and closedAt; no condition.
-/
import Derived.Test.YtaigjmbhgpcalaaF9
import Derived.Test.YtaigjmbhgpcalaaF7

namespace Go.Proofs.Ytaigjmbhgpcalaa
set_option linter.unusedSimpArgs false
set_option linter.unusedVariables false
open Go.RowKit
/-- A row of Booleans. -/
def Bits (w : World) (g N : Nat) (f : Nat → Bool) : Prop := ∀ i, i < N → w.cell? ⟨g, i, none⟩ = some (.bool (f i))
theorem Bits.ext {w w' : World} {g N : Nat} {f : Nat → Bool} (h : Bits w g N f) (he : Ext w w') : Bits w' g N f := fun i hi => he.cell (h i hi)
theorem info_boolF : (Try.prog.info? 4).map (fun i => (i.zero, i.size, i.bytes)) = some (some (.bool false), 1, 1) := by kernel_rfl
theorem markB_succ {l : List (List Int)} {i : Nat} {xs : List Int} (hx : Hid (l[i]? = some xs)) (c : Nat) : markB (l.take (i + 1)) c = (markB (l.take i) c || codeOf xs == c) := by
  unfold markB; rw [take_succ_of hx, List.any_append]; simp
theorem ok_6 {v : Nat} {a : List Int} (h : clauseOk v a = true) (hv : v ≤ 6) : (∀ x ∈ a, -6 ≤ x ∧ x ≤ 6 ∧ x ≠ 0) ∧ a.length ≤ 6 := by
  obtain ⟨_, h2, h3⟩ := clause_facts h
  exact ⟨fun x hx => by have := h2 x hx; omega, by omega⟩
set_option maxRecDepth 100000 in
set_option maxHeartbeats 3200000 in
theorem marks_o (v : Nat) (C : Option Addr) (nc dc : Nat) (A : Option Addr) (n d : Nat) (l : List (List Int)) (w : World) (h : Intss w A n l) (hv : v ≤ 6) (hl : ∀ b ∈ l, clauseOk v b = true) :
    Calls Try.prog 58 #[.agg #[.int .i64 v, .slice C nc dc], .slice A n d] w fun e w' => ∃ (g : Nat) (us : List Value), e = .returned (.slice (some ⟨g, 0, none⟩) (pow3 v) (pow3 v)) ∧ Own w' w.heap.size 4 1 (some ⟨g, 0, none⟩) (pow3 v) (pow3 v) us ∧ (∀ c, c < pow3 v → us[c]? = some (.bool (markB l c))) ∧ Ext w w' := by
  have hb := h.bound
  have HL := hide h.len
  have HO := hide hl
  clear hl
  obtain ⟨N, hN⟩ : ∃ N, N = pow3 v := ⟨_, rfl⟩
  have hNle : N ≤ 729 := by have := pow3_mono hv; have h6 : pow3 6 = 729 := rfl; omega
  rw [← hN]
  have HP := hide (fun W => power3_c v W hv)
  rw [← hN] at HP
  have HN := hide hN
  clear hN
  have hmk := fun W => make_eq (P := Try.prog) 53 4 Try.underlying53 _ 1 info_boolF rfl N (by omega) (by omega) W
  go_enter Try.func58, Try.ntmps58
  go_wp2_with fail
  refine (HP.out _).mono ?_
  rintro e w1 ⟨rfl, rfl⟩
  go_wp2_with fail
  clear hmk
  have h0 : Own ((w.alloc (.cells #[.int .i64 v, .slice C nc dc] 28)).alloc (.cells (madeCells #[.bool false] N) 4)) w.heap.size 4 1 (some ⟨w.heap.size + 1, 0, none⟩) N N (List.replicate N (.bool false)) := by
    have := Own.made (base := w.heap.size) (w := w.alloc (.cells #[.int .i64 v, .slice C nc dc] 28)) (e := 4) (.bool false) N (by simp) (by simp only [maxLen]; omega)
    simpa using this
  refine wp_loopK _ rfl (fun KK acT wr => ∃ s0 s1 s2 s3 s4 s5 s6 s7 s8 s9 s10 s11 s12 s13 s14 s15 s16 s17 s18 s19 s20 s21 s22 s23 : Value, (KeptM [false, false, false, false, false, true, false, false, false, false, false, false, true, true, false, false, false, false, false, false, false, false, false, true] [s0, s1, s2, s3, s4, s5, s6, s7, s8, s9, s10, s11, s12, s13, s14, s15, s16, s17, s18, s19, s20, s21, s22, s23] KK ∧ (Ext w wr ∧ ∃ i : Nat, i ≤ n ∧ s14 = .int .i64 i ∧ ∃ us, Own wr w.heap.size 4 1 (some ⟨w.heap.size + 1, 0, none⟩) N N us ∧ Hid (∀ c, c < N → us[c]? = some (.bool (markB (l.take i) c))))) ∧ acT = ⟨#[s0, s1, s2, s3, s4, s5, s6, s7, s8, s9, s10, s11, s12, s13, s14, s15, s16, s17, s18, s19, s20, s21, s22, s23], []⟩) (fun acT wr => (fun (s14 : Value) (wr : World) => n - (intOf s14).toNat) (acT.tmps.getD 14 undef) wr) ?_ ?_
  · (refine ⟨_, _, _, _, _, _, _, _, _, _, _, _, _, _, _, _, _, _, _, _, _, _, _, _, ⟨(by (repeat (first | exact trivial | refine ⟨rfl, ?_⟩))), ?_⟩, rfl⟩; exact ⟨by (repeat (first | with_reducible exact Ext.refl _ | with_reducible assumption | ((with_reducible refine Ext.setCell ?_ ?_ _); rotate_left; focus (first | omega | (simp <;> omega))) | with_reducible refine Ext.alloc ?_ _ | with_reducible refine Ext.drewN ?_ _ | with_reducible refine Ext.drew ?_ | with_reducible refine Ext.trans ?_ (by with_reducible assumption))), 0, by omega, rfl, _, h0, hide (fun c hc => by rw [List.getElem?_replicate, if_pos hc]; rfl)⟩)
  intro _ wr hinv; obtain ⟨s0, s1, s2, s3, s4, s5, s6, s7, s8, s9, s10, s11, s12, s13, s14, s15, s16, s17, s18, s19, s20, s21, s22, s23, ⟨hkept, hrel⟩, rfl⟩ := hinv; simp only [KeptM] at hkept; obtain ⟨rfl, rfl, rfl, rfl, -⟩ := hkept; (try dsimp only)
  clear h0
  obtain ⟨he, i, hi, hs1, us, ho, hu⟩ := hrel
  subst hs1
  by_cases hlt : i < n
  · obtain ⟨ad, xs, X, y, z, rfl, hx, gx, hin⟩ := (h.ext he).at_ hlt
    have hok := HO.out xs (List.mem_of_getElem? hx.out)
    obtain ⟨h6, hlen⟩ := ok_6 hok hv
    have HC := hide (codeOf_c X y z xs wr hin (by have := hin.len; omega) h6)
    have hcd := (asg_code hok).2
    rw [← HN.out] at hcd
    have hms := hide (fun c => markB_succ hx c)
    obtain ⟨cd, hcde⟩ : ∃ cd, cd = codeOf xs := ⟨_, rfl⟩
    rw [← hcde] at HC hcd hms
    have hul : us.length = N := by have := ho.len; omega
    have hu2 : Hid (∀ c, c < N → (us.set cd (.bool true))[c]? = some (.bool (markB (l.take (i + 1)) c))) := hide (fun c hc => by
      rw [hms.out c]
      by_cases hcc : cd = c
      · subst hcc; rw [List.getElem?_set_self (by omega)]; simp
      · rw [List.getElem?_set_ne hcc, hu.out c hc]; simp [hcc])
    clear hx hok h6 hms hcde hu hlen
    go_wp2_with fail
    refine HC.out.mono ?_
    rintro e w2 ⟨rfl, he2⟩
    have ho2 := ho.ext he2
    have hcell := ho2.cell (List.getElem?_eq_getElem (show cd < us.length by omega))
    have hfr := ho2.frozen cd
    have ho3 := ho2.store cd (.bool true)
    have hcd0 : (0 : Int) ≤ (cd : Int) := by omega
    have hcd1 : (cd : Int) < (N : Int) := by omega
    have he3 : Ext w (w2.setCell ⟨w.heap.size + 1, cd, none⟩ (.bool true)) := (he.trans he2).setCell (p := ⟨w.heap.size + 1, cd, none⟩) (by simp) _
    go_wp2_with fail
    exact ⟨⟨(by (repeat (first | exact trivial | refine ⟨rfl, ?_⟩))), he3, i + 1, by omega, by go_num, _, ho3, hu2⟩, (by simp [intOf] <;> omega)⟩
  · obtain rfl : i = n := by omega
    have hT : Hid (l.take i = l) := hide (List.take_of_length_le (by rw [HL.out]; exact Nat.le_refl _))
    rw [hT.out] at hu
    go_wp2_with fail
    go_ret
    exact ⟨w.heap.size + 1, us, rfl, ho, hu.out, he⟩
theorem marks_c (v : Nat) (C : Option Addr) (nc dc : Nat) (A : Option Addr) (n d : Nat) (l : List (List Int)) (w : World) (h : Intss w A n l) (hv : v ≤ 6) (hl : ∀ b ∈ l, clauseOk v b = true) :
    Calls Try.prog 58 #[.agg #[.int .i64 v, .slice C nc dc], .slice A n d] w fun e w' => ∃ g c, e = .returned (.slice (some ⟨g, 0, none⟩) (pow3 v) c) ∧ Bits w' g (pow3 v) (markB l) ∧ Ext w w' := by
  refine (marks_o v C nc dc A n d l w h hv hl).mono ?_
  rintro e w' ⟨g, us, he, ho, hu, hE⟩
  exact ⟨g, pow3 v, he, fun c hc => ho.cell (hu c hc), hE⟩
def cP1 (l : List (List Int)) (a : List Int) (k : Nat) : Bool := markB l (codeOf (a.eraseIdx k))
def cP2 (l : List (List Int)) (a : List Int) (u : Int) : Bool := markB l (codeOf a + pow3 (u.toNat - 1)) || markB l (codeOf a + 2 * pow3 (u.toNat - 1))
theorem closB_eq (v : Nat) (W : Int) (l : List (List Int)) (a : List Int) : closB v W l a = ((List.range a.length).all (cP1 l a) && (decide (W < (a.length : Int)) || (openList v a).all (cP2 l a))) := rfl
theorem code_open {v : Nat} {a : List Int} (h : clauseOk v a = true) {u : Int} (hu : u ∈ openList v a) : codeOf a + pow3 (u.toNat - 1) < pow3 v ∧ codeOf a + 2 * pow3 (u.toNat - 1) < pow3 v := by
  obtain ⟨h1, h2, h3⟩ := openList_mem hu
  have hne := openL_ne h3
  obtain ⟨i, rfl⟩ : ∃ i : Nat, u = ((i + 1 : Nat) : Int) := ⟨u.toNat - 1, by omega⟩
  have k1 := (asg_code (putL_ok (l := ((i + 1 : Nat) : Int)) h (by omega) hne)).2
  have k2 := (asg_code (putL_ok (l := -((i + 1 : Nat) : Int)) h (by omega) (fun x hx => by have := hne x hx; omega))).2
  rw [putL_code, digit_pos] at k1
  rw [putL_code, digit_neg] at k2
  rw [show (((i + 1 : Nat) : Int)).toNat - 1 = i by omega]
  exact ⟨k2, k1⟩
set_option maxRecDepth 100000 in
set_option maxHeartbeats 6400000 in
theorem closedAt_c (v : Nat) (W : Int) (C : Option Addr) (nc dc : Nat) (g cN : Nat) (l : List (List Int)) (B : Option Addr) (m q : Nat) (a : List Int) (w : World) (hbits : Bits w g (pow3 v) (markB l)) (k : Ints w B m a) (hok : clauseOk v a = true) (hv : v ≤ 6) :
    Calls Try.prog 59 #[.agg #[.int .i64 v, .slice C nc dc], .int .i64 W, .slice (some ⟨g, 0, none⟩) (pow3 v) cN, .slice B m q] w fun e w' => e = .returned (.bool (closB v W l a)) ∧ Ext w w' := by
  have hb := k.bound
  have HKL := hide k.len
  obtain ⟨h6, hlen6⟩ := ok_6 hok hv
  have hm6 : m ≤ 6 := by have := HKL.out; omega
  have hNle : pow3 v ≤ 729 := by have := pow3_mono hv; have h6 : pow3 6 = 729 := rfl; omega
  have HIX := hide (fun (j : Nat) (hj : j < m) => by
    have hx := List.getElem?_eq_getElem (show j < a.length by have := HKL.out; omega)
    have := woutV_ok (a[j]'(by have := HKL.out; omega)).natAbs hok
    rw [← erase_wout a 0 j _ (clauseOk_rises hok).1 hx] at this
    exact (⟨(asg_code this).2, ok_6 this hv⟩ : codeOf (a.eraseIdx j) < pow3 v ∧ (∀ x ∈ a.eraseIdx j, -6 ≤ x ∧ x ≤ 6 ∧ x ≠ 0) ∧ (a.eraseIdx j).length ≤ 6))
  have HOP := hide (fun (u : Int) (hu : u ∈ openList v a) => code_open hok hu)
  have HWo := hide (fun (j : Nat) (hj : j < m) (Wd : World) (E : Ext w Wd) => without_c B m q a j Wd (k.ext E) hj (by omega))
  have HCa := hide (fun (Wd : World) (E : Ext w Wd) => codeOf_c B m q a Wd (k.ext E) hm6 h6)
  have HOv := hide (fun (Wd : World) (E : Ext w Wd) => openVars_c v B m q a Wd (k.ext E) (by omega))
  rw [closB_eq, ← HKL.out]
  clear h6 hlen6 hok
  obtain ⟨N, hN⟩ : ∃ N, N = pow3 v := ⟨_, rfl⟩
  rw [← hN] at hbits HIX HOP hNle ⊢
  clear hN
  obtain ⟨r, hr⟩ : ∃ r, r = ((List.range m).all (cP1 l a) && (decide (W < (m : Int)) || (openList v a).all (cP2 l a))) := ⟨_, rfl⟩
  rw [← hr]
  have HR := hide hr
  have HBi := hide hbits
  clear hr hbits
  go_enter Try.func59, Try.ntmps59
  go_wp2_with fail
  refine wp_loopF 63 _ rfl rfl [1, 2, 3, 4, 10, 11, 13, 26, 27, 28, 29, 30, 31, 32, 33, 34, 35, 36, 37, 38, 39, 40, 41, 42, 43, 44, 45, 46, 47, 48, 49, 50, 51, 52, 53, 54, 55, 56, 57, 58, 59, 60, 61, 62] rfl (fun fr wr => Ext (w.alloc (.cells #[.int .i64 v, .slice C nc dc] 28)) wr ∧ ∃ i : Nat, i ≤ m ∧ (fr 14) = .int .i64 i ∧ Hid ((List.range i).all (cP1 l a) = true)) (fun fr wr => m - (intOf (fr 14)).toNat) ?_ ?_
  · (exact ⟨Ext.refl _, 0, by omega, rfl, by simp [Hid]⟩)
  intro ks fr wr hkept hrel; (try dsimp only at hrel)
  change Code.wp _ _ _ ⟨#[fr 0, ks 1, ks 2, ks 3, ks 4, fr 5, fr 6, fr 7, fr 8, fr 9, ks 10, ks 11, fr 12, ks 13, fr 14, fr 15, fr 16, fr 17, fr 18, fr 19, fr 20, fr 21, fr 22, fr 23, fr 24, fr 25, ks 26, ks 27, ks 28, ks 29, ks 30, ks 31, ks 32, ks 33, ks 34, ks 35, ks 36, ks 37, ks 38, ks 39, ks 40, ks 41, ks 42, ks 43, ks 44, ks 45, ks 46, ks 47, ks 48, ks 49, ks 50, ks 51, ks 52, ks 53, ks 54, ks 55, ks 56, ks 57, ks 58, ks 59, ks 60, ks 61, ks 62], []⟩ wr
  simp only [KeptV, List.getD_cons_zero, List.getD_cons_succ] at hkept; obtain ⟨hk1, hk2, hk3, hk4, hk10, hk11, hk13, hk26, hk27, hk28, hk29, hk30, hk31, hk32, hk33, hk34, hk35, hk36, hk37, hk38, hk39, hk40, hk41, hk42, hk43, hk44, hk45, hk46, hk47, hk48, hk49, hk50, hk51, hk52, hk53, hk54, hk55, hk56, hk57, hk58, hk59, hk60, hk61, hk62, -⟩ := hkept
  generalize ks 1 = k1 at hk1 ⊢; subst hk1
  generalize ks 2 = k2 at hk2 ⊢; subst hk2
  generalize ks 3 = k3 at hk3 ⊢; subst hk3
  generalize ks 4 = k4 at hk4 ⊢; subst hk4
  generalize ks 10 = k10 at hk10 ⊢; subst hk10
  generalize ks 11 = k11 at hk11 ⊢; subst hk11
  generalize ks 13 = k13 at hk13 ⊢; subst hk13
  generalize ks 26 = k26 at hk26 ⊢; subst hk26
  generalize ks 27 = k27 at hk27 ⊢; subst hk27
  generalize ks 28 = k28 at hk28 ⊢; subst hk28
  generalize ks 29 = k29 at hk29 ⊢; subst hk29
  generalize ks 30 = k30 at hk30 ⊢; subst hk30
  generalize ks 31 = k31 at hk31 ⊢; subst hk31
  generalize ks 32 = k32 at hk32 ⊢; subst hk32
  generalize ks 33 = k33 at hk33 ⊢; subst hk33
  generalize ks 34 = k34 at hk34 ⊢; subst hk34
  generalize ks 35 = k35 at hk35 ⊢; subst hk35
  generalize ks 36 = k36 at hk36 ⊢; subst hk36
  generalize ks 37 = k37 at hk37 ⊢; subst hk37
  generalize ks 38 = k38 at hk38 ⊢; subst hk38
  generalize ks 39 = k39 at hk39 ⊢; subst hk39
  generalize ks 40 = k40 at hk40 ⊢; subst hk40
  generalize ks 41 = k41 at hk41 ⊢; subst hk41
  generalize ks 42 = k42 at hk42 ⊢; subst hk42
  generalize ks 43 = k43 at hk43 ⊢; subst hk43
  generalize ks 44 = k44 at hk44 ⊢; subst hk44
  generalize ks 45 = k45 at hk45 ⊢; subst hk45
  generalize ks 46 = k46 at hk46 ⊢; subst hk46
  generalize ks 47 = k47 at hk47 ⊢; subst hk47
  generalize ks 48 = k48 at hk48 ⊢; subst hk48
  generalize ks 49 = k49 at hk49 ⊢; subst hk49
  generalize ks 50 = k50 at hk50 ⊢; subst hk50
  generalize ks 51 = k51 at hk51 ⊢; subst hk51
  generalize ks 52 = k52 at hk52 ⊢; subst hk52
  generalize ks 53 = k53 at hk53 ⊢; subst hk53
  generalize ks 54 = k54 at hk54 ⊢; subst hk54
  generalize ks 55 = k55 at hk55 ⊢; subst hk55
  generalize ks 56 = k56 at hk56 ⊢; subst hk56
  generalize ks 57 = k57 at hk57 ⊢; subst hk57
  generalize ks 58 = k58 at hk58 ⊢; subst hk58
  generalize ks 59 = k59 at hk59 ⊢; subst hk59
  generalize ks 60 = k60 at hk60 ⊢; subst hk60
  generalize ks 61 = k61 at hk61 ⊢; subst hk61
  generalize ks 62 = k62 at hk62 ⊢; subst hk62
  generalize fr 14 = s14 at hrel ⊢
  obtain ⟨he, i, hi, hs1, hq⟩ := hrel
  subst hs1
  have ewr : Ext w wr := Ext.trans ((Ext.refl _).alloc _) he
  have b0 := he.box 0 (.int .i64 v) rfl
  by_cases hlt : i < m
  · obtain ⟨hcd, hx6, hxl⟩ := HIX.out i hlt
    have HWi := hide (fun (Wd : World) (E : Ext w Wd) => HWo.out i hlt Wd E)
    have HCx := hide (fun (Wd : World) (X : Option Addr) (z : Nat) (hi : Ints Wd X (m - 1) (a.eraseIdx i)) => codeOf_c X (m - 1) z (a.eraseIdx i) Wd hi (by omega) hx6)
    have hcp := hide (show cP1 l a i = markB l (codeOf (a.eraseIdx i)) from rfl)
    obtain ⟨cd, hcde⟩ : ∃ cd, cd = codeOf (a.eraseIdx i) := ⟨_, rfl⟩
    rw [← hcde] at HCx hcp hcd
    have hcell := HBi.out cd hcd
    have hcd0 : (0 : Int) ≤ (cd : Int) := by omega
    have hcd1 : (cd : Int) < (N : Int) := by omega
    clear hcde hx6 hxl
    cases hmk : markB l cd
    · rw [hmk] at hcell
      have hF : Hid (r = false) := hide (by rw [HR.out, rangeAll_false hlt (by rw [hcp.out, hmk])]; rfl)
      clear hmk hcp hq
      go_wp2_with fail
      refine (HWi.out _ ewr).mono ?_
      rintro e w1 ⟨X, z, rfl, hin, he1⟩
      go_wp2_with fail
      refine (HCx.out _ _ _ hin).mono ?_
      rintro e w2 ⟨rfl, he2⟩
      have ec := ((ewr.trans he1).trans he2).cell hcell
      go_wp2_with fail
      go_ret
      exact ⟨ret_bool hF.out.symm, (ewr.trans he1).trans he2⟩
    · rw [hmk] at hcell
      have hq2 := rangeAll_succ hq (by rw [hcp.out, hmk])
      clear hmk hcp hq
      go_wp2_with fail
      refine (HWi.out _ ewr).mono ?_
      rintro e w1 ⟨X, z, rfl, hin, he1⟩
      go_wp2_with fail
      refine (HCx.out _ _ _ hin).mono ?_
      rintro e w2 ⟨rfl, he2⟩
      have ec := ((ewr.trans he1).trans he2).cell hcell
      go_wp2_with fail
      exact ⟨⟨(by (repeat (first | exact trivial | refine ⟨rfl, ?_⟩))), (he.trans he1).trans he2, i + 1, by omega, by go_num, hq2⟩, (by simp [intOf] <;> omega)⟩
  obtain rfl : i = m := by omega
  have HR2 : Hid (r = (decide (W < (i : Int)) || (openList v a).all (cP2 l a))) := hide (by rw [HR.out, hq.out, Bool.true_and])
  clear HR hq HWo HIX
  by_cases hgt : W < (i : Int)
  · have hT : Hid (r = true) := hide (by rw [HR2.out, decide_eq_true hgt]; rfl)
    clear HR2
    go_wp2_with fail
    go_ret
    exact ⟨ret_bool hT.out.symm, ewr⟩
  have HR3 : Hid (r = (openList v a).all (cP2 l a)) := hide (by rw [HR2.out, decide_eq_false hgt]; rfl)
  clear HR2
  obtain ⟨W2, rfl⟩ : ∃ W, W = wr := ⟨_, rfl⟩
  go_wp2_with fail
  refine (HOv.out _ ewr).mono ?_
  rintro e w3 ⟨X, y, z, rfl, hov, hyv, he3⟩
  have hovI := hov.ints (by omega)
  have HOL := hide hovI.len
  have e03 : Ext w w3 := ewr.trans he3
  go_wp2_with fail
  refine wp_loopF 63 _ rfl rfl [2, 3, 10, 33, 34] rfl (fun fr wr => Ext w3 wr ∧ ∃ j : Nat, j ≤ y ∧ (fr 35) = .int .i64 j ∧ Hid (((openList v a).take j).all (cP2 l a) = true)) (fun fr wr => y - (intOf (fr 35)).toNat) ?_ ?_
  · (exact ⟨Ext.refl _, 0, by omega, rfl, by simp [Hid]⟩)
  intro ks fr wr hkept hrel; (try dsimp only at hrel)
  change Code.wp _ _ _ ⟨#[fr 0, fr 1, ks 2, ks 3, fr 4, fr 5, fr 6, fr 7, fr 8, fr 9, ks 10, fr 11, fr 12, fr 13, fr 14, fr 15, fr 16, fr 17, fr 18, fr 19, fr 20, fr 21, fr 22, fr 23, fr 24, fr 25, fr 26, fr 27, fr 28, fr 29, fr 30, fr 31, fr 32, ks 33, ks 34, fr 35, fr 36, fr 37, fr 38, fr 39, fr 40, fr 41, fr 42, fr 43, fr 44, fr 45, fr 46, fr 47, fr 48, fr 49, fr 50, fr 51, fr 52, fr 53, fr 54, fr 55, fr 56, fr 57, fr 58, fr 59, fr 60, fr 61, fr 62], []⟩ wr
  simp only [KeptV, List.getD_cons_zero, List.getD_cons_succ] at hkept; obtain ⟨hk2, hk3, hk10, hk33, hk34, -⟩ := hkept
  generalize ks 2 = k2 at hk2 ⊢; subst hk2
  generalize ks 3 = k3 at hk3 ⊢; subst hk3
  generalize ks 10 = k10 at hk10 ⊢; subst hk10
  generalize ks 33 = k33 at hk33 ⊢; subst hk33
  generalize ks 34 = k34 at hk34 ⊢; subst hk34
  generalize fr 35 = s35 at hrel ⊢
  obtain ⟨he4, j, hj, hs1, hq⟩ := hrel
  subst hs1
  have e04 : Ext w wr := e03.trans he4
  by_cases hlt2 : j < y
  · obtain ⟨ad, u, rfl, hu, gu⟩ := (hovI.ext he4).at_ hlt2
    have hum := List.mem_of_getElem? hu.out
    obtain ⟨hu1, hu2, -⟩ := openList_mem hum
    obtain ⟨hk1, hk2⟩ := HOP.out u hum
    obtain ⟨t, rfl⟩ : ∃ t : Nat, u = (t : Int) + 1 := ⟨u.toNat - 1, by omega⟩
    have hcp := hide (show cP2 l a ((t : Int) + 1) = (markB l (codeOf a + pow3 t) || markB l (codeOf a + 2 * pow3 t)) by unfold cP2; rw [show ((t : Int) + 1).toNat - 1 = t by omega])
    rw [show ((t : Int) + 1).toNat - 1 = t by omega] at hk1 hk2
    have HPo := hide (fun Wd => power3_c t Wd (by omega))
    obtain ⟨ca, hca⟩ : ∃ ca, ca = codeOf a := ⟨_, rfl⟩
    have HCb := HCa
    rw [← hca] at HCb hcp hk1 hk2
    obtain ⟨p3, hp3⟩ : ∃ p3, p3 = pow3 t := ⟨_, rfl⟩
    rw [← hp3] at HPo hcp hk1 hk2
    have hw1 : IntKind.i64.wrap ((t : Int) + 1 - 1) = (t : Int) := by rw [show (t : Int) + 1 - 1 = (t : Int) by omega]; exact IntWalk.i64_in _ (by omega)
    have hw2 : IntKind.i64.wrap ((ca : Int) + (p3 : Int)) = (ca : Int) + (p3 : Int) := IntWalk.i64_in _ (by omega)
    have hw3 : IntKind.i64.wrap (2 * (p3 : Int)) = 2 * (p3 : Int) := IntWalk.i64_in _ (by omega)
    have hw4 : IntKind.i64.wrap ((ca : Int) + 2 * (p3 : Int)) = (ca : Int) + 2 * (p3 : Int) := IntWalk.i64_in _ (by omega)
    have hi1 : (0 : Int) ≤ (ca : Int) + (p3 : Int) := by omega
    have hi2 : (ca : Int) + (p3 : Int) < (N : Int) := by omega
    have hi3 : ((ca : Int) + (p3 : Int)).toNat = ca + p3 := by omega
    have hi4 : (0 : Int) ≤ (ca : Int) + 2 * (p3 : Int) := by omega
    have hi5 : (ca : Int) + 2 * (p3 : Int) < (N : Int) := by omega
    have hi6 : ((ca : Int) + 2 * (p3 : Int)).toNat = ca + 2 * p3 := by omega
    have hc1 := HBi.out (ca + p3) hk1
    have hc2 := HBi.out (ca + 2 * p3) hk2
    clear hca hp3 hum
    cases hm1 : markB l (ca + p3)
    rotate_left
    · have hq2 := all_take_succ hu hq (by rw [hcp.out, hm1]; rfl)
      rw [hm1] at hc1
      clear hm1 hcp hq hu hc2
      go_wp2_with fail
      refine (HCb.out _ e04).mono ?_
      rintro e w5 ⟨rfl, he5⟩
      have ec1 := (e04.trans he5).cell hc1
      go_wp2_with fail
      refine (HPo.out _).mono ?_
      rintro e w6 ⟨rfl, rfl⟩
      go_wp2_with fail
      exact ⟨⟨(by (repeat (first | exact trivial | refine ⟨rfl, ?_⟩))), he4.trans he5, j + 1, by omega, by go_num, hq2⟩, (by simp [intOf] <;> omega)⟩
    rw [hm1] at hc1
    cases hm2 : markB l (ca + 2 * p3)
    · have hF : Hid (r = false) := hide (by rw [HR3.out, all_false_of hu (by rw [hcp.out, hm1, hm2]; rfl)])
      rw [hm2] at hc2
      clear hm1 hm2 hcp hq hu
      go_wp2_with fail
      refine (HCb.out _ e04).mono ?_
      rintro e w5 ⟨rfl, he5⟩
      have ec1 := (e04.trans he5).cell hc1
      have e05 : Ext w w5 := e04.trans he5
      go_wp2_with fail
      refine (HPo.out _).mono ?_
      rintro e w6 ⟨rfl, rfl⟩
      go_wp2_with fail
      refine (HCb.out _ e05).mono ?_
      rintro e w7 ⟨rfl, he7⟩
      have ec2 := (e05.trans he7).cell hc2
      go_wp2_with fail
      refine (HPo.out _).mono ?_
      rintro e w8 ⟨rfl, rfl⟩
      go_wp2_with fail
      go_ret
      exact ⟨ret_bool hF.out.symm, e05.trans he7⟩
    · have hq2 := all_take_succ hu hq (by rw [hcp.out, hm1, hm2]; rfl)
      rw [hm2] at hc2
      clear hm1 hm2 hcp hq hu
      go_wp2_with fail
      refine (HCb.out _ e04).mono ?_
      rintro e w5 ⟨rfl, he5⟩
      have ec1 := (e04.trans he5).cell hc1
      have e05 : Ext w w5 := e04.trans he5
      go_wp2_with fail
      refine (HPo.out _).mono ?_
      rintro e w6 ⟨rfl, rfl⟩
      go_wp2_with fail
      refine (HCb.out _ e05).mono ?_
      rintro e w7 ⟨rfl, he7⟩
      have ec2 := (e05.trans he7).cell hc2
      go_wp2_with fail
      refine (HPo.out _).mono ?_
      rintro e w8 ⟨rfl, rfl⟩
      go_wp2_with fail
      exact ⟨⟨(by (repeat (first | exact trivial | refine ⟨rfl, ?_⟩))), (he4.trans he5).trans he7, j + 1, by omega, by go_num, hq2⟩, (by simp [intOf] <;> omega)⟩
  · have hT : Hid (r = true) := hide (by rw [HR3.out]; exact all_take_all hq (by rw [← HOL.out]; omega))
    clear hq HR3
    go_wp2_with fail
    go_ret
    exact ⟨ret_bool hT.out.symm, e04⟩
end Go.Proofs.Ytaigjmbhgpcalaa
