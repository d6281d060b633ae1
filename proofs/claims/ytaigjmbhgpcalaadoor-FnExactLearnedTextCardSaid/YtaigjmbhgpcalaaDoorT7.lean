/-
  The program's text of a list of clauses, where the library's table lies in memory; no condition.
-/
import Derived.Test.YtaigjmbhgpcalaaDoorT6
namespace Go.Proofs.YtaigjmbhgpcalaaDoor
set_option linter.unusedSimpArgs false
set_option linter.unusedVariables false
open Go.RowKit
set_option maxRecDepth 100000 in
set_option maxHeartbeats 3200000 in
theorem digits_c (A : Option Addr) (n d : Nat) (c : List Int) (w : World) (h : Ints w A n c) (ht : Tab w) (hn : 0 < n) (hl : c.length ≤ 12) (hc : ∀ x ∈ c, -12 ≤ x ∧ x ≤ 12) :
    Calls Tryd.prog 47 #[.slice A n d, .string ⟨#[32]⟩] w fun e w' => e = .returned (.string ⟨(Lib.join (c.map Lib.itoa) [32]).toArray⟩) ∧ Ext w w' := by
  have hln := h.len
  have hn12 : n ≤ 12 := by omega
  have HC := hide hc
  have HLm : Hid ((c.map Lib.itoa).length = n) := hide (by rw [List.length_map]; omega)
  have HLe := hide (join_len [32] (itoas_len hc))
  have HNum := hide (fun (x : Int) (hx : -12 ≤ x ∧ x ≤ 12) W (E : Ext w W) => Itoa_c x (by omega) W (ht.ext E))
  have hmk := fun W => make_eq (P := Tryd.prog) 48 9 Tryd.underlying48 _ 16 info_string rfl n (by omega) (by omega) W
  obtain ⟨ws, hws⟩ : ∃ ws, ws = c.map Lib.itoa := ⟨_, rfl⟩
  rw [← hws] at HLm HLe ⊢
  have HWs := hide hws
  have OM : Hid (Own (w.alloc (.cells (madeCells #[.string ⟨#[]⟩] n) 9)) w.heap.size 9 1 (some ⟨w.heap.size, 0, none⟩) n n (List.replicate n (.string ⟨#[]⟩))) := hide (Own.made (base := w.heap.size) (w := w) (e := 9) (.string ⟨#[]⟩) n (Nat.le_refl _) (by simp only [maxLen]; omega))
  clear hln hl hc hws
  go_enter Tryd.func47, Tryd.ntmps47
  go_wp2_with fail
  clear hmk
  refine wp_loopF 27 _ rfl rfl [1, 5, 11, 12, 24, 25, 26] rfl (fun fr wr => Ext w wr ∧ ∃ (i : Nat) (us : List Value), i ≤ n ∧ (fr 13) = .int .i64 i ∧ Hid (Own wr w.heap.size 9 1 (some ⟨w.heap.size, 0, none⟩) n n us) ∧ Hid (us.take i = (ws.take i).map strV)) (fun fr wr => n - (intOf (fr 13)).toNat) ?_ ?_
  · (exact ⟨(Ext.refl _).alloc _, 0, _, by omega, rfl, OM, hide rfl⟩)
  intro ks fr wr hkept hrel; (try dsimp only at hrel)
  change Code.wp _ _ _ ⟨#[fr 0, ks 1, fr 2, fr 3, fr 4, ks 5, fr 6, fr 7, fr 8, fr 9, fr 10, ks 11, ks 12, fr 13, fr 14, fr 15, fr 16, fr 17, fr 18, fr 19, fr 20, fr 21, fr 22, fr 23, ks 24, ks 25, ks 26], []⟩ wr
  simp only [KeptV, List.getD_cons_zero, List.getD_cons_succ] at hkept; obtain ⟨hk1, hk5, hk11, hk12, hk24, hk25, hk26, -⟩ := hkept
  generalize ks 1 = k1 at hk1 ⊢; subst hk1
  generalize ks 5 = k5 at hk5 ⊢; subst hk5
  generalize ks 11 = k11 at hk11 ⊢; subst hk11
  generalize ks 12 = k12 at hk12 ⊢; subst hk12
  generalize ks 24 = k24 at hk24 ⊢; subst hk24
  generalize ks 25 = k25 at hk25 ⊢; subst hk25
  generalize ks 26 = k26 at hk26 ⊢; subst hk26
  generalize fr 13 = s13 at hrel ⊢
  obtain ⟨he, i, us, hi, hs1, hO, hU⟩ := hrel
  subst hs1
  have HE := hide he
  have hul : us.length = n := by have := hO.out.len; omega
  by_cases hlt : i < n
  · obtain ⟨ad, x, rfl, hx, gx⟩ := (h.ext he).at_ hlt
    have HX := hide (fun W (E : Ext w W) => HNum.out x (HC.out x (List.mem_of_getElem? hx.out)) W E)
    have hwx : ws[i]? = some (Lib.itoa x) := by rw [HWs.out, List.getElem?_map, hx.out]; rfl
    have HU2 : Hid ((us.set i (strV (Lib.itoa x))).take (i + 1) = (ws.take (i + 1)).map strV) := hide (by
      rw [take_set_succ us i _ (by omega), hU.out, take_succ_of (hide hwx), List.map_append]; rfl)
    have hO2 := hO.out
    obtain ⟨q1, k1⟩ : ∃ q1, us[i]? = some q1 := ⟨_, List.getElem?_eq_getElem (by omega)⟩
    clear hx hwx he hul
    go_wp2_with fail
    refine (HX.out _ HE.out).mono ?_
    rintro e w2 ⟨rfl, he2⟩
    have hO3 := hO2.ext he2
    have k2 := hO3.cell k1
    have k3 := hO3.frozen i
    have HO4 := hide (hO3.store i (strV (Lib.itoa x)))
    have HE4 := hide ((HE.out.trans he2).setCell (p := ⟨w.heap.size, i, none⟩) (by simp) (strV (Lib.itoa x)))
    clear hO hO2 hO3 he2 k1
    go_wp2_with fail
    exact ⟨⟨(by (repeat (first | exact trivial | refine ⟨rfl, ?_⟩))), HE4.out, i + 1, _, by omega, by go_num, HO4, HU2⟩, (by simp [intOf] <;> omega)⟩
  · obtain rfl : i = n := by omega
    have hus : us = ws.map strV := by
      have h1 := hU.out
      rwa [List.take_of_length_le (by omega), List.take_of_length_le (by rw [HLm.out]; exact Nat.le_refl _)] at h1
    have hO2 := hO.out
    rw [hus] at hO2
    have hle := HLe.out
    rw [HLm.out] at hle
    simp only [List.length_cons, List.length_nil] at hle
    have HJ := hide (Join_c w.heap.size i ws [32] w.heap.size wr (by rw [HLm.out]; exact hO2) (by rw [HLm.out]; omega) (by omega))
    rw [HLm.out] at HJ
    clear hus hO2 hO hU hle he hul
    go_wp2_with fail
    refine HJ.out.mono ?_
    rintro e w2 ⟨rfl, he2⟩
    go_wp2_with fail
    go_ret
    exact ⟨rfl, HE.out.trans he2⟩
set_option maxRecDepth 100000 in
theorem clauseText_c (A : Option Addr) (n d : Nat) (c : List Int) (w : World) (h : Ints w A n c) (ht : Tab w) (hl : c.length ≤ 12) (hc : ∀ x ∈ c, -12 ≤ x ∧ x ≤ 12) :
    Calls Tryd.prog 29 #[.slice A n d] w fun e w' => e = .returned (.string ⟨(clauseL c).toArray⟩) ∧ Ext w w' := by
  have hln := h.len
  by_cases hn0 : n = 0
  · have hc0 : c = [] := List.eq_nil_of_length_eq_zero (by omega)
    have hT : clauseL c = [110, 111, 110, 101] := by unfold clauseL; rw [if_pos hc0]
    rw [hT]
    subst hn0
    clear hT hc0 hln hl hc h
    go_enter Tryd.func29, Tryd.ntmps29
    go_wp2_with fail
    go_ret
    exact ⟨rfl, Ext.refl _⟩
  · have hT : clauseL c = Lib.join (c.map Lib.itoa) [32] := by unfold clauseL; rw [if_neg (fun e => hn0 (by rw [hln, e]; rfl))]
    rw [hT]
    have HD := hide (digits_c A n d c w h ht (by omega) hl hc)
    have hn1 : ((n : Int) == 0) = false := by simpa using hn0
    generalize Lib.join (c.map Lib.itoa) [32] = T at *
    clear hln hl hc hT
    go_enter Tryd.func29, Tryd.ntmps29
    go_wp2_with fail
    refine HD.out.mono ?_
    rintro e w2 ⟨rfl, he2⟩
    go_wp2_with fail
    go_ret
    exact ⟨rfl, he2⟩
set_option maxRecDepth 100000 in
set_option maxHeartbeats 3200000 in
theorem impl_LearnedText_c (v : Int) (C : Option Addr) (nc dc : Nat) (cls : List (List Int)) (A : Option Addr) (n d : Nat) (l : List (List Int)) (w : World) (hcl : Intss w C nc cls) (h : Intss w A n l) (ht : Tab w) :
    Calls Tryd.prog 15 #[.agg #[.int .i64 v, .slice C nc dc], .slice A n d] w fun e w' => e = .returned (.tuple #[.string ⟨(learnedP v cls l).toArray⟩, .bool (lstOk v cls l)]) ∧ Ext w w' := by
  have HN := hide (fun Wd (E : Ext w Wd) => listOk_c v C nc dc cls A n d l Wd (hcl.ext E) (h.ext E))
  have E0 : Hid (Ext w (w.alloc (.cells #[.int .i64 v, .slice C nc dc] 38))) := hide ((Ext.refl w).alloc _)
  unfold learnedP
  cases hn : lstOk v cls l
  · rw [hn] at HN; clear hn
    simp only [Bool.false_eq_true, if_false]
    go_enter Tryd.func15, Tryd.ntmps15
    go_wp2_with fail
    refine (HN.out _ E0.out).mono ?_
    rintro e1 w1 ⟨rfl, he1⟩
    go_wp2_with fail
    go_ret2
    exact ⟨rfl, E0.out.trans he1⟩
  rw [hn] at HN
  obtain ⟨hl, hc⟩ := lst_facts hn
  have hln := h.len
  have hn60 : n ≤ 60 := by omega
  simp only [if_true]
  obtain ⟨T, hTT⟩ : ∃ T, T = learnedL l := ⟨_, rfl⟩
  rw [← hTT]
  obtain ⟨ws, hws⟩ : ∃ ws, ws = l.map clauseL := ⟨_, rfl⟩
  have HT : Hid (T = Lib.join ws [59, 32]) := hide (by rw [hTT, hws]; rfl)
  have HLe := hide (join_len [59, 32] (clauses_len hc))
  rw [← hws] at HLe
  have HLm : Hid (ws.length = n) := hide (by rw [hws, List.length_map]; omega)
  have HWs := hide hws
  have HC := hide hc
  have HCt := hide (fun (X : Option Addr) (y z : Nat) (c : List Int) (W : World) (hi : Ints W X y c) (E : Ext w W) (h1 : c.length ≤ 12) (h2 : ∀ x ∈ c, -12 ≤ x ∧ x ≤ 12) => clauseText_c X y z c W hi (ht.ext E) h1 h2)
  clear hn hl hc hln hTT hws
  go_enter Tryd.func15, Tryd.ntmps15
  go_wp2_with fail
  refine (HN.out _ E0.out).mono ?_
  rintro e1 w1 ⟨rfl, he1⟩
  have ew1 := hide (E0.out.trans he1)
  clear he1
  go_wp2_with fail
  refine wp_loopF 27 _ rfl rfl [13, 14, 25, 26] rfl (fun fr wr => Ext w1 wr ∧ ∃ (i d2 : Nat) (A2 : Option Addr), i ≤ n ∧ (fr 15) = .int .i64 i ∧ (fr 6) = .slice A2 i d2 ∧ Hid (Own wr w1.heap.size 9 1 A2 i d2 ((ws.take i).map strV))) (fun fr wr => n - (intOf (fr 15)).toNat) ?_ ?_
  · (exact ⟨Ext.refl _, 0, 0, _, by omega, rfl, rfl, hide (Own.nil _ _ _ _)⟩)
  intro ks fr wr hkept hrel; (try dsimp only at hrel)
  change Code.wp _ _ _ ⟨#[fr 0, fr 1, fr 2, fr 3, fr 4, fr 5, fr 6, fr 7, fr 8, fr 9, fr 10, fr 11, fr 12, ks 13, ks 14, fr 15, fr 16, fr 17, fr 18, fr 19, fr 20, fr 21, fr 22, fr 23, fr 24, ks 25, ks 26], []⟩ wr
  simp only [KeptV, List.getD_cons_zero, List.getD_cons_succ] at hkept; obtain ⟨hk13, hk14, hk25, hk26, -⟩ := hkept
  generalize ks 13 = k13 at hk13 ⊢; subst hk13
  generalize ks 14 = k14 at hk14 ⊢; subst hk14
  generalize ks 25 = k25 at hk25 ⊢; subst hk25
  generalize ks 26 = k26 at hk26 ⊢; subst hk26
  generalize fr 6 = s6 at hrel ⊢
  generalize fr 15 = s15 at hrel ⊢
  obtain ⟨he, i, d2, A2, hi, hs1, hs2, hO⟩ := hrel
  subst hs1
  subst hs2
  have HE := hide he
  have ewr := hide (ew1.out.trans he)
  by_cases hlt : i < n
  · obtain ⟨ad, xs, X, y, z, rfl, hx, gx, hin⟩ := (h.ext ewr.out).at_ hlt
    obtain ⟨hq1, hq2⟩ := HC.out xs (List.mem_of_getElem? hx.out)
    have HX := hide (HCt.out X y z xs wr hin ewr.out hq1 hq2)
    have hwx : ws[i]? = some (clauseL xs) := by rw [HWs.out, List.getElem?_map, hx.out]; rfl
    have HW2 := hide (take_succ_of (hide hwx))
    clear hx hwx he hq1 hq2 hin
    go_wp2_with fail
    refine HX.out.mono ?_
    rintro e w3 ⟨rfl, he3⟩
    have ho3 := hO.out.ext he3
    have HE3 := hide (HE.out.trans he3)
    have hz3 := HE3.out.size
    clear hO he3
    go_wp2_with (at_builtin; refine wpList_app rfl _ _ _ _ rfl Tryd.underlying48 _ 1 16 info_string rfl (by decide) rfl ho3 1 [.string _] (by first | rfl | simp [go_sem]) rfl ?_ ?_ ?_ ?_ ?_; (intro u hu; simp at hu; first | (subst hu; rfl) | (rcases hu with rfl | rfl <;> rfl) | (rcases hu with rfl | rfl | rfl <;> rfl) | (rcases hu with rfl | rfl | rfl | rfl <;> rfl) | (rcases hu with rfl | rfl | rfl | rfl | rfl <;> rfl) | (rcases hu with rfl | rfl | rfl | rfl | rfl | rfl <;> rfl)); omega; omega; (first | omega | (simp; omega)); intro A' c' w' ho' hg' hb')
    have hE4 := hide (HE3.out.trans_own (Nat.le_refl _) ho3 hg')
    have HO4 : Hid (Own w' w1.heap.size 9 1 A' (i + 1) c' ((ws.take (i + 1)).map strV)) := hide (by
      rw [HW2.out, List.map_append]; exact ho')
    clear ho3 ho' hg' hb'
    exact ⟨⟨(by (repeat (first | exact trivial | refine ⟨rfl, ?_⟩))), hE4.out, i + 1, c', A', by omega, by go_num, rfl, HO4⟩, (by simp [intOf] <;> omega)⟩
  · obtain rfl : i = n := by omega
    have hO2 := hO.out
    rw [List.take_of_length_le (by rw [HLm.out]; exact Nat.le_refl _)] at hO2
    have hle := HLe.out
    rw [HLm.out] at hle
    simp only [List.length_cons, List.length_nil] at hle
    by_cases hi0 : i = 0
    · have hwn : ws = [] := List.eq_nil_of_length_eq_zero (by rw [HLm.out]; exact hi0)
      have HTe : Hid (T = []) := hide (by rw [HT.out, hwn]; rfl)
      subst hi0
      have HJ := hide (fun W => Tryd.strings_Join_none A2 d2 ⟨#[59, 32]⟩ W)
      clear hO hO2 hle he hwn
      go_wp2_with fail
      refine (HJ.out _).mono ?_
      rintro e w2 ⟨rfl, rfl⟩
      go_wp2_with fail
      go_ret2
      exact ⟨by rw [HTe.out]; rfl, ewr.out⟩
    · obtain ⟨gW, rfl, -, -⟩ := hO2.form (by omega)
      have HJ := hide (Join_c gW d2 ws [59, 32] w1.heap.size wr (by rw [HLm.out]; exact hO2) (by rw [HLm.out]; omega) (by omega))
      rw [HLm.out, ← HT.out] at HJ
      clear hO hO2 hle he
      go_wp2_with fail
      refine HJ.out.mono ?_
      rintro e w2 ⟨rfl, he2⟩
      go_wp2_with fail
      go_ret2
      exact ⟨rfl, ewr.out.trans he2⟩
end Go.Proofs.YtaigjmbhgpcalaaDoor
