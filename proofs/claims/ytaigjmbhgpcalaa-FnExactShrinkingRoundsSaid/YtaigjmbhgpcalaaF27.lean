/-
  The program's AllowedAssignments; no condition.
-/
import Derived.Test.YtaigjmbhgpcalaaF26
import Derived.Test.YtaigjmbhgpcalaaF19

namespace Go.Proofs.Ytaigjmbhgpcalaa
set_option linter.unusedSimpArgs false
set_option linter.unusedVariables false
open Go.RowKit
theorem allP_gen (v : Nat) (cls : List (List Int)) (W : Int) : allP v cls W = (([] : List Int) :: genR v 1 []).filter (allowB cls W) := rfl
set_option maxRecDepth 100000 in
set_option maxHeartbeats 6400000 in
theorem allowedAll_o (v : Nat) (W : Int) (C : Option Addr) (nc dc : Nat) (cls : List (List Int)) (w : World) (hcl : Intss w C nc cls) (hc : ∀ c ∈ cls, ∀ x ∈ c, -12 ≤ x ∧ x ≤ 12 ∧ x ≠ 0) (hW : 0 ≤ W ∧ W ≤ 6) (hv : v ≤ 6) :
    Calls Try.prog 29 #[.agg #[.int .i64 v, .slice C nc dc], .int .i64 W] w fun e w' =>
      ∃ A n c, e = .returned (.slice A n c) ∧ n ≤ 729 ∧ (∃ us, OwnRows w' w.heap.size w'.heap.size 35 3 A n c (allG v cls W) us) ∧ Ext w w' := by
  have E0 : Hid (Ext w (((w.alloc (.cells #[.int .i64 v, .slice C nc dc] 28)).alloc (.cells #[.int .i64 W] 3)).alloc (.cells #[.slice none 0 0] 22))) := hide ((((Ext.refl w).alloc _).alloc _).alloc _)
  have HS0 : Hid (StA w v W C nc dc (w.heap.size + 3) (((w.alloc (.cells #[.int .i64 v, .slice C nc dc] 28)).alloc (.cells #[.int .i64 W] 3)).alloc (.cells #[.slice none 0 0] 22)) []) := hide
    ⟨E0.out, ((BoxAt.made w #[.int .i64 v, .slice C nc dc] 28).ext ((Ext.refl _).alloc _)).ext ((Ext.refl _).alloc _),
      (by have h := (BoxAt.made (w.alloc (.cells #[.int .i64 v, .slice C nc dc] 28)) #[.int .i64 W] 3).ext ((Ext.refl _).alloc (.cells #[.slice none 0 0] 22)); simpa using h),
      ⟨none, 0, 0, (by have h := BoxAt.made ((w.alloc (.cells #[.int .i64 v, .slice C nc dc] 28)).alloc (.cells #[.int .i64 W] 3)) #[.slice none 0 0] 22; simpa using h), Own.nil _ _ _ _⟩, PRows.nil, by omega, by simp⟩
  have hp3 : pow3 v ≤ 729 := by
    have : v = 0 ∨ v = 1 ∨ v = 2 ∨ v = 3 ∨ v = 4 ∨ v = 5 ∨ v = 6 := by omega
    rcases this with rfl | rfl | rfl | rfl | rfl | rfl | rfl <;> decide
  have HC := hide (allClauses_c w v W C nc dc cls hcl hc hW hv v 1 none 0 [] (w.heap.size + 3) _ [] (by omega) (by omega) (by simp) (by simp; omega) HS0.out RowV.nil)
  have HND := hide (allP_nodup v cls W)
  have HBd := hide (allP_bound hv cls W)
  have HSm := hide (fun a ha => clause_small (allP_ok (v := v) (by omega) cls W a ha).1)
  clear hc hp3 HS0
  go_enter Try.func29, Try.ntmps29
  go_wp2_with fail
  refine HC.out.mono ?_
  rintro e w1 ⟨rfl, qs, hst, hqs, -⟩
  rw [List.nil_append] at hst
  obtain ⟨A, n, c, hb, ho⟩ := hst.out
  have HQ : Hid (qs.map (·.2) = allP v cls W) := hide hqs
  have hn : qs.length = n := by have := ho.len; simpa using this
  have hn7 : n ≤ 729 := by
    have h1 := congrArg List.length hqs
    rw [List.length_map] at h1
    have h2 := HBd.out
    rw [allP_gen] at h2
    omega
  have hOR := OwnRows.ofP (ho.lower (base' := w.heap.size) (by omega)) hst.rows (fun k hk => (ho.lt k hk).2)
  rw [HQ.out] at hOR
  have ew1 := hide hst.ext
  have hb0 := hb.cell 0 (.slice A n c) rfl
  have HB := hide hb
  have HN := hide hn7
  clear hst ho hqs hn HC E0
  by_cases hm0 : n = 0
  · subst hm0
    have HG : Hid (allG v cls W = []) := hide (by
      have h1 := hOR.len
      have h2 := List.eq_nil_of_length_eq_zero h1.symm
      unfold allG; rw [h2]; rfl)
    have HOR := hide hOR
    have HS := hide (fun W => SortFunc_nil A c (.func (.func 49) #[] #[]) W)
    have HG2 : Hid (allP v cls W = allG v cls W) := hide (by
      have h1 := hOR.len
      have h2 := List.eq_nil_of_length_eq_zero h1.symm
      rw [HG.out]; exact h2)
    clear hOR
    go_wp2_with fail
    refine (HS.out _).mono ?_
    rintro e w5 ⟨rfl, rfl⟩
    go_wp2_with fail
    go_ret
    exact ⟨_, _, _, rfl, HN.out, ⟨_, by rw [← HG2.out]; exact HOR.out⟩, ew1.out⟩
  · obtain ⟨g, rfl, hg1, hg2⟩ := hOR.outer.form (by omega)
    have HS := hide (SortFunc_rows _ _ g n c _ _ _ hOR HSm.out (by omega))
    have HO := hide hOR.outer
    clear hOR
    go_wp2_with fail
    refine HS.out.mono ?_
    rintro e w5 ⟨rfl, xss', us', hp, hd, ho5, hg5⟩
    have hq := sort_unique HND.out hp hd
    subst hq
    have hb5 := (HB.out.grown HO.out (by decide) hg5).cell 0 (.slice (some ⟨g, 0, none⟩) n c) rfl
    have hE := hide (ew1.out.grown hg5 (fun k hk => by injection hk with hk; omega))
    have HO5 := hide (ho5.wider hg5.size)
    clear hp hd ho5 hg5 HS
    go_wp2_with fail
    go_ret
    exact ⟨_, _, _, rfl, HN.out, ⟨_, HO5.out⟩, hE.out⟩
set_option maxRecDepth 100000 in
set_option maxHeartbeats 6400000 in
theorem cloneLists_o (A : Option Addr) (n d : Nat) (l : List (List Int)) (w : World) (h : Intss w A n l) (hn : n ≤ 1048576) (hl : ∀ x ∈ l, x.length ≤ 1048576) :
    Calls Try.prog 28 #[.slice A n d] w fun e w' =>
      ∃ A' c', e = .returned (.slice A' n c') ∧ (∃ us, OwnRows w' w.heap.size w'.heap.size 35 3 A' n c' l us) ∧ Ext w w' := by
  have HL := hide h.len
  have hb := h.bound
  have HHl := hide hl
  clear hl
  go_enter Try.func28, Try.ntmps28
  go_wp2_with fail
  refine wp_loopF 19 _ rfl rfl [6, 7, 18] rfl (fun fr wr => Ext w wr ∧ ∃ (i d2 : Nat) (A2 : Option Addr) (us : List Value), i ≤ n ∧ (fr 8) = .int .i64 i ∧ (fr 3) = .slice A2 i d2 ∧ Hid (OwnRows wr w.heap.size wr.heap.size 35 3 A2 i d2 (l.take i) us)) (fun fr wr => n - (intOf (fr 8)).toNat) ?_ ?_
  · (exact ⟨Ext.refl _, 0, _, _, [], by omega, rfl, rfl, hide OwnRows.nil⟩)
  intro ks fr wr hkept hrel; (try dsimp only at hrel)
  change Code.wp _ _ _ ⟨#[fr 0, fr 1, fr 2, fr 3, fr 4, fr 5, ks 6, ks 7, fr 8, fr 9, fr 10, fr 11, fr 12, fr 13, fr 14, fr 15, fr 16, fr 17, ks 18], []⟩ wr
  simp only [KeptV, List.getD_cons_zero, List.getD_cons_succ] at hkept; obtain ⟨hk6, hk7, hk18, -⟩ := hkept
  generalize ks 6 = k6 at hk6 ⊢; subst hk6
  generalize ks 7 = k7 at hk7 ⊢; subst hk7
  generalize ks 18 = k18 at hk18 ⊢; subst hk18
  generalize fr 3 = s3 at hrel ⊢
  generalize fr 8 = s8 at hrel ⊢
  obtain ⟨he, i, d2, A2, us, hi, hs1, hs2, hor⟩ := hrel
  subst hs1
  subst hs2
  by_cases hlt : i < n
  · obtain ⟨ad, xs, X, y, z, rfl, hx, gx, hin⟩ := (h.ext he).at_ hlt
    have hT := take_succ_of hx
    have hyl : y ≤ 1048576 := by have := hin.len; have := HHl.out xs (List.mem_of_getElem? hx.out); omega
    have HT := hide hT
    have HCx := hide (Clone_int_c X y z xs wr hin (by omega))
    clear hT hx
    go_wp2_with fail
    refine HCx.out.mono ?_
    rintro e6 w6 ⟨X6, z6, rfl, ho6, he6⟩
    have how := hor.out.outer.ext he6
    have es6 := he6.size
    have es0 := he.size
    clear HCx
    go_wp2_with (at_builtin; refine wpList_app rfl _ _ _ _ rfl Try.underlying22 _ 1 24 info_ints rfl (by decide) rfl how 1 [.slice X6 y z6] (by first | rfl | simp [go_sem]) rfl ?_ ?_ ?_ ?_ ?_; (intro u hu; simp at hu; first | (subst hu; rfl) | (rcases hu with rfl | rfl <;> rfl) | (rcases hu with rfl | rfl | rfl <;> rfl) | (rcases hu with rfl | rfl | rfl | rfl <;> rfl) | (rcases hu with rfl | rfl | rfl | rfl | rfl <;> rfl) | (rcases hu with rfl | rfl | rfl | rfl | rfl | rfl <;> rfl)); omega; omega; (first | omega | (simp; omega)); intro A' c' w' ho' hg' hb')
    have hgs := hg'.size
    have horz := (hor.out.ext he6).push (by decide) es0 (by omega) hgs ((RowV.ofOwn (ho6.lower (Nat.le_refl _)) (by omega))) ho' hg'
    rw [← HT.out] at horz
    have HOZ := hide horz
    have hE := Ext.trans_own (he.trans he6) (Nat.le_refl _) how hg'
    clear horz hor ho6 HT how hg' ho'
    exact ⟨⟨(by (repeat (first | exact trivial | refine ⟨rfl, ?_⟩))), hE, i + 1, c', A', us ++ [.slice X6 y z6], by omega, by go_num, rfl, HOZ⟩, (by simp [intOf] <;> omega)⟩
  · obtain rfl : i = n := by omega
    have hor2 := hor.out
    rw [List.take_of_length_le (by rw [← HL.out]; exact Nat.le_refl _)] at hor2
    have HOZ := hide hor2
    clear hor hor2
    go_wp2_with fail
    go_ret
    exact ⟨_, _, rfl, ⟨us, HOZ.out⟩, he⟩
set_option maxRecDepth 100000 in
set_option maxHeartbeats 6400000 in
theorem impl_AllowedAssignments_o (v W : Int) (C : Option Addr) (nc dc : Nat) (cls : List (List Int)) (w : World) (hcl : Intss w C nc cls) :
    Calls Try.prog 9 #[.agg #[.int .i64 v, .slice C nc dc], .int .i64 W] w fun e w' =>
      ∃ A' n' c', e = .returned (.tuple #[.slice A' n' c', .bool (narOk v cls W)]) ∧ ObR 35 3 w' w.heap.size w'.heap.size A' n' c' (if narOk v cls W then allG v.toNat cls W else []) ∧ Ext w w' := by
  have HN := hide (fun Wd (E : Ext w Wd) => narrowOk_c v W C nc dc cls Wd (hcl.ext E))
  have E0 : Hid (Ext w (w.alloc (.cells #[.int .i64 v, .slice C nc dc] 28))) := hide ((Ext.refl w).alloc _)
  have HR0 := hide (fun (Wd : World) => (⟨⟨[], OwnRows.nil⟩, by decide⟩ : ObR 35 3 Wd w.heap.size Wd.heap.size none 0 0 []))
  cases hn : narOk v cls W
  · rw [hn] at HN; clear hn
    simp only [Bool.false_eq_true, if_false]
    go_enter Try.func9, Try.ntmps9
    go_wp2_with fail
    refine (HN.out _ E0.out).mono ?_
    rintro e1 w1 ⟨rfl, he1⟩
    have ew1 : Hid (Ext w w1) := hide (E0.out.trans he1)
    clear he1
    go_wp2_with fail
    go_ret2
    exact ⟨_, _, _, rfl, HR0.out _, ew1.out⟩
  · rw [hn] at HN
    obtain ⟨u, rfl, hu⟩ := nar_nat hn
    obtain ⟨-, -, hWb, hc⟩ := nar_facts hn
    have HL := hide (fun Wd (E : Ext w Wd) => allowedAll_o u W C nc dc cls Wd (hcl.ext E) hc hWb hu)
    have HZ := hide (allG_size hu cls W)
    have HLe := hide (fun x hx => (clause_facts (allG_ok (cls := cls) (W := W) hu x hx).1).2.2)
    clear hn hc
    simp only [if_true, Int.toNat_natCast]
    go_enter Try.func9, Try.ntmps9
    go_wp2_with fail
    refine (HN.out _ E0.out).mono ?_
    rintro e1 w1 ⟨rfl, he1⟩
    have ew1 : Hid (Ext w w1) := hide (E0.out.trans he1)
    have bc0 := he1.cell (p := ⟨w.heap.size, 0, none⟩) (u := .int .i64 u) (by first | simp [go_sem] | simp [go_sem, *]); have bf0 := he1.frozen (p := ⟨w.heap.size, 0, none⟩) (by first | omega | (simp <;> omega)) (by first | simp [go_sem] | simp [go_sem, *]); have bc1 := he1.cell (p := ⟨w.heap.size, 1, none⟩) (u := .slice C nc dc) (by first | simp [go_sem] | simp [go_sem, *]); have bf1 := he1.frozen (p := ⟨w.heap.size, 1, none⟩) (by first | omega | (simp <;> omega)) (by first | simp [go_sem] | simp [go_sem, *])
    clear he1
    go_wp2_with fail
    refine (HL.out _ ew1.out).mono ?_
    rintro e2 w2 ⟨A2, n, c, rfl, hn, ⟨us, hor⟩, he2⟩
    have HCl := hide (cloneLists_o A2 n c _ w2 (hor.intss (by omega)) (by omega) (fun x hx => by have := HLe.out x hx; omega))
    have ew2 := hide (ew1.out.trans he2)
    clear hor
    go_wp2_with fail
    refine HCl.out.mono ?_
    rintro e3 w3 ⟨A3, c3, rfl, ⟨us3, hor3⟩, he3⟩
    have HOR := hide (hor3.lower ew2.out.size)
    clear hor3
    go_wp2_with fail
    go_ret2
    exact ⟨_, _, _, rfl, ⟨⟨us3, HOR.out⟩, HZ.out⟩, ew2.out.trans he3⟩
end Go.Proofs.Ytaigjmbhgpcalaa
