/-
  The program reads a list of clauses, where the library's variables lie in memory; no condition.
-/
import Derived.Test.YtjlnlicojcfpiaaDoorT13
import Derived.Test.YtjlnlicojcfpiaaDoorT15
namespace Go.Proofs.YtjlnlicojcfpiaaDoor
set_option linter.unusedSimpArgs false
set_option linter.unusedVariables false
open Go.RowKit
set_option maxRecDepth 100000 in
set_option maxHeartbeats 8000000 in
theorem impl_ParseLearned_o (v : Int) (C : Option Addr) (nc dc : Nat) (cls : List (List Int)) (s : List UInt8) (w : World) (hcl : Intss w C nc cls) (hs : s.length ≤ 1048576) (ht : Env w) :
    Calls Tryd.prog 7 #[.agg #[.int .i64 v, .slice C nc dc], .string ⟨s.toArray⟩] w fun e w' =>
      ∃ A' n' c', e = .returned (.tuple #[.slice A' n' c', .bool (plOf v cls s).isSome]) ∧ ObR 38 3 w' w.heap.size w'.heap.size A' n' c' ((plOf v cls s).getD []) ∧ Ext w w' := by
  obtain ⟨N, hN⟩ : ∃ N, N = plOf v cls s := ⟨_, rfl⟩
  rw [← hN]
  have HG := hide (fun Wd (E : Ext w Wd) => IsCnf_c v C nc dc cls Wd (hcl.ext E))
  have EB : Hid (Ext w (w.alloc (.cells #[.int .i64 v, .slice C nc dc] 28))) := hide ((Ext.refl w).alloc _)
  have BB : Hid (BoxAt (w.alloc (.cells #[.int .i64 v, .slice C nc dc] 28)) w.heap.size 28 #[.int .i64 v, .slice C nc dc]) := hide (BoxAt.made w _ _)
  have ZB : Hid ((w.alloc (.cells #[.int .i64 v, .slice C nc dc] 28)).heap.size = w.heap.size + 1) := hide (by simp)
  have HR0 := hide (fun (Wd : World) => (⟨⟨[], OwnRows.nil⟩, by decide⟩ : ObR 38 3 Wd w.heap.size Wd.heap.size none 0 0 []))
  obtain ⟨wb, hwb⟩ : ∃ wb, wb = w.alloc (.cells #[.int .i64 v, .slice C nc dc] 28) := ⟨_, rfl⟩
  have HWB := hide hwb
  rw [← hwb] at EB BB ZB
  cases hg : cnfOk v cls
  · have HN0 : Hid (N = none) := hide (by rw [hN]; unfold plOf; rw [hg]; rfl)
    rw [hg] at HG
    clear hg hN hwb
    go_enter Tryd.func7, Tryd.ntmps7
    go_wp2_with fail
    rw [← HWB.out]
    refine (HG.out _ EB.out).mono ?_
    rintro e w1 ⟨rfl, he1⟩
    go_wp2_with fail
    go_ret2
    exact ⟨_, _, _, by rw [HN0.out]; rfl, by rw [HN0.out]; exact HR0.out _, EB.out.trans he1⟩
  rw [hg] at HG
  have hNl : N = listOf v s := by rw [hN]; unfold plOf; rw [hg, if_pos rfl]
  clear hg hN
  have HN := hide hNl
  clear hNl
  have HSp := hide (fun W (E : Ext w W) => Split_c s 59 [32] W hs (ht.ext E))
  obtain ⟨ws, hws⟩ : ∃ ws, ws = Lib.split s [59, 32] := ⟨_, rfl⟩
  have HP := parts_split s
  have hwl : ∀ p ∈ ws, p.length ≤ 1048576 := fun p hp => by
    rw [hws] at hp
    exact Nat.le_trans (splitK_small [59, 32] _ s p hp) hs
  have hj : Lib.join ws [59, 32] = s := by rw [hws]; exact join_splitK [59, 32] _ s
  have hne : ws ≠ [] := by rw [hws]; exact splitK_ne [59, 32] _ s
  rw [← hws] at HSp HP
  have HPo := hide HP
  have HWl := hide hwl
  have HJ := hide hj
  have HNn := hide hne
  have HC := hide (fun (t : List UInt8) (h : t.length ≤ 1048576) W (E : Ext w W) => ParseClause_c v t W h (ht.ext E))
  clear hws HP hwl hj hne hwb
  go_enter Tryd.func7, Tryd.ntmps7
  go_wp2_with fail
  rw [← HWB.out]
  refine (HG.out _ EB.out).mono ?_
  rintro e w1 ⟨rfl, he1⟩
  have EW1 := hide he1
  clear he1
  go_wp2_with fail
  refine (HSp.out _ (EB.out.trans EW1.out)).mono ?_
  rintro e w2 ⟨g, m, rfl, hmb, ho1, he1⟩
  have hml := ho1.len
  rw [List.length_map, Nat.mul_one] at hml
  have HML := hide hml
  have HOw := hide ho1
  have EW2 := hide (EW1.out.trans he1)
  obtain ⟨bs, hbs⟩ : ∃ bs, bs = w1.heap.size := ⟨_, rfl⟩
  rw [← hbs] at HOw
  clear ho1 he1 hml hbs
  go_wp2_with fail
  refine wp_loopF 41 _ rfl rfl [1, 2, 15, 16, 37, 38, 39, 40] rfl (fun fr wr => Ext wb wr ∧ ∃ (i d : Nat) (A2 : Option Addr) (out : List (List Int)) (us : List Value), i ≤ m ∧ (fr 17) = .int .i64 i ∧ (fr 6) = .slice A2 i d ∧ Hid (OwnRows wr (w.heap.size + 1) wr.heap.size 38 3 A2 i d out us) ∧ Hid (Own wr bs 9 1 (some ⟨g, 0, none⟩) m m (ws.map strW)) ∧ Hid (ws.take i = out.map clauseL) ∧ Hid (∀ c ∈ out, clauseOk v c = true)) (fun fr wr => m - (intOf (fr 17)).toNat) ?_ ?_
  · (exact ⟨EW2.out, 0, 0, _, [], [], by omega, rfl, rfl, hide OwnRows.nil, HOw, hide rfl, hide (fun c hc => by cases hc)⟩)
  intro ks fr wr hkept hrel; (try dsimp only at hrel)
  change Code.wp _ _ _ ⟨#[fr 0, ks 1, ks 2, fr 3, fr 4, fr 5, fr 6, fr 7, fr 8, fr 9, fr 10, fr 11, fr 12, fr 13, fr 14, ks 15, ks 16, fr 17, fr 18, fr 19, fr 20, fr 21, fr 22, fr 23, fr 24, fr 25, fr 26, fr 27, fr 28, fr 29, fr 30, fr 31, fr 32, fr 33, fr 34, fr 35, fr 36, ks 37, ks 38, ks 39, ks 40], []⟩ wr
  simp only [KeptV, List.getD_cons_zero, List.getD_cons_succ] at hkept; obtain ⟨hk1, hk2, hk15, hk16, hk37, hk38, hk39, hk40, -⟩ := hkept
  generalize ks 1 = k1 at hk1 ⊢; subst hk1
  generalize ks 2 = k2 at hk2 ⊢; subst hk2
  generalize ks 15 = k15 at hk15 ⊢; subst hk15
  generalize ks 16 = k16 at hk16 ⊢; subst hk16
  generalize ks 37 = k37 at hk37 ⊢; subst hk37
  generalize ks 38 = k38 at hk38 ⊢; subst hk38
  generalize ks 39 = k39 at hk39 ⊢; subst hk39
  generalize ks 40 = k40 at hk40 ⊢; subst hk40
  generalize fr 6 = s6 at hrel ⊢
  generalize fr 17 = s17 at hrel ⊢
  obtain ⟨he, i, d, A2, out, us, hi, hs1, hs2, hO, hW, hT, hK⟩ := hrel
  subst hs1
  subst hs2
  have HE := hide he
  have bv := (BB.out.ext he).cell 0 (.int .i64 v) rfl
  clear he
  by_cases hlt : i < m
  · obtain ⟨t, htt⟩ : ∃ t, ws[i]? = some t := ⟨ws[i]'(by rw [HML.out]; exact hlt), List.getElem?_eq_getElem _⟩
    have gc := hW.out.cell (str_get htt)
    have HTt := hide htt
    have HCt := hide (HC.out t (HWl.out t (List.mem_of_getElem? htt)) wr (EB.out.trans HE.out))
    clear htt
    cases hno : clauseOf v t with
    | none =>
      have HNo := hide hno
      rw [hno] at HCt
      simp only [Option.getD_none, Option.isSome_none] at HCt
      clear hno
      by_cases hn : s = []
      · subst hn
        have HN0 : Hid (N = some []) := hide (by rw [HN.out, listOf_nil])
        go_wp2_with fail
        refine HCt.out.mono ?_
        rintro e w3 ⟨X3, n3, d3, rfl, -, he3⟩
        have HE3 := hide (EB.out.trans (HE.out.trans he3))
        clear he3
        go_wp2_with fail
        go_ret2
        exact ⟨_, _, _, by rw [HN0.out]; rfl, by rw [HN0.out]; exact HR0.out _, HE3.out⟩
      · have HN0 : Hid (N = none) := hide (by rw [HN.out]; exact HPo.out.no_part hn HTt.out HNo.out)
        have hnb : (s == []) = false := by simpa using hn
        have hnb2 : s.isEmpty = false := by simpa using hn
        clear hn
        go_wp2_with fail
        refine HCt.out.mono ?_
        rintro e w3 ⟨X3, n3, d3, rfl, -, he3⟩
        have HE3 := hide (EB.out.trans (HE.out.trans he3))
        clear he3
        go_wp2_with fail
        go_ret2
        exact ⟨_, _, _, by rw [HN0.out]; rfl, by rw [HN0.out]; exact HR0.out _, HE3.out⟩
    | some x =>
      have hx := clauseOf_some hno
      have HX := hide (map_clause_succ hT.out HTt.out hx.2)
      have HK := hide (all_snoc hK.out hx.1)
      have hxl : x.length ≤ 12 := by have := clause_facts hx.1; omega
      rw [hno] at HCt
      simp only [Option.getD_some, Option.isSome_some] at HCt
      clear hno hx
      go_wp2_with fail
      refine HCt.out.mono ?_
      rintro e w3 ⟨X3, n3, d3, rfl, ho3, he3⟩
      have HE3 := hide (HE.out.trans he3)
      have hz0 := HE.out.size
      have hz1 := ZB.out
      have hz3 := he3.size
      have how := hO.out.outer.ext he3
      have HW3 := hide (hW.out.ext he3)
      have hor := hO.out.ext he3
      clear he3 gc hO hW bv
      go_wp2_with (at_builtin; refine wpList_app rfl _ _ _ _ rfl Tryd.underlying22 _ 1 24 info_ints rfl (by decide) rfl how 1 [.slice X3 n3 d3] (by first | rfl | simp [go_sem]) rfl ?_ ?_ ?_ ?_ ?_; (intro u hu; simp at hu; first | (subst hu; rfl) | (rcases hu with rfl | rfl <;> rfl) | (rcases hu with rfl | rfl | rfl <;> rfl) | (rcases hu with rfl | rfl | rfl | rfl <;> rfl) | (rcases hu with rfl | rfl | rfl | rfl | rfl <;> rfl) | (rcases hu with rfl | rfl | rfl | rfl | rfl | rfl <;> rfl)); omega; omega; (first | omega | (simp; omega)); intro A' c' w' ho' hg' hb')
      have hgs := hg'.size
      have horz := hor.push (by decide) (by omega) hz3 hgs (RowV.own ho3 (by omega)) ho' hg'
      have HOZ := hide horz
      have HW4 := hide (HW3.out.kept hg' (HW3.out.ne_type how (by decide)))
      have hE4 := hide (HE3.out.trans_own (by omega) how hg')
      clear horz hor ho3 how hg' ho' hb'
      exact ⟨⟨(by (repeat (first | exact trivial | refine ⟨rfl, ?_⟩))), hE4.out, i + 1, c', A', out ++ [x], us ++ [.slice X3 n3 d3], by omega, by go_num, rfl, HOZ, HW4, HX, HK⟩, (by simp [intOf] <;> omega)⟩
  · obtain rfl : i = m := by omega
    have EWr := hide (EB.out.trans HE.out)
    have hTm : ws = out.map clauseL := by rw [← hT.out, List.take_of_length_le (by rw [HML.out]; exact Nat.le_refl _)]
    have hon : out ≠ [] := fun e => HNn.out (by rw [hTm, e]; rfl)
    have htx : learnedL out = s := by unfold learnedL; rw [← hTm, HJ.out]
    have hsn : s ≠ [] := fun e => by
      rw [e] at htx
      exact join_ne [59, 32] (clauses_ne out) (by simpa using hon) htx
    have hlo : out.length = i := hO.out.len.symm
    by_cases h60 : (60 : Int) < (i : Int)
    · have HN0 : Hid (N = none) := hide (by rw [HN.out]; exact HPo.out.no_len hsn (by rw [HML.out]; omega))
      clear hTm hon htx hsn hlo
      go_wp2_with fail
      go_ret2
      exact ⟨_, _, _, by rw [HN0.out]; rfl, by rw [HN0.out]; exact HR0.out _, EWr.out⟩
    · have HN0 : Hid (N = some out) := hide (by rw [HN.out]; exact listOf_yes hon (by omega) hK.out htx)
      have HOb : Hid (ObR 38 3 wr w.heap.size wr.heap.size A2 i d out) := hide ⟨⟨us, hO.out.lower (by omega)⟩, rows_small hK.out (by omega)⟩
      clear hTm hon htx hsn hlo
      go_wp2_with fail
      go_ret2
      exact ⟨_, _, _, by rw [HN0.out]; rfl, by rw [HN0.out]; exact HOb.out, EWr.out⟩
end Go.Proofs.YtjlnlicojcfpiaaDoor
