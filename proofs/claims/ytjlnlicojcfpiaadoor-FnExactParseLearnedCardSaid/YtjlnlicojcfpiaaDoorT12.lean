/-
  The reference reads a clause; no condition.
-/
import Derived.Test.YtjlnlicojcfpiaaDoorT11
namespace Go.Proofs.YtjlnlicojcfpiaaDoor
set_option linter.unusedSimpArgs false
set_option linter.unusedVariables false
open Go.RowKit
theorem str_get {ws : List (List UInt8)} {i : Nat} {t : List UInt8} (h : ws[i]? = some t) : (ws.map strW)[i]? = some (.string ⟨t.toArray⟩) := by rw [List.getElem?_map, h]; rfl
theorem clauseOf_small {v : Int} {s : List UInt8} : ((clauseOf v s).getD []).length ≤ 12 := by
  cases h : clauseOf v s with
  | none => simp
  | some c =>
    have := clause_facts (clauseOf_some h).1
    simp only [Option.getD_some]; omega
theorem cut_small (b : UInt8) : ∀ (s : List UInt8), ∀ p ∈ cutB b s, p.length ≤ s.length
  | [], p, h => by simp [cutB] at h; subst h; simp
  | c :: r, p, h => by
    have ih := cut_small b r
    simp only [cutB] at h
    split at h
    · rcases List.mem_cons.1 h with rfl | h
      · simp
      · have := ih p h; simp only [List.length_cons]; omega
    · split at h
      · simp only [List.mem_singleton] at h; subst h; simp
      · rename_i q qs he
        rw [he] at ih
        rcases List.mem_cons.1 h with rfl | h
        · have := ih q (by simp); simp only [List.length_cons]; omega
        · have := ih p (by simp [h]); simp only [List.length_cons]; omega
theorem map_take_succ {ws : List (List UInt8)} {out : List Int} {i : Nat} {t : List UInt8} {x : Int} (h : ws.take i = out.map Lib.itoa) (ht : ws[i]? = some t) (hx : Lib.itoa x = t) : ws.take (i + 1) = (out ++ [x]).map Lib.itoa := by
  rw [take_succ_of (hide ht), h, List.map_append, ← hx]; rfl
set_option maxRecDepth 100000 in
set_option maxHeartbeats 6400000 in
theorem l2Parse_c (v : Int) (s : List UInt8) (w : World) (hs : s.length ≤ 1048576) :
    Calls Tryd.prog 16 #[.int .i64 v, .string ⟨s.toArray⟩] w fun e w' => ∃ A n c, e = .returned (.tuple #[.slice A n c, .bool (clauseOf v s).isSome]) ∧ Own w' w.heap.size 3 1 A n c (((clauseOf v s).getD []).map (Value.int .i64)) ∧ Ext w w' := by
  obtain ⟨N, hN⟩ : ∃ N, N = clauseOf v s := ⟨_, rfl⟩
  rw [← hN]
  have HN := hide hN
  clear hN
  have O0 : Hid (Own (w.alloc (.cells #[] 3)) w.heap.size 3 1 (some ⟨w.heap.size, 0, none⟩) 0 0 []) := hide (Own.arr #[] 0 [] (Nat.le_refl _) (by decide) rfl rfl)
  have E0 : Hid (Ext w (w.alloc (.cells #[] 3))) := hide ((Ext.refl w).alloc _)
  by_cases hn : s = [110, 111, 110, 101]
  · subst hn
    have HV := hide (fun W => l2Vars_c v W)
    cases hw : within v 0 12
    · have HN0 : Hid (N = none) := hide (by rw [HN.out, clauseOf_none_no hw])
      rw [hw] at HV
      clear hw
      go_enter Tryd.func16, Tryd.ntmps16
      go_wp2_with fail
      refine (HV.out _).mono ?_
      rintro e w1 ⟨rfl, rfl⟩
      go_wp2_with fail
      go_ret2
      exact ⟨_, _, _, by rw [HN0.out]; rfl, by rw [HN0.out]; exact O0.out, E0.out⟩
    · have HN0 : Hid (N = some []) := hide (by rw [HN.out, clauseOf_none_yes hw])
      rw [hw] at HV
      clear hw
      go_enter Tryd.func16, Tryd.ntmps16
      go_wp2_with fail
      refine (HV.out _).mono ?_
      rintro e w1 ⟨rfl, rfl⟩
      go_wp2_with fail
      go_ret2
      exact ⟨_, _, _, by rw [HN0.out]; rfl, by rw [HN0.out]; exact O0.out, E0.out⟩
  have hnb : (s == [110, 111, 110, 101]) = false := by simpa using hn
  have HNE := hide hn
  clear hn
  have HSp := hide (fun W => l1Split_c s 32 W hs)
  obtain ⟨ws, hws⟩ : ∃ ws, ws = cutB 32 s := ⟨_, rfl⟩
  have hwl := cut_count 32 s
  have hwn := cut_ne 32 s
  have HW := words_cut s
  rw [← hws] at HSp hwl hwn HW
  have HWo := hide HW
  have hw0 : 0 < ws.length := by cases ws with | nil => exact absurd rfl hwn | cons a b => simp
  have HR := hide (fun (t : List UInt8) (ht : t.length ≤ 1048576) W => l1Read_c t W ht)
  have HWl := hide (show ∀ p ∈ ws, p.length ≤ 1048576 from fun p hp => by rw [hws] at hp; exact Nat.le_trans (cut_small 32 s p hp) hs)
  clear hws HW hwn
  go_enter Tryd.func16, Tryd.ntmps16
  go_wp2_with fail
  refine (HSp.out _).mono ?_
  rintro e w1 ⟨A1, m, dW, rfl, ho1, he1⟩
  have hml := ho1.len
  rw [List.length_map, Nat.mul_one] at hml
  have hm0 : 0 < m := by omega
  obtain ⟨g, rfl, -, -⟩ := ho1.form hm0
  have HO1 := hide ho1
  have HE1 := hide (E0.out.trans he1)
  have HOo := hide (O0.out.ext he1)
  have HML := hide hml
  have hmb : m ≤ 1048577 := by omega
  clear ho1 he1 hml hw0 hwl
  go_wp2_with fail
  refine wp_loopF 61 _ rfl rfl [0, 1, 3, 7, 44, 45, 46, 47, 48, 49, 50, 51, 52, 53, 54, 55, 56, 57, 58, 59, 60] rfl (fun fr wr => Ext w wr ∧ ∃ (i d : Nat) (A2 : Option Addr) (out : List Int), i ≤ m ∧ i ≤ 13 ∧ (fr 8) = .int .i64 i ∧ (fr 6) = .slice A2 i d ∧ Hid (Own wr w.heap.size 3 1 A2 i d (out.map (Value.int .i64))) ∧ Hid (Own wr (w.heap.size + 1) 9 1 (some ⟨g, 0, none⟩) m dW (ws.map strW)) ∧ Hid (ws.take i = out.map Lib.itoa)) (fun fr wr => m - (intOf (fr 8)).toNat) ?_ ?_
  · (exact ⟨HE1.out, 0, 0, _, [], by omega, by omega, rfl, rfl, HOo, hide (by have h := HO1.out; simpa using h), hide rfl⟩)
  intro ks fr wr hkept hrel; (try dsimp only at hrel)
  change Code.wp _ _ _ ⟨#[ks 0, ks 1, fr 2, ks 3, fr 4, fr 5, fr 6, ks 7, fr 8, fr 9, fr 10, fr 11, fr 12, fr 13, fr 14, fr 15, fr 16, fr 17, fr 18, fr 19, fr 20, fr 21, fr 22, fr 23, fr 24, fr 25, fr 26, fr 27, fr 28, fr 29, fr 30, fr 31, fr 32, fr 33, fr 34, fr 35, fr 36, fr 37, fr 38, fr 39, fr 40, fr 41, fr 42, fr 43, ks 44, ks 45, ks 46, ks 47, ks 48, ks 49, ks 50, ks 51, ks 52, ks 53, ks 54, ks 55, ks 56, ks 57, ks 58, ks 59, ks 60], []⟩ wr
  simp only [KeptV, List.getD_cons_zero, List.getD_cons_succ] at hkept; obtain ⟨hk0, hk1, hk3, hk7, hk44, hk45, hk46, hk47, hk48, hk49, hk50, hk51, hk52, hk53, hk54, hk55, hk56, hk57, hk58, hk59, hk60, -⟩ := hkept
  generalize ks 0 = k0 at hk0 ⊢; subst hk0
  generalize ks 1 = k1 at hk1 ⊢; subst hk1
  generalize ks 3 = k3 at hk3 ⊢; subst hk3
  generalize ks 7 = k7 at hk7 ⊢; subst hk7
  generalize ks 44 = k44 at hk44 ⊢; subst hk44
  generalize ks 45 = k45 at hk45 ⊢; subst hk45
  generalize ks 46 = k46 at hk46 ⊢; subst hk46
  generalize ks 47 = k47 at hk47 ⊢; subst hk47
  generalize ks 48 = k48 at hk48 ⊢; subst hk48
  generalize ks 49 = k49 at hk49 ⊢; subst hk49
  generalize ks 50 = k50 at hk50 ⊢; subst hk50
  generalize ks 51 = k51 at hk51 ⊢; subst hk51
  generalize ks 52 = k52 at hk52 ⊢; subst hk52
  generalize ks 53 = k53 at hk53 ⊢; subst hk53
  generalize ks 54 = k54 at hk54 ⊢; subst hk54
  generalize ks 55 = k55 at hk55 ⊢; subst hk55
  generalize ks 56 = k56 at hk56 ⊢; subst hk56
  generalize ks 57 = k57 at hk57 ⊢; subst hk57
  generalize ks 58 = k58 at hk58 ⊢; subst hk58
  generalize ks 59 = k59 at hk59 ⊢; subst hk59
  generalize ks 60 = k60 at hk60 ⊢; subst hk60
  generalize fr 6 = s6 at hrel ⊢
  generalize fr 8 = s8 at hrel ⊢
  obtain ⟨he, i, d, A2, out, hi, hi13, hs1, hs2, hO, hW, hT⟩ := hrel
  subst hs1
  subst hs2
  have HE := hide he
  clear he
  by_cases hlt : i < m
  · by_cases h12 : (i : Int) ≤ 12
    · obtain ⟨t, ht⟩ : ∃ t, ws[i]? = some t := ⟨ws[i]'(by rw [HML.out]; exact hlt), List.getElem?_eq_getElem _⟩
      have gc := hW.out.cell (str_get ht)
      have HRt := hide (HR.out t (HWl.out t (List.mem_of_getElem? ht)) wr)
      have HTt := hide ht
      clear ht
      cases hno : numOf t with
      | none =>
        have HN0 : Hid (N = none) := hide (by rw [HN.out]; exact HWo.out.no_word HNE.out HTt.out hno)
        rw [hno] at HRt
        simp only [Option.getD_none, Option.isSome_none] at HRt
        clear hno
        go_wp2_with fail
        refine HRt.out.mono ?_
        rintro e w3 ⟨rfl, he3⟩
        have HE3 := hide (HE.out.trans he3)
        have hz3 := HE3.out.size
        have O3 : Hid (Own (w3.alloc (.cells #[] 3)) w.heap.size 3 1 (some ⟨w3.heap.size, 0, none⟩) 0 0 []) := hide (Own.arr #[] 0 [] hz3 (by decide) rfl rfl)
        clear he3 gc
        go_wp2_with fail
        go_ret2
        exact ⟨_, _, _, by rw [HN0.out]; rfl, by rw [HN0.out]; exact O3.out, HE3.out.alloc _⟩
      | some x =>
        have HX := hide (map_take_succ hT.out HTt.out (numOf_some hno).2)
        rw [hno] at HRt
        simp only [Option.getD_some, Option.isSome_some] at HRt
        clear hno
        go_wp2_with fail
        refine HRt.out.mono ?_
        rintro e w3 ⟨rfl, he3⟩
        have HE3 := hide (HE.out.trans he3)
        have hz3 := HE3.out.size
        have ho := hO.out.ext he3
        have HW3 := hide (hW.out.ext he3)
        clear he3 gc hO hW
        go_wp2_with (at_builtin; refine wpList_app rfl _ _ _ _ rfl Tryd.underlying38 _ 1 8 info_int rfl (by decide) rfl ho 1 [.int .i64 _] (by first | rfl | simp [go_sem]) rfl ?_ ?_ ?_ ?_ ?_; (intro u hu; simp at hu; first | (subst hu; rfl) | (rcases hu with rfl | rfl <;> rfl) | (rcases hu with rfl | rfl | rfl <;> rfl) | (rcases hu with rfl | rfl | rfl | rfl <;> rfl) | (rcases hu with rfl | rfl | rfl | rfl | rfl <;> rfl) | (rcases hu with rfl | rfl | rfl | rfl | rfl | rfl <;> rfl)); omega; omega; (first | omega | (simp; omega)); intro A' c' w' ho' hg' hb')
        have HW4 := hide (HW3.out.kept hg' (HW3.out.ne_type ho (by decide)))
        have hE4 := hide (HE3.out.trans_own (Nat.le_refl _) ho hg')
        have HO4 : Hid (Own w' w.heap.size 3 1 A' (i + 1) c' ((out ++ [x]).map (Value.int .i64))) := hide (by rw [List.map_append]; exact ho')
        clear ho ho' hg' hb'
        exact ⟨⟨(by (repeat (first | exact trivial | refine ⟨rfl, ?_⟩))), hE4.out, i + 1, c', A', _, by omega, by omega, by go_num, rfl, HO4, HW4, HX⟩, (by simp [intOf] <;> omega)⟩
    · have HN0 : Hid (N = none) := hide (by rw [HN.out]; exact HWo.out.no_len HNE.out (by rw [HML.out]; omega))
      have hm12 : (12 : Int) < (m : Int) := by omega
      have hz3 := HE.out.size
      have O3 : Hid (Own (wr.alloc (.cells #[] 3)) w.heap.size 3 1 (some ⟨wr.heap.size, 0, none⟩) 0 0 []) := hide (Own.arr #[] 0 [] hz3 (by decide) rfl rfl)
      go_wp2_with fail
      go_ret2
      exact ⟨_, _, _, by rw [HN0.out]; rfl, by rw [HN0.out]; exact O3.out, HE.out.alloc _⟩
  · obtain rfl : i = m := by omega
    have HTm : Hid (ws = out.map Lib.itoa) := hide (by rw [← hT.out, List.take_of_length_le (by rw [HML.out]; exact Nat.le_refl _)])
    by_cases h12 : (12 : Int) < (i : Int)
    · have HN0 : Hid (N = none) := hide (by rw [HN.out]; exact HWo.out.no_len HNE.out (by rw [HML.out]; omega))
      have hz3 := HE.out.size
      have O3 : Hid (Own (wr.alloc (.cells #[] 3)) w.heap.size 3 1 (some ⟨wr.heap.size, 0, none⟩) 0 0 []) := hide (Own.arr #[] 0 [] hz3 (by decide) rfl rfl)
      go_wp2_with fail
      go_ret2
      exact ⟨_, _, _, by rw [HN0.out]; rfl, by rw [HN0.out]; exact O3.out, HE.out.alloc _⟩
    · have hin := hO.out.ints (by omega)
      have HIn := hide hin
      have HCl := hide (fun W (E : Ext wr W) => l2Clause_c v A2 i d out W (hin.ext E))
      clear hin
      cases hok : clauseOk v out
      · have HN0 : Hid (N = none) := hide (by rw [HN.out]; exact HWo.out.no_out HNE.out HTm.out hok)
        rw [hok] at HCl
        clear hok
        go_wp2_with fail
        refine (HCl.out _ (Ext.refl _)).mono ?_
        rintro e w3 ⟨rfl, he3⟩
        have HE3 := hide (HE.out.trans he3)
        have hz3 := HE3.out.size
        have O3 : Hid (Own (w3.alloc (.cells #[] 3)) w.heap.size 3 1 (some ⟨w3.heap.size, 0, none⟩) 0 0 []) := hide (Own.arr #[] 0 [] hz3 (by decide) rfl rfl)
        clear he3
        go_wp2_with fail
        go_ret2
        exact ⟨_, _, _, by rw [HN0.out]; rfl, by rw [HN0.out]; exact O3.out, HE3.out.alloc _⟩
      · rw [hok] at HCl
        have hcf := clause_facts hok
        have HTx := hide (fun W (E : Ext wr W) => l2Text_c A2 i d out W (HIn.out.ext E) (by omega) (fun x hx => by have := hcf.2.1 x hx; omega))
        by_cases htx : clauseL out = s
        · have HN0 : Hid (N = some out) := hide (by rw [HN.out]; exact clauseOf_yes hok htx)
          rw [htx] at HTx
          clear hok hcf htx
          go_wp2_with fail
          refine (HCl.out _ (Ext.refl _)).mono ?_
          rintro e w3 ⟨rfl, he3⟩
          go_wp2_with fail
          refine (HTx.out _ he3).mono ?_
          rintro e w4 ⟨rfl, he4⟩
          have HE4 := hide (he3.trans he4)
          clear he3 he4
          go_wp2_with fail
          go_ret2
          exact ⟨_, _, _, by rw [HN0.out]; rfl, by rw [HN0.out]; exact hO.out.ext HE4.out, HE.out.trans HE4.out⟩
        · have HN0 : Hid (N = none) := hide (by rw [HN.out]; exact HWo.out.no_text HNE.out HTm.out htx)
          have hta : (!(clauseL out == s)) = true := by simpa using htx
          clear hok hcf htx
          go_wp2_with fail
          refine (HCl.out _ (Ext.refl _)).mono ?_
          rintro e w3 ⟨rfl, he3⟩
          go_wp2_with fail
          refine (HTx.out _ he3).mono ?_
          rintro e w4 ⟨rfl, he4⟩
          have HE4 := hide (HE.out.trans (he3.trans he4))
          have hz4 := HE4.out.size
          have O4 : Hid (Own (w4.alloc (.cells #[] 3)) w.heap.size 3 1 (some ⟨w4.heap.size, 0, none⟩) 0 0 []) := hide (Own.arr #[] 0 [] hz4 (by decide) rfl rfl)
          clear he3 he4
          go_wp2_with fail
          go_ret2
          exact ⟨_, _, _, by rw [HN0.out]; rfl, by rw [HN0.out]; exact O4.out, HE4.out.alloc _⟩
end Go.Proofs.YtjlnlicojcfpiaaDoor
