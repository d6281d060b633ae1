/-
  The reference reads a list of clauses; no condition.
-/
import Derived.Test.YtjlnlicojcfpiaaDoorT12
import Derived.Test.YtjlnlicojcfpiaaDoorO
import Derived.Test.YtjlnlicojcfpiaaDoorC10
namespace Go.Proofs.YtjlnlicojcfpiaaDoor
set_option linter.unusedSimpArgs false
set_option linter.unusedVariables false
open Go.RowKit
noncomputable def plOf (v : Int) (cls : List (List Int)) (s : List UInt8) : Option (List (List Int)) := if cnfOk v cls = true then listOf v s else none
theorem rows_bound : ∀ (l : List (List Int)), (∀ x ∈ l, x.length ≤ 12) → rowsTotal l ≤ 12 * l.length
  | [], _ => by simp [rowsTotal]
  | x :: l, h => by
    have := rows_bound l (fun y hy => h y (by simp [hy]))
    have := h x (by simp)
    simp only [rowsTotal, List.map_cons, List.sum_cons, List.length_cons] at *
    omega
theorem rows_small {v : Int} {l : List (List Int)} (h : ∀ c ∈ l, clauseOk v c = true) (hl : l.length ≤ 60) : rowsSize l ≤ 1099511627776 := by
  have h1 := rows_bound l (fun x hx => by have := clause_facts (h x hx); omega)
  unfold rowsSize
  omega
theorem clauses_small {v : Int} {l : List (List Int)} (h : ∀ c ∈ l, clauseOk v c = true) : ∀ c ∈ l, c.length ≤ 12 ∧ ∀ x ∈ c, -12 ≤ x ∧ x ≤ 12 := fun c hc => by
  have hcf := clause_facts (h c hc)
  exact ⟨by omega, fun x hx => by have := hcf.2.1 x hx; omega⟩
theorem map_clause_succ {ws : List (List UInt8)} {out : List (List Int)} {i : Nat} {t : List UInt8} {x : List Int} (h : ws.take i = out.map clauseL) (ht : ws[i]? = some t) (hx : clauseL x = t) : ws.take (i + 1) = (out ++ [x]).map clauseL := by
  rw [take_succ_of (hide ht), h, List.map_append, ← hx]; rfl
theorem all_snoc {v : Int} {out : List (List Int)} {x : List Int} (h : ∀ c ∈ out, clauseOk v c = true) (hx : clauseOk v x = true) : ∀ c ∈ out ++ [x], clauseOk v c = true := by
  intro c hc
  rcases List.mem_append.1 hc with hc | hc
  · exact h c hc
  · rw [List.mem_singleton.1 hc]; exact hx
theorem RowV.own {w : World} {lo : Nat} {ei : TypeId} {B : Option Addr} {m d : Nat} {xs : List Int} (h : Own w lo ei 1 B m d (xs.map (Value.int .i64))) (hm : xs.length ≤ 140737488355328) : RowV w lo w.heap.size ei (.slice B m d) xs := by
  have hl : m = xs.length := by have := h.len; simpa using this.symm
  subst hl
  exact ⟨B, d, rfl, h, hm, fun k hk => (h.lt k hk).2⟩
theorem strip1_no {c : UInt8} {t : List UInt8} (h : t[0]? = some c) (hc : c ≠ 32) : strip1 t = t := by
  cases t with
  | nil => cases h
  | cons d r => simp at h; subst h; simp only [strip1]; rw [if_neg hc]
theorem strip1_yes {t : List UInt8} (h : t[0]? = some 32) : strip1 t = t.drop 1 := by
  cases t with
  | nil => cases h
  | cons d r => simp at h; subst h; simp [strip1]
set_option maxRecDepth 100000 in
set_option maxHeartbeats 16000000 in
theorem spec_ParseLearned_o (v : Int) (C : Option Addr) (nc dc : Nat) (cls : List (List Int)) (s : List UInt8) (w : World) (hcl : Intss w C nc cls) (hs : s.length ≤ 1048576) :
    Calls Tryd.prog 5 #[.agg #[.int .i64 v, .slice C nc dc], .string ⟨s.toArray⟩] w fun e w' =>
      ∃ A' n' c', e = .returned (.tuple #[.slice A' n' c', .bool (plOf v cls s).isSome]) ∧ ObR 38 3 w' w.heap.size w'.heap.size A' n' c' ((plOf v cls s).getD []) ∧ Ext w w' := by
  obtain ⟨N, hN⟩ : ∃ N, N = plOf v cls s := ⟨_, rfl⟩
  rw [← hN]
  have HG := hide (fun Wd (E : Ext w Wd) => l2Good_c v C nc dc cls Wd (hcl.ext E))
  have HO0 : Hid (OwnRows ((w.alloc (.cells #[.int .i64 v, .slice C nc dc] 28)).alloc (.cells #[] 38)) (w.heap.size + 1) (w.heap.size + 1 + 1) 38 3 (some ⟨w.heap.size + 1, 0, none⟩) 0 0 [] []) := hide (by
    have := OwnRows.lit0 (eo := 38) (ei := 3) (lo := w.heap.size + 1) (w := w.alloc (.cells #[.int .i64 v, .slice C nc dc] 28)) (by simp)
    simpa using this)
  have EB : Hid (Ext w (w.alloc (.cells #[.int .i64 v, .slice C nc dc] 28))) := hide ((Ext.refl w).alloc _)
  have BB : Hid (BoxAt (w.alloc (.cells #[.int .i64 v, .slice C nc dc] 28)) w.heap.size 28 #[.int .i64 v, .slice C nc dc]) := hide (BoxAt.made w _ _)
  have ZB : Hid ((w.alloc (.cells #[.int .i64 v, .slice C nc dc] 28)).heap.size = w.heap.size + 1) := hide (by simp)
  obtain ⟨wb, hwb⟩ : ∃ wb, wb = w.alloc (.cells #[.int .i64 v, .slice C nc dc] 28) := ⟨_, rfl⟩
  have HWB := hide hwb
  rw [← hwb] at EB BB ZB HO0
  have E0 : Hid (Ext wb (wb.alloc (.cells #[] 38))) := hide ((Ext.refl wb).alloc _)
  have HR0 := hide (fun (Wd : World) (E : Ext (wb.alloc (.cells #[] 38)) Wd) =>
    (⟨⟨[], ((HO0.out.ext E).wider (by have := E.size; have := ZB.out; simp at *; omega)).lower (by omega)⟩, by decide⟩ : ObR 38 3 Wd w.heap.size Wd.heap.size (some ⟨w.heap.size + 1, 0, none⟩) 0 0 []))
  have HRN := hide (fun (Wd : World) (E : Ext w Wd) =>
    (⟨⟨[], (OwnRows.lit0 (w := Wd) (lo := w.heap.size) E.size).wider (by simp)⟩, by decide⟩ : ObR 38 3 (Wd.alloc (.cells #[] 38)) w.heap.size (Wd.alloc (.cells #[] 38)).heap.size (some ⟨Wd.heap.size, 0, none⟩) 0 0 []))
  cases hg : cnfOk v cls
  · have HN0 : Hid (N = none) := hide (by rw [hN]; unfold plOf; rw [hg]; rfl)
    rw [hg] at HG
    clear hg hN hwb
    go_enter Tryd.func5, Tryd.ntmps5
    go_wp2_with fail
    rw [← HWB.out]
    refine (HG.out _ (EB.out.trans E0.out)).mono ?_
    rintro e w1 ⟨rfl, he1⟩
    go_wp2_with fail
    go_ret2
    exact ⟨_, _, _, by rw [HN0.out]; rfl, by rw [HN0.out]; exact HR0.out _ he1, (EB.out.trans E0.out).trans he1⟩
  rw [hg] at HG
  have hNl : N = listOf v s := by rw [hN]; unfold plOf; rw [hg, if_pos rfl]
  clear hg hN
  by_cases hn : s = []
  · subst hn
    have HN0 : Hid (N = some []) := hide (by rw [hNl, listOf_nil])
    clear hNl hwb
    go_enter Tryd.func5, Tryd.ntmps5
    go_wp2_with fail
    rw [← HWB.out]
    refine (HG.out _ (EB.out.trans E0.out)).mono ?_
    rintro e w1 ⟨rfl, he1⟩
    go_wp2_with fail
    go_ret2
    exact ⟨_, _, _, by rw [HN0.out]; rfl, by rw [HN0.out]; exact HR0.out _ he1, (EB.out.trans E0.out).trans he1⟩
  have hnb : (s == []) = false := by simpa using hn
  have hnb2 : s.isEmpty = false := by simpa using hn
  have HNE := hide hn
  have HN := hide hNl
  clear hNl
  have HSp := hide (fun W => l1Split_c s 59 W hs)
  obtain ⟨ws, hws⟩ : ∃ ws, ws = cutB 59 s := ⟨_, rfl⟩
  have hwl := cut_count 59 s
  have hwn := cut_ne 59 s
  have HP := parts_strips s
  have HWl := hide (show ∀ p ∈ ws, p.length ≤ 1048576 from fun p hp => by rw [hws] at hp; exact Nat.le_trans (cut_small 59 s p hp) hs)
  rw [← hws] at HSp hwl hwn HP
  have HPo := hide HP
  have hw0 : 0 < ws.length := by cases ws with | nil => exact absurd rfl hwn | cons a b => simp
  have HSL := hide (strips_len ws)
  have HC := hide (fun (t : List UInt8) (ht : t.length ≤ 1048576) W => l2Parse_c v t W ht)
  clear hws HP hwn hn
  clear hwb
  go_enter Tryd.func5, Tryd.ntmps5
  go_wp2_with fail
  rw [← HWB.out]
  refine (HG.out _ (EB.out.trans E0.out)).mono ?_
  rintro e w1 ⟨rfl, he1⟩
  have EW1 := hide (E0.out.trans he1)
  have HO1 := hide (HO0.out.ext he1)
  clear he1
  go_wp2_with fail
  refine (HSp.out _).mono ?_
  rintro e w2 ⟨A1, m, dW, rfl, ho1, he1⟩
  have hml := ho1.len
  rw [List.length_map, Nat.mul_one] at hml
  have hm0 : 0 < m := by omega
  obtain ⟨g, rfl, -, -⟩ := ho1.form hm0
  have HOw := hide ho1
  have EW2 := hide (EW1.out.trans he1)
  have HO2 : Hid (OwnRows w2 (w.heap.size + 1) w2.heap.size 38 3 (some ⟨w.heap.size + 1, 0, none⟩) 0 0 [] []) := hide ((HO1.out.ext he1).wider (by
    have h1 := he1.size; have h2 := EW1.out.size; have h3 := HO1.out.below (w.heap.size + 1) rfl
    have h4 := (HO0.out.outer.lt (w.heap.size + 1) rfl).2
    have h5 := E0.out.size
    have h6 := ZB.out
    have h7 := (HO1.out.outer.lt (w.heap.size + 1) rfl).2
    omega))
  have HML := hide hml
  have hmb : m ≤ 1048577 := by omega
  obtain ⟨bs, hbs⟩ : ∃ bs, bs = w1.heap.size := ⟨_, rfl⟩
  rw [← hbs] at HOw
  clear ho1 he1 hml hw0 hwl hbs
  go_wp2_with fail
  refine wp_loopF 76 _ rfl rfl [1, 2, 3, 7, 65, 66, 67, 68, 69, 70, 71, 72, 73, 74, 75] rfl (fun fr wr => Ext wb wr ∧ ∃ (i d : Nat) (A2 : Option Addr) (out : List (List Int)) (us : List Value), i ≤ m ∧ i ≤ 61 ∧ (fr 8) = .int .i64 i ∧ (fr 6) = .slice A2 i d ∧ Hid (OwnRows wr (w.heap.size + 1) wr.heap.size 38 3 A2 i d out us) ∧ Hid (Own wr bs 9 1 (some ⟨g, 0, none⟩) m dW (ws.map strW)) ∧ Hid ((strips ws).take i = out.map clauseL) ∧ Hid (∀ c ∈ out, clauseOk v c = true)) (fun fr wr => m - (intOf (fr 8)).toNat) ?_ ?_
  · (exact ⟨EW2.out, 0, 0, _, [], [], by omega, by omega, rfl, rfl, HO2, HOw, hide rfl, hide (fun c hc => by cases hc)⟩)
  intro ks fr wr hkept hrel; (try dsimp only at hrel)
  change Code.wp _ _ _ ⟨#[fr 0, ks 1, ks 2, ks 3, fr 4, fr 5, fr 6, ks 7, fr 8, fr 9, fr 10, fr 11, fr 12, fr 13, fr 14, fr 15, fr 16, fr 17, fr 18, fr 19, fr 20, fr 21, fr 22, fr 23, fr 24, fr 25, fr 26, fr 27, fr 28, fr 29, fr 30, fr 31, fr 32, fr 33, fr 34, fr 35, fr 36, fr 37, fr 38, fr 39, fr 40, fr 41, fr 42, fr 43, fr 44, fr 45, fr 46, fr 47, fr 48, fr 49, fr 50, fr 51, fr 52, fr 53, fr 54, fr 55, fr 56, fr 57, fr 58, fr 59, fr 60, fr 61, fr 62, fr 63, fr 64, ks 65, ks 66, ks 67, ks 68, ks 69, ks 70, ks 71, ks 72, ks 73, ks 74, ks 75], []⟩ wr
  simp only [KeptV, List.getD_cons_zero, List.getD_cons_succ] at hkept; obtain ⟨hk1, hk2, hk3, hk7, hk65, hk66, hk67, hk68, hk69, hk70, hk71, hk72, hk73, hk74, hk75, -⟩ := hkept
  generalize ks 1 = k1 at hk1 ⊢; subst hk1
  generalize ks 2 = k2 at hk2 ⊢; subst hk2
  generalize ks 3 = k3 at hk3 ⊢; subst hk3
  generalize ks 7 = k7 at hk7 ⊢; subst hk7
  generalize ks 65 = k65 at hk65 ⊢; subst hk65
  generalize ks 66 = k66 at hk66 ⊢; subst hk66
  generalize ks 67 = k67 at hk67 ⊢; subst hk67
  generalize ks 68 = k68 at hk68 ⊢; subst hk68
  generalize ks 69 = k69 at hk69 ⊢; subst hk69
  generalize ks 70 = k70 at hk70 ⊢; subst hk70
  generalize ks 71 = k71 at hk71 ⊢; subst hk71
  generalize ks 72 = k72 at hk72 ⊢; subst hk72
  generalize ks 73 = k73 at hk73 ⊢; subst hk73
  generalize ks 74 = k74 at hk74 ⊢; subst hk74
  generalize ks 75 = k75 at hk75 ⊢; subst hk75
  generalize fr 6 = s6 at hrel ⊢
  generalize fr 8 = s8 at hrel ⊢
  obtain ⟨he, i, d, A2, out, us, hi, hi61, hs1, hs2, hO, hW, hT, hK⟩ := hrel
  subst hs1
  subst hs2
  have HE := hide he
  have bv := (BB.out.ext he).cell 0 (.int .i64 v) rfl
  clear he
  by_cases hlt : i < m
  · by_cases h60 : (i : Int) ≤ 60
    · obtain ⟨t, ht⟩ : ∃ t, ws[i]? = some t := ⟨ws[i]'(by rw [HML.out]; exact hlt), List.getElem?_eq_getElem _⟩
      have gc := hW.out.cell (str_get ht)
      have htl := HWl.out t (List.mem_of_getElem? ht)
      by_cases hi0 : (0 : Int) < (i : Int)
      · have HTt := hide (strips_succ (by omega) ht)
        clear ht
        by_cases ht0 : t = []
        · subst ht0
          have HCt := hide (HC.out [] (by simp) wr)
          rw [show strip1 [] = [] from rfl] at HTt
          obtain ⟨t2, ht2⟩ : ∃ t2 : List UInt8, t2 = [] := ⟨_, rfl⟩
          have HT2 := hide ht2
          rw [← ht2] at HTt
          clear ht2 htl
          rw [← HT2.out] at HCt
          cases hno : clauseOf v t2 with
          | none =>
            have HN0 : Hid (N = none) := hide (by rw [HN.out]; exact HPo.out.no_part HNE.out HTt.out hno)
            rw [hno] at HCt
            simp only [Option.getD_none, Option.isSome_none] at HCt
            clear hno
            go_wp2_with fail
            rw [HT2.out] at HCt
            refine HCt.out.mono ?_
            rintro e w3 ⟨X3, n3, d3, rfl, -, he3⟩
            have HE3 := hide (EB.out.trans (HE.out.trans he3))
            clear he3
            go_wp2_with fail
            go_ret2
            exact ⟨_, _, _, by rw [HN0.out]; rfl, by rw [HN0.out]; exact HRN.out _ HE3.out, HE3.out.alloc _⟩
          | some x =>
            have hx := clauseOf_some hno
            have HX := hide (map_clause_succ hT.out HTt.out hx.2)
            have HK := hide (all_snoc hK.out hx.1)
            have hxl : x.length ≤ 12 := by have := clause_facts hx.1; omega
            rw [hno] at HCt
            simp only [Option.getD_some, Option.isSome_some] at HCt
            clear hno hx
            go_wp2_with fail
            rw [HT2.out] at HCt
            refine HCt.out.mono ?_
            rintro e w3 ⟨X3, n3, d3, rfl, ho3, he3⟩
            have HE3 := hide (HE.out.trans he3)
            have hz0 := HE.out.size
            have hz1 := ZB.out
            have hz3 := he3.size
            have how := hO.out.outer.ext he3
            have HW3 := hide (hW.out.ext he3)
            have hor := hO.out.ext he3
            clear he3 gc hO hW bv
            go_wp2_with (at_builtin; refine wpList_app rfl _ _ _ _ rfl Tryd.underlying22 _ 1 24 info_ints rfl (by decide) rfl how 1 [.slice X3 n3 d3] (by first | rfl | simp [go_sem]) rfl ?_ ?_ ?_ ?_ ?_; (intro u hu; simp at hu; first | (subst hu; rfl) | (rcases hu with rfl | rfl <;> rfl) | (rcases hu with rfl | rfl | rfl <;> rfl) | (rcases hu with rfl | rfl | rfl | rfl <;> rfl) | (rcases hu with rfl | rfl | rfl | rfl | rfl <;> rfl) | (rcases hu with rfl | rfl | rfl | rfl | rfl | rfl <;> rfl)); omega; omega; (first | omega | (simp; omega)); intro A' c' w' ho' hg' hb')
            have hgs := hg'.size
            have horz := hor.push (by decide) (by omega) hz3 hgs (RowV.own ho3 (by omega)) ho' hg'
            have HOZ := hide horz
            have HW4 := hide (HW3.out.kept hg' (HW3.out.ne_type how (by decide)))
            have hE4 := hide (HE3.out.trans_own (by omega) how hg')
            clear horz hor ho3 how hg' ho' hb'
            exact ⟨⟨(by (repeat (first | exact trivial | refine ⟨rfl, ?_⟩))), hE4.out, i + 1, c', A', out ++ [x], us ++ [.slice X3 n3 d3], by omega, by omega, by go_num, rfl, HOZ, HW4, HX, HK⟩, (by simp [intOf] <;> omega)⟩
        · obtain ⟨b, hb⟩ : ∃ b, t[0]? = some b := ⟨t[0]'(by cases t with | nil => exact absurd rfl ht0 | cons a r => simp), List.getElem?_eq_getElem _⟩
          have htp : 0 < t.length := (List.getElem?_eq_some_iff.1 hb).1
          have hsz : 0 < (⟨t.toArray⟩ : ByteArray).size := htp
          have hat := text_at hb hsz
          clear ht0
          by_cases hb32 : b = 32
          · subst hb32
            rw [strip1_yes hb] at HTt
            have hxt : (⟨t.toArray⟩ : ByteArray).extract 1 t.length = ⟨(t.drop 1).toArray⟩ := by rw [text_extract, List.take_length]
            have hl2 : (t.drop 1).length ≤ 1048576 := by rw [List.length_drop]; omega
            obtain ⟨t2, ht2⟩ : ∃ t2, t2 = t.drop 1 := ⟨_, rfl⟩
            rw [← ht2] at HTt hxt hl2
            have HCt := hide (HC.out t2 hl2 wr)
            clear ht2 hb htl hl2
            cases hno : clauseOf v t2 with
            | none =>
              have HN0 : Hid (N = none) := hide (by rw [HN.out]; exact HPo.out.no_part HNE.out HTt.out hno)
              rw [hno] at HCt
              simp only [Option.getD_none, Option.isSome_none] at HCt
              clear hno
              go_wp2_with fail
              refine HCt.out.mono ?_
              rintro e w3 ⟨X3, n3, d3, rfl, -, he3⟩
              have HE3 := hide (EB.out.trans (HE.out.trans he3))
              clear he3
              go_wp2_with fail
              go_ret2
              exact ⟨_, _, _, by rw [HN0.out]; rfl, by rw [HN0.out]; exact HRN.out _ HE3.out, HE3.out.alloc _⟩
            | some x =>
              have hx := clauseOf_some hno
              have HX := hide (map_clause_succ hT.out HTt.out hx.2)
              have HK := hide (all_snoc hK.out hx.1)
              have hxl : x.length ≤ 12 := by have := clause_facts hx.1; omega
              rw [hno] at HCt
              simp only [Option.getD_some, Option.isSome_some] at HCt
              clear hno hx
              go_wp2_with fail
              refine HCt.out.mono ?_
              rintro e w3 ⟨X3, n3, d3, rfl, ho3, he3⟩
              have HE3 := hide (HE.out.trans he3)
              have hz0 := HE.out.size
              have hz1 := ZB.out
              have hz3 := he3.size
              have how := hO.out.outer.ext he3
              have HW3 := hide (hW.out.ext he3)
              have hor := hO.out.ext he3
              clear he3 gc hO hW bv
              go_wp2_with (at_builtin; refine wpList_app rfl _ _ _ _ rfl Tryd.underlying22 _ 1 24 info_ints rfl (by decide) rfl how 1 [.slice X3 n3 d3] (by first | rfl | simp [go_sem]) rfl ?_ ?_ ?_ ?_ ?_; (intro u hu; simp at hu; first | (subst hu; rfl) | (rcases hu with rfl | rfl <;> rfl) | (rcases hu with rfl | rfl | rfl <;> rfl) | (rcases hu with rfl | rfl | rfl | rfl <;> rfl) | (rcases hu with rfl | rfl | rfl | rfl | rfl <;> rfl) | (rcases hu with rfl | rfl | rfl | rfl | rfl | rfl <;> rfl)); omega; omega; (first | omega | (simp; omega)); intro A' c' w' ho' hg' hb')
              have hgs := hg'.size
              have horz := hor.push (by decide) (by omega) hz3 hgs (RowV.own ho3 (by omega)) ho' hg'
              have HOZ := hide horz
              have HW4 := hide (HW3.out.kept hg' (HW3.out.ne_type how (by decide)))
              have hE4 := hide (HE3.out.trans_own (by omega) how hg')
              clear horz hor ho3 how hg' ho' hb'
              exact ⟨⟨(by (repeat (first | exact trivial | refine ⟨rfl, ?_⟩))), hE4.out, i + 1, c', A', out ++ [x], us ++ [.slice X3 n3 d3], by omega, by omega, by go_num, rfl, HOZ, HW4, HX, HK⟩, (by simp [intOf] <;> omega)⟩
          · rw [strip1_no hb hb32] at HTt
            have hne : ((b.toNat : Int) == 32) = false := byte_eq (b := 32) hb32
            have HCt := hide (HC.out t htl wr)
            clear hb htl hb32
            cases hno : clauseOf v t with
            | none =>
              have HN0 : Hid (N = none) := hide (by rw [HN.out]; exact HPo.out.no_part HNE.out HTt.out hno)
              rw [hno] at HCt
              simp only [Option.getD_none, Option.isSome_none] at HCt
              clear hno
              go_wp2_with fail
              refine HCt.out.mono ?_
              rintro e w3 ⟨X3, n3, d3, rfl, -, he3⟩
              have HE3 := hide (EB.out.trans (HE.out.trans he3))
              clear he3
              go_wp2_with fail
              go_ret2
              exact ⟨_, _, _, by rw [HN0.out]; rfl, by rw [HN0.out]; exact HRN.out _ HE3.out, HE3.out.alloc _⟩
            | some x =>
              have hx := clauseOf_some hno
              have HX := hide (map_clause_succ hT.out HTt.out hx.2)
              have HK := hide (all_snoc hK.out hx.1)
              have hxl : x.length ≤ 12 := by have := clause_facts hx.1; omega
              rw [hno] at HCt
              simp only [Option.getD_some, Option.isSome_some] at HCt
              clear hno hx
              go_wp2_with fail
              refine HCt.out.mono ?_
              rintro e w3 ⟨X3, n3, d3, rfl, ho3, he3⟩
              have HE3 := hide (HE.out.trans he3)
              have hz0 := HE.out.size
              have hz1 := ZB.out
              have hz3 := he3.size
              have how := hO.out.outer.ext he3
              have HW3 := hide (hW.out.ext he3)
              have hor := hO.out.ext he3
              clear he3 gc hO hW bv
              go_wp2_with (at_builtin; refine wpList_app rfl _ _ _ _ rfl Tryd.underlying22 _ 1 24 info_ints rfl (by decide) rfl how 1 [.slice X3 n3 d3] (by first | rfl | simp [go_sem]) rfl ?_ ?_ ?_ ?_ ?_; (intro u hu; simp at hu; first | (subst hu; rfl) | (rcases hu with rfl | rfl <;> rfl) | (rcases hu with rfl | rfl | rfl <;> rfl) | (rcases hu with rfl | rfl | rfl | rfl <;> rfl) | (rcases hu with rfl | rfl | rfl | rfl | rfl <;> rfl) | (rcases hu with rfl | rfl | rfl | rfl | rfl | rfl <;> rfl)); omega; omega; (first | omega | (simp; omega)); intro A' c' w' ho' hg' hb')
              have hgs := hg'.size
              have horz := hor.push (by decide) (by omega) hz3 hgs (RowV.own ho3 (by omega)) ho' hg'
              have HOZ := hide horz
              have HW4 := hide (HW3.out.kept hg' (HW3.out.ne_type how (by decide)))
              have hE4 := hide (HE3.out.trans_own (by omega) how hg')
              clear horz hor ho3 how hg' ho' hb'
              exact ⟨⟨(by (repeat (first | exact trivial | refine ⟨rfl, ?_⟩))), hE4.out, i + 1, c', A', out ++ [x], us ++ [.slice X3 n3 d3], by omega, by omega, by go_num, rfl, HOZ, HW4, HX, HK⟩, (by simp [intOf] <;> omega)⟩
      · have hi00 : i = 0 := by omega
        have HTt : Hid ((strips ws)[i]? = some t) := hide (by rw [hi00]; exact strips_zero (by rw [← hi00]; exact ht))
        have HCt := hide (HC.out t htl wr)
        clear ht hi00 htl
        cases hno : clauseOf v t with
        | none =>
          have HN0 : Hid (N = none) := hide (by rw [HN.out]; exact HPo.out.no_part HNE.out HTt.out hno)
          rw [hno] at HCt
          simp only [Option.getD_none, Option.isSome_none] at HCt
          clear hno
          go_wp2_with fail
          refine HCt.out.mono ?_
          rintro e w3 ⟨X3, n3, d3, rfl, -, he3⟩
          have HE3 := hide (EB.out.trans (HE.out.trans he3))
          clear he3
          go_wp2_with fail
          go_ret2
          exact ⟨_, _, _, by rw [HN0.out]; rfl, by rw [HN0.out]; exact HRN.out _ HE3.out, HE3.out.alloc _⟩
        | some x =>
          have hx := clauseOf_some hno
          have HX := hide (map_clause_succ hT.out HTt.out hx.2)
          have HK := hide (all_snoc hK.out hx.1)
          have hxl : x.length ≤ 12 := by have := clause_facts hx.1; omega
          rw [hno] at HCt
          simp only [Option.getD_some, Option.isSome_some] at HCt
          clear hno hx
          go_wp2_with fail
          refine HCt.out.mono ?_
          rintro e w3 ⟨X3, n3, d3, rfl, ho3, he3⟩
          have HE3 := hide (HE.out.trans he3)
          have hz0 := HE.out.size
          have hz1 := ZB.out
          have hz3 := he3.size
          have how := hO.out.outer.ext he3
          have HW3 := hide (hW.out.ext he3)
          have hor := hO.out.ext he3
          clear he3 gc hO hW bv
          go_wp2_with (at_builtin; refine wpList_app rfl _ _ _ _ rfl Tryd.underlying22 _ 1 24 info_ints rfl (by decide) rfl how 1 [.slice X3 n3 d3] (by first | rfl | simp [go_sem]) rfl ?_ ?_ ?_ ?_ ?_; (intro u hu; simp at hu; first | (subst hu; rfl) | (rcases hu with rfl | rfl <;> rfl) | (rcases hu with rfl | rfl | rfl <;> rfl) | (rcases hu with rfl | rfl | rfl | rfl <;> rfl) | (rcases hu with rfl | rfl | rfl | rfl | rfl <;> rfl) | (rcases hu with rfl | rfl | rfl | rfl | rfl | rfl <;> rfl)); omega; omega; (first | omega | (simp; omega)); intro A' c' w' ho' hg' hb')
          have hgs := hg'.size
          have horz := hor.push (by decide) (by omega) hz3 hgs (RowV.own ho3 (by omega)) ho' hg'
          have HOZ := hide horz
          have HW4 := hide (HW3.out.kept hg' (HW3.out.ne_type how (by decide)))
          have hE4 := hide (HE3.out.trans_own (by omega) how hg')
          clear horz hor ho3 how hg' ho' hb'
          exact ⟨⟨(by (repeat (first | exact trivial | refine ⟨rfl, ?_⟩))), hE4.out, i + 1, c', A', out ++ [x], us ++ [.slice X3 n3 d3], by omega, by omega, by go_num, rfl, HOZ, HW4, HX, HK⟩, (by simp [intOf] <;> omega)⟩
    · have HN0 : Hid (N = none) := hide (by rw [HN.out]; exact HPo.out.no_len HNE.out (by rw [HSL.out, HML.out]; omega))
      have hgt : (60 : Int) < (i : Int) := by omega
      have EWr := hide (EB.out.trans HE.out)
      go_wp2_with fail
      go_ret2
      exact ⟨_, _, _, by rw [HN0.out]; rfl, by rw [HN0.out]; exact HRN.out _ EWr.out, EWr.out.alloc _⟩
  · obtain rfl : i = m := by omega
    have EWr := hide (EB.out.trans HE.out)
    have HTm : Hid (strips ws = out.map clauseL) := hide (by rw [← hT.out, List.take_of_length_le (by rw [HSL.out, HML.out]; exact Nat.le_refl _)])
    by_cases h60 : (60 : Int) < (i : Int)
    · have HN0 : Hid (N = none) := hide (by rw [HN.out]; exact HPo.out.no_len HNE.out (by rw [HSL.out, HML.out]; omega))
      go_wp2_with fail
      go_ret2
      exact ⟨_, _, _, by rw [HN0.out]; rfl, by rw [HN0.out]; exact HRN.out _ EWr.out, EWr.out.alloc _⟩
    · have hlo : out.length = i := hO.out.len.symm
      have HL := hide (l11Text_c A2 i d out wr (hO.out.intss (by omega)) (by omega) (clauses_small hK.out))
      have HOb : Hid (ObR 38 3 wr w.heap.size wr.heap.size A2 i d out) := hide ⟨⟨us, hO.out.lower (by omega)⟩, rows_small hK.out (by omega)⟩
      by_cases htx : learnedL out = s
      · have HN0 : Hid (N = some out) := hide (by
          rw [HN.out]
          exact listOf_yes (fun e => by rw [e] at hlo; simp at hlo; omega) (by omega) hK.out htx)
        rw [htx] at HL
        clear htx hlo
        go_wp2_with fail
        refine HL.out.mono ?_
        rintro e w4 ⟨rfl, he4⟩
        have HE4 := hide he4
        have HOz : Hid (ObR 38 3 w4 w.heap.size w4.heap.size A2 i d out) := hide (by
          obtain ⟨⟨us, ho⟩, hsm⟩ := HOb.out
          exact ⟨⟨us, (ho.ext he4).wider he4.size⟩, hsm⟩)
        clear he4
        go_wp2_with fail
        go_ret2
        exact ⟨_, _, _, by rw [HN0.out]; rfl, by rw [HN0.out]; exact HOz.out, EWr.out.trans HE4.out⟩
      · have HN0 : Hid (N = none) := hide (by rw [HN.out]; exact HPo.out.no_text HNE.out HTm.out htx)
        have hta : (!(learnedL out == s)) = true := by simpa using htx
        clear htx hlo
        go_wp2_with fail
        refine HL.out.mono ?_
        rintro e w4 ⟨rfl, he4⟩
        have HE4 := hide (EWr.out.trans he4)
        clear he4
        go_wp2_with fail
        go_ret2
        exact ⟨_, _, _, by rw [HN0.out]; rfl, by rw [HN0.out]; exact HRN.out _ HE4.out, HE4.out.alloc _⟩
end Go.Proofs.YtjlnlicojcfpiaaDoor
