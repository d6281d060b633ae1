/-
  The program reads a clause, where the library's variables lie in memory; no condition.
-/
import Derived.Test.YtjlnlicojcfpiaaDoorT14
import Derived.Lib.Split
namespace Go.Proofs.YtjlnlicojcfpiaaDoor
set_option linter.unusedSimpArgs false
set_option linter.unusedVariables false
open Go.RowKit
theorem make0_eq (t e : TypeId) (ht : Tryd.prog.underlying t = some (.slice e)) (z : Value) (bytes : Nat) (hinfo : (Tryd.prog.info? e).map (fun i => (i.zero, i.size, i.bytes)) = some (some z, 1, bytes)) (hz1 : z.cells = #[z])
    (n : Nat) (h63 : n ≤ 140737488355328) (hb : bytes * n ≤ 281474976710656) (w : World) :
    (Instr.makeSlice t (.int .i64 0) (.int .i64 (n : Int))).run Tryd.prog w = .ok (.slice (some ⟨w.heap.size, 0, none⟩) 0 n) (w.alloc (.cells (madeCells #[z] n) e)) := by
  obtain ⟨i, hi, hz, hsize, hby⟩ := info_parts hinfo
  have hb' : (i.bytes : Int) * (n : Int) ≤ 281474976710656 := by
    have h : ((i.bytes * n : Nat) : Int) ≤ 281474976710656 := by rw [hby]; omega
    rwa [Int.natCast_mul] at h
  have hr := run_make (P := Tryd.prog) w t e i z ht hi hz .i64 .i64 0 n (by omega) (by omega) hb' (by omega)
  simp only [Int.toNat_natCast, hsize, Nat.mul_one, hz1] at hr
  exact hr
theorem Own.made0 {w : World} {base : Nat} {e : TypeId} (z : Value) (n : Nat) (hb : base ≤ w.heap.size) (hm : n ≤ maxLen) :
    Own (w.alloc (.cells (madeCells #[z] n) e)) base e 1 (some ⟨w.heap.size, 0, none⟩) 0 n [] :=
  World.ownsRow_made w (madeCells #[z] n) n hb hm (by simp [madeCells])
set_option maxRecDepth 100000 in
set_option maxHeartbeats 3200000 in
theorem parseInts_c (g m d bs : Nat) (ws : List (List UInt8)) (w : World) (ht : Env w) (hm : m ≤ 1048600) (ho : Own w bs 9 1 (some ⟨g, 0, none⟩) m d (ws.map strW)) (hl : ∀ p ∈ ws, p.length ≤ 1048576) :
    Calls Tryd.prog 34 #[.slice (some ⟨g, 0, none⟩) m d] w fun e w' => ((∃ (A : Option Addr) (c : Nat) (out : List Int), e = .returned (.tuple #[.slice A m c, .bool true]) ∧ Own w' w.heap.size 3 1 A m c (out.map (Value.int .i64)) ∧ ws = out.map Lib.itoa) ∨ (e = .returned (.tuple #[.slice none 0 0, .bool false]) ∧ ∃ (i : Nat) (t : List UInt8), ws[i]? = some t ∧ numOf t = none)) ∧ Ext w w' := by
  have hml := ho.len
  rw [List.length_map, Nat.mul_one] at hml
  have HML := hide hml
  have HR := hide (fun (t : List UInt8) (h : t.length ≤ 1048576) W (E : Ext w W) => ParseInt_c t W h (ht.ext E))
  have HWl := hide hl
  have HOw := hide ho
  have hmk := fun W => make0_eq 38 3 Tryd.underlying38 _ 8 info_int rfl m (by omega) (by omega) W
  have OM : Hid (Own (w.alloc (.cells (madeCells #[.int .i64 0] m) 3)) w.heap.size 3 1 (some ⟨w.heap.size, 0, none⟩) 0 m []) := hide (Own.made0 (base := w.heap.size) (w := w) (e := 3) (.int .i64 0) m (Nat.le_refl _) (by simp only [maxLen]; omega))
  clear hml hl ho
  go_enter Tryd.func34, Tryd.ntmps34
  go_wp2_with fail
  clear hmk
  refine wp_loopF 31 _ rfl rfl [12, 13, 30] rfl (fun fr wr => Ext w wr ∧ ∃ (i c : Nat) (A2 : Option Addr) (out : List Int), i ≤ m ∧ (fr 14) = .int .i64 i ∧ (fr 4) = .slice A2 i c ∧ Hid (Own wr w.heap.size 3 1 A2 i c (out.map (Value.int .i64))) ∧ Hid (ws.take i = out.map Lib.itoa)) (fun fr wr => m - (intOf (fr 14)).toNat) ?_ ?_
  · (exact ⟨(Ext.refl _).alloc _, 0, m, _, [], by omega, rfl, rfl, OM, hide rfl⟩)
  intro ks fr wr hkept hrel; (try dsimp only at hrel)
  change Code.wp _ _ _ ⟨#[fr 0, fr 1, fr 2, fr 3, fr 4, fr 5, fr 6, fr 7, fr 8, fr 9, fr 10, fr 11, ks 12, ks 13, fr 14, fr 15, fr 16, fr 17, fr 18, fr 19, fr 20, fr 21, fr 22, fr 23, fr 24, fr 25, fr 26, fr 27, fr 28, fr 29, ks 30], []⟩ wr
  simp only [KeptV, List.getD_cons_zero, List.getD_cons_succ] at hkept; obtain ⟨hk12, hk13, hk30, -⟩ := hkept
  generalize ks 12 = k12 at hk12 ⊢; subst hk12
  generalize ks 13 = k13 at hk13 ⊢; subst hk13
  generalize ks 30 = k30 at hk30 ⊢; subst hk30
  generalize fr 4 = s4 at hrel ⊢
  generalize fr 14 = s14 at hrel ⊢
  obtain ⟨he, i, c, A2, out, hi, hs1, hs2, hO, hT⟩ := hrel
  subst hs1
  subst hs2
  have HE := hide he
  by_cases hlt : i < m
  · obtain ⟨t, ht2⟩ : ∃ t, ws[i]? = some t := ⟨ws[i]'(by rw [HML.out]; exact hlt), List.getElem?_eq_getElem _⟩
    have gc := (HOw.out.ext he).cell (str_get ht2)
    have HRt := hide (HR.out t (HWl.out t (List.mem_of_getElem? ht2)) wr he)
    have HTt := hide ht2
    clear ht2 he
    cases hno : numOf t with
    | none =>
      have HNo := hide hno
      rw [hno] at HRt
      simp only [Option.getD_none, Option.isSome_none] at HRt
      clear hno
      go_wp2_with fail
      refine HRt.out.mono ?_
      rintro e w3 ⟨rfl, he3⟩
      have HE3 := hide (HE.out.trans he3)
      clear he3
      go_wp2_with fail
      go_ret2
      exact ⟨.inr ⟨rfl, i, t, HTt.out, HNo.out⟩, HE3.out⟩
    | some x =>
      have HX := hide (map_take_succ hT.out HTt.out (numOf_some hno).2)
      rw [hno] at HRt
      simp only [Option.getD_some, Option.isSome_some] at HRt
      clear hno
      go_wp2_with fail
      refine HRt.out.mono ?_
      rintro e w3 ⟨rfl, he3⟩
      have HE3 := hide (HE.out.trans he3)
      have hz3 := HE3.out.size
      have ho := hO.out.ext he3
      clear he3 gc hO
      go_wp2_with (at_builtin; refine wpList_app rfl _ _ _ _ rfl Tryd.underlying38 _ 1 8 info_int rfl (by decide) rfl ho 1 [.int .i64 _] (by first | rfl | simp [go_sem]) rfl ?_ ?_ ?_ ?_ ?_; (intro u hu; simp at hu; first | (subst hu; rfl) | (rcases hu with rfl | rfl <;> rfl) | (rcases hu with rfl | rfl | rfl <;> rfl) | (rcases hu with rfl | rfl | rfl | rfl <;> rfl) | (rcases hu with rfl | rfl | rfl | rfl | rfl <;> rfl) | (rcases hu with rfl | rfl | rfl | rfl | rfl | rfl <;> rfl)); omega; omega; (first | omega | (simp; omega)); intro A' c' w' ho' hg' hb')
      have hE4 := hide (HE3.out.trans_own (Nat.le_refl _) ho hg')
      have HO4 : Hid (Own w' w.heap.size 3 1 A' (i + 1) c' ((out ++ [x]).map (Value.int .i64))) := hide (by rw [List.map_append]; exact ho')
      clear ho ho' hg' hb'
      exact ⟨⟨(by (repeat (first | exact trivial | refine ⟨rfl, ?_⟩))), hE4.out, i + 1, c', A', _, by omega, by go_num, rfl, HO4, HX⟩, (by simp [intOf] <;> omega)⟩
  · obtain rfl : i = m := by omega
    have HTm : Hid (ws = out.map Lib.itoa) := hide (by rw [← hT.out, List.take_of_length_le (by rw [HML.out]; exact Nat.le_refl _)])
    clear he
    go_wp2_with fail
    go_ret2
    exact ⟨.inl ⟨_, _, out, rfl, hO.out, HTm.out⟩, HE.out⟩
theorem splitK_len (sep : List UInt8) (hsep : sep ≠ []) : ∀ (k : Nat) (s : List UInt8), Lib.count s sep = k → (Lib.splitK sep 0 k s).length = k + 1
  | 0, s, _ => by simp [Lib.splitK]
  | k + 1, s, h => by
    simp only [Lib.splitK]
    by_cases hi : Lib.index s sep = -1
    · rw [Lib.count_miss hi] at h; omega
    · have hge := Lib.index_ge s sep
      obtain ⟨j, hj⟩ := int_nat (show 0 ≤ Lib.index s sep by omega)
      have h1 := Lib.count_hit hsep hj
      rw [if_neg (by intro e; exact hi (beq_iff_eq.1 e)), List.length_cons, splitK_len sep hsep k _ (by rw [hj, Int.toNat_natCast]; omega)]
theorem splitK_small (sep : List UInt8) : ∀ (k : Nat) (s : List UInt8), ∀ p ∈ Lib.splitK sep 0 k s, p.length ≤ s.length
  | 0, s, p, h => by simp only [Lib.splitK, List.mem_singleton] at h; subst h; exact Nat.le_refl _
  | k + 1, s, p, h => by
    simp only [Lib.splitK] at h
    split at h
    · simp only [List.mem_singleton] at h; subst h; exact Nat.le_refl _
    · rcases List.mem_cons.1 h with rfl | h
      · rw [List.length_take]; omega
      · have := splitK_small sep k _ p h
        rw [List.length_drop] at this; omega
theorem Split_c (s : List UInt8) (c : UInt8) (r : List UInt8) (w : World) (hs : s.length ≤ 1048576) (ht : Env w) :
    Calls Tryd.prog 20 #[.string ⟨s.toArray⟩, .string ⟨(c :: r).toArray⟩] w fun e w' => ∃ g m, e = .returned (.slice (some ⟨g, 0, none⟩) m m) ∧ m ≤ 1048600 ∧ Own w' w.heap.size 9 1 (some ⟨g, 0, none⟩) m m ((Lib.split s (c :: r)).map strW) ∧ Ext w w' := by
  obtain ⟨m0, hm0⟩ := ht.len0
  refine (Tryd.strings_Split ⟨s.toArray⟩ ⟨(c :: r).toArray⟩ m0 w (by show s.length < _; omega) hm0 (by show 1 ≤ (c :: r).length; simp)).mono ?_
  rintro e w' ⟨rfl, rfl⟩
  have hc : Lib.countB ⟨s.toArray⟩ ⟨(c :: r).toArray⟩ = Lib.count s (c :: r) := rfl
  have hcl := Lib.count_le s (c :: r)
  have hl := splitK_len (c :: r) (by simp) _ s rfl
  have hd := Lib.splitB_data ⟨(c :: r).toArray⟩ 0 (Lib.count s (c :: r)) ⟨s.toArray⟩
  have hm : (Lib.splitB ⟨(c :: r).toArray⟩ 0 (Lib.count s (c :: r)) ⟨s.toArray⟩).map Value.string = (Lib.split s (c :: r)).map strW := by
    unfold Lib.split
    have hd' : (Lib.splitB ⟨(c :: r).toArray⟩ 0 (Lib.count s (c :: r)) ⟨s.toArray⟩).map (·.data.toList) = Lib.splitK (c :: r) 0 (Lib.count s (c :: r)) s := hd
    rw [← hd', List.map_map]
    rfl
  rw [hc]
  refine ⟨_, _, rfl, by omega, ?_, (Ext.refl w).alloc _⟩
  rw [hm]
  exact Own.arr _ _ _ (Nat.le_refl _) (by simp only [maxLen]; omega) (by rw [List.length_map]; unfold Lib.split; rw [hl]; omega) (by simp)
set_option maxRecDepth 100000 in
set_option maxHeartbeats 3200000 in
theorem ParseClause_c (v : Int) (s : List UInt8) (w : World) (hs : s.length ≤ 1048576) (ht : Env w) :
    Calls Tryd.prog 21 #[.int .i64 v, .string ⟨s.toArray⟩] w fun e w' => ∃ A n c, e = .returned (.tuple #[.slice A n c, .bool (clauseOf v s).isSome]) ∧ Own w' w.heap.size 3 1 A n c (((clauseOf v s).getD []).map (Value.int .i64)) ∧ Ext w w' := by
  obtain ⟨N, hN⟩ : ∃ N, N = clauseOf v s := ⟨_, rfl⟩
  rw [← hN]
  have HN := hide hN
  clear hN
  by_cases hn : s = [110, 111, 110, 101]
  · subst hn
    have HV := hide (fun W => varsOk_c v W)
    cases hw : within v 0 12
    · have HN0 : Hid (N = none) := hide (by rw [HN.out, clauseOf_none_no hw])
      rw [hw] at HV
      clear hw
      go_enter Tryd.func21, Tryd.ntmps21
      go_wp2_with fail
      refine (HV.out _).mono ?_
      rintro e w1 ⟨rfl, rfl⟩
      go_wp2_with fail
      go_ret2
      exact ⟨_, _, _, by rw [HN0.out]; rfl, by rw [HN0.out]; exact Own.nil _ _ _ _, Ext.refl _⟩
    · have HN0 : Hid (N = some []) := hide (by rw [HN.out, clauseOf_none_yes hw])
      rw [hw] at HV
      clear hw
      go_enter Tryd.func21, Tryd.ntmps21
      go_wp2_with fail
      refine (HV.out _).mono ?_
      rintro e w1 ⟨rfl, rfl⟩
      go_wp2_with fail
      go_ret2
      exact ⟨_, _, _, by rw [HN0.out]; rfl, by rw [HN0.out]; exact Own.nil _ _ _ _, Ext.refl _⟩
  have hnb : (s == [110, 111, 110, 101]) = false := by simpa using hn
  have HNE := hide hn
  clear hn
  have HSp := hide (Split_c s 32 [] w hs ht)
  obtain ⟨ws, hws⟩ : ∃ ws, ws = Lib.split s [32] := ⟨_, rfl⟩
  have HW := words_split s
  have hwl : ∀ p ∈ ws, p.length ≤ 1048576 := fun p hp => by
    rw [hws] at hp
    exact Nat.le_trans (splitK_small [32] _ s p hp) hs
  have hj : Lib.join ws [32] = s := by rw [hws]; exact join_splitK [32] _ s
  have hne : ws ≠ [] := by rw [hws]; exact splitK_ne [32] _ s
  rw [← hws] at HSp HW
  have HWo := hide HW
  have HWl := hide hwl
  have HJ := hide hj
  have HNn := hide hne
  have HPI := hide (fun (g m d bs : Nat) W (E : Ext w W) (hm : m ≤ 1048600) (ho : Own W bs 9 1 (some ⟨g, 0, none⟩) m d (ws.map strW)) => parseInts_c g m d bs ws W (ht.ext E) hm ho HWl.out)
  clear hws HW hwl hj hne
  go_enter Tryd.func21, Tryd.ntmps21
  go_wp2_with fail
  refine HSp.out.mono ?_
  rintro e w1 ⟨g, m, rfl, hm, ho1, he1⟩
  have HP1 := hide (HPI.out g m m w.heap.size w1 he1 hm ho1)
  have HE1 := hide he1
  have hz1 := he1.size
  have HMm := hide hm
  clear he1 ho1 hm
  go_wp2_with fail
  refine HP1.out.mono ?_
  rintro e w2 ⟨⟨A, c, out, rfl, ho2, hout⟩ | ⟨rfl, i, t, hti, hno⟩, he2⟩
  · have HO2 := hide (ho2.lower hz1)
    have HE2 := hide (HE1.out.trans he2)
    have HOt := hide hout
    have HIn := hide (ho2.ints (by have := HMm.out; omega))
    have HCl := hide (fun W (E : Ext w2 W) => IsClause_c v A m c out W (HIn.out.ext E))
    clear ho2 he2 hout
    cases hok : clauseOk v out
    · have HN0 : Hid (N = none) := hide (by rw [HN.out]; exact HWo.out.no_out HNE.out HOt.out hok)
      rw [hok] at HCl
      clear hok
      go_wp2_with fail
      refine (HCl.out _ (Ext.refl _)).mono ?_
      rintro e w3 ⟨rfl, he3⟩
      have HE3 := hide (HE2.out.trans he3)
      clear he3
      go_wp2_with fail
      go_ret2
      exact ⟨_, _, _, by rw [HN0.out]; rfl, by rw [HN0.out]; exact Own.nil _ _ _ _, HE3.out⟩
    · have HN0 : Hid (N = some out) := hide (by
        rw [HN.out]
        refine clauseOf_yes hok ?_
        have h0 : out ≠ [] := fun e => HNn.out (by rw [HOt.out, e]; rfl)
        rw [clauseL_words h0, ← HOt.out]; exact HJ.out)
      rw [hok] at HCl
      clear hok
      go_wp2_with fail
      refine (HCl.out _ (Ext.refl _)).mono ?_
      rintro e w3 ⟨rfl, he3⟩
      have HE3 := hide (HE2.out.trans he3)
      have HO3 := hide (HO2.out.ext he3)
      clear he3
      go_wp2_with fail
      go_ret2
      exact ⟨_, _, _, by rw [HN0.out]; rfl, by rw [HN0.out]; exact HO3.out, HE3.out⟩
  · have HN0 : Hid (N = none) := hide (by rw [HN.out]; exact HWo.out.no_word HNE.out hti hno)
    have HE2 := hide (HE1.out.trans he2)
    clear hti hno he2
    go_wp2_with fail
    go_ret2
    exact ⟨_, _, _, by rw [HN0.out]; rfl, by rw [HN0.out]; exact Own.nil _ _ _ _, HE2.out⟩
end Go.Proofs.YtjlnlicojcfpiaaDoor
