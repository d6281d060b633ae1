/-
  The reference cuts a text at a byte; no condition.
-/
import Derived.Test.YtjlnlicojcfpiaaDoorT9
import Derived.WalkSmall
namespace Go.Proofs.YtjlnlicojcfpiaaDoor
set_option linter.unusedSimpArgs false
set_option linter.unusedVariables false
open Go.RowKit
theorem info_str : (Tryd.prog.info? 9).map (fun i => (i.zero, i.size, i.bytes)) = some (some (.string ⟨#[]⟩), 1, 16) := by kernel_rfl
def strW (l : List UInt8) : Value := .string ⟨l.toArray⟩
theorem take_drop_snoc {s : List UInt8} {i f : Nat} {c : UInt8} (hc : s[i]? = some c) (hf : f ≤ i) : (s.take (i + 1)).drop f = (s.take i).drop f ++ [c] := by
  have hi := (List.getElem?_eq_some_iff.1 hc).1
  rw [take_succ_of (hide hc), List.drop_append_of_le_length (by rw [List.length_take]; omega)]
theorem cut_go {s : List UInt8} {b c : UInt8} {i f : Nat} {done : List (List UInt8)} (hc : s[i]? = some c) (hf : f ≤ i) (h : cutB b (s.take i) = done ++ [(s.take i).drop f]) (hne : c ≠ b) : cutB b (s.take (i + 1)) = done ++ [(s.take (i + 1)).drop f] := by
  have h1 := cut_snoc (s.take i) done _ h c
  rw [if_neg hne] at h1
  rw [take_succ_of (hide hc), h1, ← take_drop_snoc hc hf, take_succ_of (hide hc)]
theorem cut_hit {s : List UInt8} {b : UInt8} {i f : Nat} {done : List (List UInt8)} (hc : s[i]? = some b) (h : cutB b (s.take i) = done ++ [(s.take i).drop f]) : cutB b (s.take (i + 1)) = (done ++ [(s.take i).drop f]) ++ [(s.take (i + 1)).drop (i + 1)] := by
  have h1 := cut_snoc (s.take i) done _ h b
  have hi := (List.getElem?_eq_some_iff.1 hc).1
  rw [if_pos rfl] at h1
  have h2 : (s.take (i + 1)).drop (i + 1) = [] := List.drop_eq_nil_of_le (by rw [List.length_take]; omega)
  rw [h2, take_succ_of (hide hc), h1]; simp
theorem cut_count (b : UInt8) : ∀ s : List UInt8, (cutB b s).length ≤ s.length + 1
  | [] => by simp [cutB]
  | c :: r => by
    have ih := cut_count b r
    simp only [cutB]
    split
    · simp only [List.length_cons]; omega
    · split
      · simp
      · rename_i h; rw [h] at ih; simp only [List.length_cons] at ih ⊢; omega
theorem text_extract (s : List UInt8) (f i : Nat) : (⟨s.toArray⟩ : ByteArray).extract f i = ⟨((s.take i).drop f).toArray⟩ := by
  apply ByteArray.ext
  rw [ByteArray.data_extract]
  show s.toArray.extract f i = _
  rw [List.extract_toArray, List.extract_eq_take_drop, List.drop_take]
theorem str_extract (s : List UInt8) (f i : Nat) : Value.string ((⟨s.toArray⟩ : ByteArray).extract f i) = strW ((s.take i).drop f) := congrArg Value.string (text_extract s f i)
theorem text_at {s : List UInt8} {i : Nat} {c : UInt8} (hc : s[i]? = some c) (h : i < (⟨s.toArray⟩ : ByteArray).size) : (⟨s.toArray⟩ : ByteArray)[i] = c := by
  have h2 := (List.getElem?_eq_some_iff.1 hc).2
  exact h2
theorem byte_eq {a b : UInt8} (h : a ≠ b) : (((a.toNat : Int)) == (b.toNat : Int)) = false := by
  have : a.toNat ≠ b.toNat := fun e => h (UInt8.toNat_inj.1 e)
  rw [beq_eq_false_iff_ne]
  omega
set_option maxRecDepth 100000 in
set_option maxHeartbeats 3200000 in
theorem l1Split_c (s : List UInt8) (b : UInt8) (w : World) (hs : s.length ≤ 1048576) :
    Calls Tryd.prog 15 #[.string ⟨s.toArray⟩, .int .u8 b.toNat] w fun e w' => ∃ A n c, e = .returned (.slice A n c) ∧ Own w' w.heap.size 9 1 A n c ((cutB b s).map strW) ∧ Ext w w' := by
  have O0 : Hid (Own (w.alloc (.cells #[] 9)) w.heap.size 9 1 (some ⟨w.heap.size, 0, none⟩) 0 0 []) := hide (Own.arr #[] 0 [] (Nat.le_refl _) (by decide) rfl rfl)
  have E0 : Hid (Ext w (w.alloc (.cells #[] 9))) := hide ((Ext.refl w).alloc _)
  obtain ⟨R, hR⟩ : ∃ R, R = (cutB b s).map strW := ⟨_, rfl⟩
  rw [← hR]
  have HRR := hide hR
  clear hR
  go_enter Tryd.func15, Tryd.ntmps15
  go_wp2_with fail
  refine wp_loopF 35 _ rfl rfl [0, 1, 29, 30, 31, 32, 33, 34] rfl (fun fr wr => Ext w wr ∧ ∃ (i f m d : Nat) (A2 : Option Addr) (done : List (List UInt8)), i ≤ s.length ∧ f ≤ i ∧ m ≤ i ∧ (fr 7) = .int .i64 i ∧ (fr 6) = .int .i64 f ∧ (fr 5) = .slice A2 m d ∧ Hid (cutB b (s.take i) = done ++ [(s.take i).drop f]) ∧ Hid (Own wr w.heap.size 9 1 A2 m d (done.map strW))) (fun fr wr => s.length - (intOf (fr 7)).toNat) ?_ ?_
  · (exact ⟨E0.out, 0, 0, 0, 0, _, [], by omega, by omega, by omega, rfl, rfl, rfl, hide rfl, O0⟩)
  intro ks fr wr hkept hrel; (try dsimp only at hrel)
  change Code.wp _ _ _ ⟨#[ks 0, ks 1, fr 2, fr 3, fr 4, fr 5, fr 6, fr 7, fr 8, fr 9, fr 10, fr 11, fr 12, fr 13, fr 14, fr 15, fr 16, fr 17, fr 18, fr 19, fr 20, fr 21, fr 22, fr 23, fr 24, fr 25, fr 26, fr 27, fr 28, ks 29, ks 30, ks 31, ks 32, ks 33, ks 34], []⟩ wr
  simp only [KeptV, List.getD_cons_zero, List.getD_cons_succ] at hkept; obtain ⟨hk0, hk1, hk29, hk30, hk31, hk32, hk33, hk34, -⟩ := hkept
  generalize ks 0 = k0 at hk0 ⊢; subst hk0
  generalize ks 1 = k1 at hk1 ⊢; subst hk1
  generalize ks 29 = k29 at hk29 ⊢; subst hk29
  generalize ks 30 = k30 at hk30 ⊢; subst hk30
  generalize ks 31 = k31 at hk31 ⊢; subst hk31
  generalize ks 32 = k32 at hk32 ⊢; subst hk32
  generalize ks 33 = k33 at hk33 ⊢; subst hk33
  generalize ks 34 = k34 at hk34 ⊢; subst hk34
  generalize fr 5 = s5 at hrel ⊢
  generalize fr 6 = s6 at hrel ⊢
  generalize fr 7 = s7 at hrel ⊢
  obtain ⟨he, i, f, m, d, A2, done, hi, hf, hm, hs1, hs2, hs3, hcut, hO⟩ := hrel
  subst hs1
  subst hs2
  subst hs3
  have HE := hide he
  by_cases hlt : i < s.length
  · obtain ⟨c, hc⟩ : ∃ c, s[i]? = some c := ⟨s[i], List.getElem?_eq_getElem _⟩
    have HC := hide hc
    clear he
    have hsz : i < (⟨s.toArray⟩ : ByteArray).size := hlt
    have hat := text_at hc hsz
    by_cases hcb : c = b
    · subst hcb
      have htest : ((((⟨s.toArray⟩ : ByteArray)[i].toNat : Int)) == (c.toNat : Int)) = true := by rw [hat]; exact beq_self_eq_true _
      have HCut := hide (cut_hit HC.out hcut.out)
      have HST := hide (str_extract s f i)
      have ho := hO.out
      have hzs := HE.out.size
      clear hc hat hO hcut
      go_wp2_with (at_builtin; refine wpList_app rfl _ _ _ _ rfl Tryd.underlying36 _ 1 16 info_str rfl (by decide) rfl ho 1 [.string _] (by first | rfl | simp [go_sem]) rfl ?_ ?_ ?_ ?_ ?_; (intro u hu; simp at hu; first | (subst hu; rfl) | (rcases hu with rfl | rfl <;> rfl) | (rcases hu with rfl | rfl | rfl <;> rfl) | (rcases hu with rfl | rfl | rfl | rfl <;> rfl) | (rcases hu with rfl | rfl | rfl | rfl | rfl <;> rfl) | (rcases hu with rfl | rfl | rfl | rfl | rfl | rfl <;> rfl)); omega; omega; (first | omega | (simp; omega)); intro A' c' w' ho' hg' hb')
      have hE4 := hide (HE.out.trans_own (Nat.le_refl _) ho hg')
      have HO4 : Hid (Own w' w.heap.size 9 1 A' (m + 1) c' ((done ++ [(s.take i).drop f]).map strW)) := hide (by
        rw [List.map_append, List.map_cons, List.map_nil, ← HST.out]; exact ho')
      clear ho ho' hg' hb'
      exact ⟨⟨(by (repeat (first | exact trivial | refine ⟨rfl, ?_⟩))), hE4.out, i + 1, i + 1, m + 1, c', A', _, by omega, by omega, by omega, by go_num, by go_num, rfl, HCut, HO4⟩, (by simp [intOf] <;> omega)⟩
    · have htest : ((((⟨s.toArray⟩ : ByteArray)[i].toNat : Int)) == (b.toNat : Int)) = false := by rw [hat]; exact byte_eq hcb
      have HCut := hide (cut_go HC.out hf hcut.out hcb)
      clear hc hat hcut
      go_wp2_with fail
      exact ⟨⟨(by (repeat (first | exact trivial | refine ⟨rfl, ?_⟩))), HE.out, i + 1, f, m, d, A2, _, by omega, by omega, by omega, by go_num, rfl, rfl, HCut, hO⟩, (by simp [intOf] <;> omega)⟩
  · obtain rfl : i = s.length := by omega
    have hsl : f ≤ s.length := hf
    have HST := hide (str_extract s f s.length)
    have HR : Hid (R = done.map strW ++ [.string ((⟨s.toArray⟩ : ByteArray).extract f s.length)]) := hide (by
      have h1 := hcut.out
      rw [List.take_length] at h1
      rw [HRR.out, h1, HST.out, List.take_length, List.map_append]; rfl)
    have ho := hO.out
    have hzs := HE.out.size
    clear hO hcut he
    go_wp2_with (at_builtin; refine wpList_app rfl _ _ _ _ rfl Tryd.underlying36 _ 1 16 info_str rfl (by decide) rfl ho 1 [.string _] (by first | rfl | simp [go_sem]) rfl ?_ ?_ ?_ ?_ ?_; (intro u hu; simp at hu; first | (subst hu; rfl) | (rcases hu with rfl | rfl <;> rfl) | (rcases hu with rfl | rfl | rfl <;> rfl) | (rcases hu with rfl | rfl | rfl | rfl <;> rfl) | (rcases hu with rfl | rfl | rfl | rfl | rfl <;> rfl) | (rcases hu with rfl | rfl | rfl | rfl | rfl | rfl <;> rfl)); omega; omega; (first | omega | (simp; omega)); intro A' c' w' ho' hg' hb')
    have hE4 := hide (HE.out.trans_own (Nat.le_refl _) ho hg')
    go_ret
    exact ⟨_, _, _, rfl, by rw [HR.out]; exact ho', hE4.out⟩
end Go.Proofs.YtjlnlicojcfpiaaDoor
