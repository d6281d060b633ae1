/-
  The text of an inequality: plain, and the reference's; no condition.
-/
import Derived.Test.YtaigjmbhgpcalaaDoorT2p
import Derived.Test.YtaigjmbhgpcalaaDoorC8
import Derived.Test.YtaigjmbhgpcalaaDoorC12
namespace Go.Proofs.YtaigjmbhgpcalaaDoor
set_option linter.unusedSimpArgs false
set_option linter.unusedVariables false
open Go.RowKit
theorem text_step {l : List UInt8} (hl : l ≠ []) (a b : List UInt8) : ((((⟨l.toArray⟩ : ByteArray) ++ ⟨#[32]⟩) ++ ⟨a.toArray⟩) ++ ⟨#[120]⟩) ++ ⟨b.toArray⟩ = ⟨(joinNext l [32] (a ++ [120] ++ b)).toArray⟩ := by
  rw [show (⟨#[32]⟩ : ByteArray) = ⟨[32].toArray⟩ from rfl, show (⟨#[120]⟩ : ByteArray) = ⟨[120].toArray⟩ from rfl, bytes_app, bytes_app, bytes_app, bytes_app]
  unfold joinNext
  rw [if_neg hl]; simp
theorem text_first (a b : List UInt8) : (((⟨#[]⟩ : ByteArray) ++ ⟨a.toArray⟩) ++ ⟨#[120]⟩) ++ ⟨b.toArray⟩ = ⟨(joinNext [] [32] (a ++ [120] ++ b)).toArray⟩ := by
  rw [show (⟨#[]⟩ : ByteArray) = ⟨[].toArray⟩ from rfl, show (⟨#[120]⟩ : ByteArray) = ⟨[120].toArray⟩ from rfl, bytes_app, bytes_app, bytes_app]
  unfold joinNext
  rw [if_pos rfl]; simp
theorem text_end (l b : List UInt8) : ((⟨l.toArray⟩ : ByteArray) ++ ⟨#[32, 62, 61, 32]⟩) ++ ⟨b.toArray⟩ = ⟨(l ++ [32, 62, 61, 32] ++ b).toArray⟩ := by
  rw [show (⟨#[32, 62, 61, 32]⟩ : ByteArray) = ⟨[32, 62, 61, 32].toArray⟩ from rfl, bytes_app, bytes_app]
set_option maxRecDepth 100000 in
set_option maxHeartbeats 6400000 in
theorem spec_PlaneText_c (v bd : Int) (A : Option Addr) (n c : Nat) (xs : List Int) (w : World) (h : Ints w A n xs) :
    Calls Tryd.prog 6 #[.int .i64 v, .agg #[.slice A n c, .int .i64 bd]] w fun e w' => e = .returned (.tuple #[.string ⟨(textP v bd xs).toArray⟩, .bool (ineqOk v bd xs)]) ∧ Ext w w' := by
  have HN := hide (fun Wd (E : Ext w Wd) => spec_IsInequality_c v bd A n c xs Wd (h.ext E))
  have E0 : Hid (Ext w (w.alloc (.cells #[.slice A n c, .int .i64 bd] 28))) := hide ((Ext.refl w).alloc _)
  unfold textP
  cases hn : ineqOk v bd xs
  · rw [hn] at HN; clear hn
    simp only [Bool.false_eq_true, if_false]
    go_enter Tryd.func6, Tryd.ntmps6
    go_wp2_with fail
    refine (HN.out _ E0.out).mono ?_
    rintro e1 w1 ⟨rfl, he1⟩
    go_wp2_with fail
    go_ret2
    exact ⟨rfl, E0.out.trans he1⟩
  rw [hn] at HN
  obtain ⟨hv, hxl, hbd, hxs⟩ := ineq_facts hn
  obtain ⟨u, rfl⟩ := int_nat hv.1
  have hnl : n = u := by have := h.len; omega
  subst hnl
  have hln := h.len
  have HXS := hide hxs
  have HBL := hide (fun i (hi : i ≤ n) => body_len hxs i (by omega) (by omega))
  obtain ⟨T, hT⟩ : ∃ T, T = textB xs bd := ⟨_, rfl⟩
  have HT : Hid (T = (if bodyTo xs n = [] then [48] else bodyTo xs n) ++ [32, 62, 61, 32] ++ Lib.itoa bd) := hide (by rw [hT]; unfold textB; rw [← hln])
  simp only [if_true]
  rw [← hT]
  have HNum := hide (fun (x : Int) (hx : -1000000 ≤ x ∧ x ≤ 1000000) W => l1Num_c x hx W)
  have HLN := hide hln
  have hvn : n ≤ 12 := by omega
  clear hn hxs hT hln hxl hv
  go_enter Tryd.func6, Tryd.ntmps6
  go_wp2_with fail
  refine (HN.out _ E0.out).mono ?_
  rintro e1 w1 ⟨rfl, he1⟩
  have ew1 := hide (E0.out.trans he1)
  have HB1 : Hid (BoxAt w1 w.heap.size 28 #[.slice A n c, .int .i64 bd]) := hide ((BoxAt.made w _ _).ext he1)
  clear he1
  go_wp2_with fail
  refine wp_loopF 48 _ rfl rfl [0, 3, 40, 41, 42, 43, 44, 45, 46, 47] rfl (fun fr wr => Ext w1 wr ∧ ∃ i : Nat, i ≤ n ∧ (fr 7) = .int .i64 i ∧ (fr 6) = .string ⟨(bodyTo xs i).toArray⟩) (fun fr wr => n - (intOf (fr 7)).toNat) ?_ ?_
  · (exact ⟨Ext.refl _, 0, by omega, rfl, rfl⟩)
  intro ks fr wr hkept hrel; (try dsimp only at hrel)
  change Code.wp _ _ _ ⟨#[ks 0, fr 1, fr 2, ks 3, fr 4, fr 5, fr 6, fr 7, fr 8, fr 9, fr 10, fr 11, fr 12, fr 13, fr 14, fr 15, fr 16, fr 17, fr 18, fr 19, fr 20, fr 21, fr 22, fr 23, fr 24, fr 25, fr 26, fr 27, fr 28, fr 29, fr 30, fr 31, fr 32, fr 33, fr 34, fr 35, fr 36, fr 37, fr 38, fr 39, ks 40, ks 41, ks 42, ks 43, ks 44, ks 45, ks 46, ks 47], []⟩ wr
  simp only [KeptV, List.getD_cons_zero, List.getD_cons_succ] at hkept; obtain ⟨hk0, hk3, hk40, hk41, hk42, hk43, hk44, hk45, hk46, hk47, -⟩ := hkept
  generalize ks 0 = k0 at hk0 ⊢; subst hk0
  generalize ks 3 = k3 at hk3 ⊢; subst hk3
  generalize ks 40 = k40 at hk40 ⊢; subst hk40
  generalize ks 41 = k41 at hk41 ⊢; subst hk41
  generalize ks 42 = k42 at hk42 ⊢; subst hk42
  generalize ks 43 = k43 at hk43 ⊢; subst hk43
  generalize ks 44 = k44 at hk44 ⊢; subst hk44
  generalize ks 45 = k45 at hk45 ⊢; subst hk45
  generalize ks 46 = k46 at hk46 ⊢; subst hk46
  generalize ks 47 = k47 at hk47 ⊢; subst hk47
  generalize fr 6 = s6 at hrel ⊢
  generalize fr 7 = s7 at hrel ⊢
  obtain ⟨he, i, hi, hs1, hs2⟩ := hrel
  subst hs1
  subst hs2
  have HE := hide he
  have hb := HB1.out.ext he
  have b0 := hb.cell 0 (.slice A n c) rfl
  have b1 := hb.cell 1 (.int .i64 bd) rfl
  have hbl := HBL.out i hi
  by_cases hlt : i < n
  · obtain ⟨ad, x, rfl, hx, gx⟩ := (h.ext (ew1.out.trans he)).at_ hlt
    have hxb := HXS.out x (List.mem_of_getElem? hx.out)
    clear he hb
    by_cases h0 : x = 0
    · have HB := hide (body_zero hx.out h0)
      subst h0
      clear hx hbl
      go_wp2_with fail
      exact ⟨⟨(by (repeat (first | exact trivial | refine ⟨rfl, ?_⟩))), HE.out, i + 1, by omega, by go_num, by rw [HB.out]; rfl⟩, (by simp [intOf] <;> omega)⟩
    · have HB := hide (body_next hx.out h0)
      have HNx := hide (fun W => HNum.out x (by omega) W)
      have HNi := hide (fun W => HNum.out ((i : Int) + 1) (by omega) W)
      have hx0 : (x == 0) = false := by simpa using h0
      have hl1 := itoa_len x
      have hl2 := itoa_len ((i : Int) + 1)
      clear hx
      obtain ⟨l, hl⟩ : ∃ l, l = bodyTo xs i := ⟨_, rfl⟩
      rw [← hl] at HB hbl ⊢
      clear hl
      have hq1 : (Lib.itoa x).length ≤ 1002 := by omega
      have hq2 : (Lib.itoa ((i : Int) + 1)).length ≤ 20 := by omega
      have hq3 : l.length ≤ 30000 := by omega
      have hi64 : IntKind.i64.wrap ((i : Int) + 1) = (i : Int) + 1 := IntWalk.i64_in _ (by omega)
      unfold termL at HB
      by_cases hl0 : l = []
      · subst hl0
        have hA : ¬ 9223372036854775807 < (Lib.itoa x).length := by omega
        have hB : ¬ 9223372036854775807 < (Lib.itoa x).length + 1 := by omega
        have hC : ¬ 9223372036854775807 < (Lib.itoa x).length + 1 + (Lib.itoa ((i : Int) + 1)).length := by omega
        have HTx := hide (text_first (Lib.itoa x) (Lib.itoa ((i : Int) + 1)))
        clear hl1 hl2 hbl
        go_wp2_with fail
        refine (HNx.out _).mono ?_
        rintro e w2 ⟨rfl, he2⟩
        go_wp2_with fail
        refine (HNi.out _).mono ?_
        rintro e w3 ⟨rfl, he3⟩
        have HE3 := (HE.out.trans he2).trans he3
        go_wp2_with fail
        exact ⟨⟨(by (repeat (first | exact trivial | refine ⟨rfl, ?_⟩))), HE3, i + 1, by omega, by go_num, by rw [HB.out, ← HTx.out]; rfl⟩, (by simp [intOf] <;> omega)⟩
      · have hle : l.isEmpty = false := by simpa using hl0
        have hA : ¬ 9223372036854775807 < l.length + 1 := by omega
        have hB : ¬ 9223372036854775807 < l.length + 1 + (Lib.itoa x).length := by omega
        have hC : ¬ 9223372036854775807 < l.length + 1 + (Lib.itoa x).length + 1 := by omega
        have hD : ¬ 9223372036854775807 < l.length + 1 + (Lib.itoa x).length + 1 + (Lib.itoa ((i : Int) + 1)).length := by omega
        have HTx := hide (text_step hl0 (Lib.itoa x) (Lib.itoa ((i : Int) + 1)))
        clear hl1 hl2 hbl
        go_wp2_with fail
        refine (HNx.out _).mono ?_
        rintro e w2 ⟨rfl, he2⟩
        go_wp2_with fail
        refine (HNi.out _).mono ?_
        rintro e w3 ⟨rfl, he3⟩
        have HE3 := (HE.out.trans he2).trans he3
        go_wp2_with fail
        exact ⟨⟨(by (repeat (first | exact trivial | refine ⟨rfl, ?_⟩))), HE3, i + 1, by omega, by go_num, by rw [HB.out, ← HTx.out]; rfl⟩, (by simp [intOf] <;> omega)⟩
  · obtain rfl : i = n := by omega
    have HNb := hide (fun W => HNum.out bd (by omega) W)
    have hl3 := itoa_len bd
    have hq2 : (Lib.itoa bd).length ≤ 10002 := by omega
    obtain ⟨l, hl⟩ : ∃ l, l = bodyTo xs i := ⟨_, rfl⟩
    rw [← hl] at HT hbl ⊢
    have hq3 : l.length ≤ 30000 := by omega
    have HEw := hide (ew1.out.trans he)
    clear hl he hb hl3 hbl
    by_cases hl0 : l = []
    · subst hl0
      have HTe : Hid (T = [48] ++ [32, 62, 61, 32] ++ Lib.itoa bd) := hide (by rw [HT.out, if_pos rfl])
      have hA : ¬ 9223372036854775807 < 5 + (Lib.itoa bd).length := by omega
      have HTx := hide (text_end [48] (Lib.itoa bd))
      clear HT
      go_wp2_with fail
      refine (HNb.out _).mono ?_
      rintro e w2 ⟨rfl, he2⟩
      go_wp2_with fail
      go_ret2
      exact ⟨by rw [HTe.out, ← HTx.out]; rfl, HEw.out.trans he2⟩
    · have hle : l.isEmpty = false := by simpa using hl0
      have HTe : Hid (T = l ++ [32, 62, 61, 32] ++ Lib.itoa bd) := hide (by rw [HT.out, if_neg hl0])
      have hA : ¬ 9223372036854775807 < l.length + 4 := by omega
      have hB : ¬ 9223372036854775807 < l.length + 4 + (Lib.itoa bd).length := by omega
      have HTx := hide (text_end l (Lib.itoa bd))
      clear HT
      go_wp2_with fail
      refine (HNb.out _).mono ?_
      rintro e w2 ⟨rfl, he2⟩
      go_wp2_with fail
      go_ret2
      exact ⟨by rw [HTe.out, ← HTx.out]; rfl, HEw.out.trans he2⟩
end Go.Proofs.YtaigjmbhgpcalaaDoor
