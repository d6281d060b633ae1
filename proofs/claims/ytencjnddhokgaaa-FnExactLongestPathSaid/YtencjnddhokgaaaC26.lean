/-
  The longest path of a dag, as the program reckons it.
-/
import Derived.Test.YtencjnddhokgaaaC25
namespace Go.Proofs.Ytencjnddhokgaaa
set_option linter.unusedSimpArgs false
set_option linter.unusedVariables false
open Go.RowKit
theorem mid_get {α} (L R : List α) (v : α) {k : Nat} (h : L.length = k) : (L ++ v :: R)[k]? = some v := by subst h; simp
theorem mid_low {α} (L R : List α) (v : α) {k u : Nat} (h : L.length = k) (hu : u < k) : (L ++ v :: R)[u]? = L[u]? := List.getElem?_append_left (by omega)
theorem mid_set {α} (L R : List α) (v x : α) {k : Nat} (h : L.length = k) : (L ++ v :: R).set k x = L ++ x :: R := by subst h; simp
set_option maxRecDepth 100000 in
set_option maxHeartbeats 1600000 in
theorem impl_LongestPath_c (A : Option Addr) (n d : Nat) (xss : List (List Int)) (w : World) (h : Intss w A n xss) :
    Calls Try.prog 38 #[.agg #[.slice A n d]] w fun e w' =>
      ∃ t : Int, e = .returned (.tuple #[.int .i64 t, .bool (dagOk xss)]) ∧ t = (if dagOk xss then pathLen xss else 0) ∧ Ext w w' := by
  have hb := h.bound
  have HL := hide h.len
  cases hd : dagOk xss
  · simp only [Bool.false_eq_true, if_false]
    have HD := hide hd
    clear hd
    go_enter Try.func38, Try.ntmps38
    go_wp2_with (go_at_call 78; refine (impl_IsDag_c _ _ _ xss _ (h.ext (by (repeat (first | with_reducible exact Ext.refl _ | with_reducible assumption | ((with_reducible refine Ext.setCell ?_ ?_ _); rotate_left; focus (first | omega | (simp <;> omega))) | with_reducible refine Ext.alloc ?_ _ | with_reducible refine Ext.drewN ?_ _ | with_reducible refine Ext.drew ?_ | with_reducible refine Ext.trans ?_ (by with_reducible assumption)))))).mono ?_; rw [HD.out]; rintro e w1 ⟨rfl, he⟩)
    go_ret2
    exact ⟨_, rfl, rfl, by (repeat (first | with_reducible exact Ext.refl _ | with_reducible assumption | ((with_reducible refine Ext.setCell ?_ ?_ _); rotate_left; focus (first | omega | (simp <;> omega))) | with_reducible refine Ext.alloc ?_ _ | with_reducible refine Ext.drewN ?_ _ | with_reducible refine Ext.drew ?_ | with_reducible refine Ext.trans ?_ (by with_reducible assumption)))⟩
  · simp only [if_true]
    have hn10 : n ≤ 10 := by have := dagOk_len hd; have := HL.out; omega
    have hn1 : 1 ≤ n := by have := within_true (and2_true hd).1; have := HL.out; omega
    have HD := hide hd
    clear hd
    have hmk := fun W => make_eq (P := Try.prog) 22 3 Try.underlying22 _ 8 info_int rfl n (by omega) (by omega) W
    go_enter Try.func38, Try.ntmps38
    go_wp2_with (go_at_call 78; refine (impl_IsDag_c _ _ _ xss _ (h.ext (by (repeat (first | with_reducible exact Ext.refl _ | with_reducible assumption | ((with_reducible refine Ext.setCell ?_ ?_ _); rotate_left; focus (first | omega | (simp <;> omega))) | with_reducible refine Ext.alloc ?_ _ | with_reducible refine Ext.drewN ?_ _ | with_reducible refine Ext.drew ?_ | with_reducible refine Ext.trans ?_ (by with_reducible assumption)))))).mono ?_; rw [HD.out]; rintro e w1 ⟨rfl, he⟩; have c1 := he.cell (p := ⟨w.heap.size, 0, none⟩) (u := .slice A n d) (by simp [go_sem]); have hs := he.size; simp at hs; have c1a := fun o => ((Ext.refl w1).alloc o).cell c1)
    clear hmk
    have h0 := Own.made (base := w.heap.size) (w := w1) (e := 3) (.int .i64 0) n (by omega) (by simp only [maxLen]; omega)
    have hx : Ext w w1 := by (repeat (first | with_reducible exact Ext.refl _ | with_reducible assumption | ((with_reducible refine Ext.setCell ?_ ?_ _); rotate_left; focus (first | omega | (simp <;> omega))) | with_reducible refine Ext.alloc ?_ _ | with_reducible refine Ext.drewN ?_ _ | with_reducible refine Ext.drew ?_ | with_reducible refine Ext.trans ?_ (by with_reducible assumption)))
    have hbx : BoxAt w1 w.heap.size 49 #[.slice A n d] := (BoxAt.made w _ _).ext he
    refine wp_loopK _ rfl (fun KK acT wr => ∃ s0 s1 s2 s3 s4 s5 s6 s7 s8 s9 s10 s11 s12 s13 s14 s15 s16 s17 s18 s19 s20 s21 s22 s23 s24 s25 s26 s27 s28 s29 s30 s31 s32 s33 s34 s35 s36 s37 s38 s39 s40 s41 s42 s43 s44 s45 s46 s47 s48 s49 s50 s51 : Value, (KeptM [false, false, false, false, true, false, false, false, false, false, false, false, false, false, false, false, false, true, true, false, false, false, false, false, false, false, false, false, false, false, false, false, false, false, false, false, false, false, false, false, false, false, false, false, false, false, false, false, false, false, true, true] [s0, s1, s2, s3, s4, s5, s6, s7, s8, s9, s10, s11, s12, s13, s14, s15, s16, s17, s18, s19, s20, s21, s22, s23, s24, s25, s26, s27, s28, s29, s30, s31, s32, s33, s34, s35, s36, s37, s38, s39, s40, s41, s42, s43, s44, s45, s46, s47, s48, s49, s50, s51] KK ∧ (Ext w wr ∧ BoxAt wr w.heap.size 49 #[.slice A n d] ∧ ∃ k : Nat, k ≤ n ∧ s19 = .int .i64 k ∧ ∃ ys : List Int, Hid (ys = lpAll (xss.take k) ++ List.replicate (n - k) 0) ∧ Own wr w.heap.size 3 1 (some ⟨w1.heap.size, 0, none⟩) n n (ys.map (Value.int .i64)))) ∧ acT = ⟨#[s0, s1, s2, s3, s4, s5, s6, s7, s8, s9, s10, s11, s12, s13, s14, s15, s16, s17, s18, s19, s20, s21, s22, s23, s24, s25, s26, s27, s28, s29, s30, s31, s32, s33, s34, s35, s36, s37, s38, s39, s40, s41, s42, s43, s44, s45, s46, s47, s48, s49, s50, s51], []⟩) (fun acT wr => (fun (s19 : Value) (wr : World) => n - (intOf s19).toNat) (acT.tmps.getD 19 undef) wr) ?_ ?_
    · (refine ⟨_, _, _, _, _, _, _, _, _, _, _, _, _, _, _, _, _, _, _, _, _, _, _, _, _, _, _, _, _, _, _, _, _, _, _, _, _, _, _, _, _, _, _, _, _, _, _, _, _, _, _, _, ⟨(by (repeat (first | exact trivial | refine ⟨rfl, ?_⟩))), ?_⟩, rfl⟩; exact ⟨by (repeat (first | with_reducible exact Ext.refl _ | with_reducible assumption | ((with_reducible refine Ext.setCell ?_ ?_ _); rotate_left; focus (first | omega | (simp <;> omega))) | with_reducible refine Ext.alloc ?_ _ | with_reducible refine Ext.drewN ?_ _ | with_reducible refine Ext.drew ?_ | with_reducible refine Ext.trans ?_ (by with_reducible assumption))), hbx.ext (by (repeat (first | with_reducible exact Ext.refl _ | with_reducible assumption | ((with_reducible refine Ext.setCell ?_ ?_ _); rotate_left; focus (first | omega | (simp <;> omega))) | with_reducible refine Ext.alloc ?_ _ | with_reducible refine Ext.drewN ?_ _ | with_reducible refine Ext.drew ?_ | with_reducible refine Ext.trans ?_ (by with_reducible assumption)))), 0, by omega, rfl, List.replicate n 0, by simp [Hid, lpAll], by simpa using h0⟩)
    intro _ wr hinv; obtain ⟨s0, s1, s2, s3, s4, s5, s6, s7, s8, s9, s10, s11, s12, s13, s14, s15, s16, s17, s18, s19, s20, s21, s22, s23, s24, s25, s26, s27, s28, s29, s30, s31, s32, s33, s34, s35, s36, s37, s38, s39, s40, s41, s42, s43, s44, s45, s46, s47, s48, s49, s50, s51, ⟨hkept, hrel⟩, rfl⟩ := hinv; simp only [KeptM] at hkept; obtain ⟨rfl, rfl, rfl, rfl, rfl, -⟩ := hkept; (try dsimp only)
    clear h0 hx hbx c1 c1a he
    obtain ⟨he, hbx, k, hk, rfl, ys, hys, ho⟩ := hrel
    have c1 := hbx.cell 0 _ rfl
    have hle := hide (lpAll_le xss k)
    by_cases hlt : k < n
    · obtain ⟨ad, xs, X, y, z, rfl, hx, gc, gin⟩ := h.at_ hlt
      have hc := he.cell gc
      have hyl := hide gin.len
      have hyb := gin.bound
      have hone := hide (lpOne_le hle.out (by omega) xs)
      have hll : Hid ((lpAll (xss.take k)).length = k) := hide (by rw [lpAll_length]; simp; have := HL.out; omega)
      have hys0 : Hid (ys = lpAll (xss.take k) ++ (0 : Int) :: List.replicate (n - k - 1) 0) := hide (by rw [hys.out, show n - k = (n - k - 1) + 1 by omega, List.replicate_succ]; simp)
      clear hys
      go_wp2
      refine wp_loopK _ rfl (fun KK acT wr => ∃ s0 s1 s2 s3 s4 s5 s6 s7 s8 s9 s10 s11 s12 s13 s14 s15 s16 s17 s18 s19 s20 s21 s22 s23 s24 s25 s26 s27 s28 s29 s30 s31 s32 s33 s34 s35 s36 s37 s38 s39 s40 s41 s42 s43 s44 s45 s46 s47 s48 s49 s50 s51 : Value, (KeptM [false, false, false, false, true, true, true, false, false, false, false, false, false, false, false, false, false, true, true, true, true, true, true, true, true, true, false, false, false, false, false, false, false, false, false, false, false, false, false, false, false, false, false, true, true, true, true, true, true, true, true, true] [s0, s1, s2, s3, s4, s5, s6, s7, s8, s9, s10, s11, s12, s13, s14, s15, s16, s17, s18, s19, s20, s21, s22, s23, s24, s25, s26, s27, s28, s29, s30, s31, s32, s33, s34, s35, s36, s37, s38, s39, s40, s41, s42, s43, s44, s45, s46, s47, s48, s49, s50, s51] KK ∧ (Ext w wr ∧ BoxAt wr w.heap.size 49 #[.slice (some ad) n d] ∧ ∃ j : Nat, j ≤ y ∧ s26 = .int .i64 j ∧ ∃ t : Int, Hid (t + 1 = lpOne (lpAll (xss.take k)) (xs.take j)) ∧ ∃ ys : List Int, Hid (ys = lpAll (xss.take k) ++ t :: List.replicate (n - k - 1) 0) ∧ Own wr w.heap.size 3 1 (some ⟨w1.heap.size, 0, none⟩) n n (ys.map (Value.int .i64)))) ∧ acT = ⟨#[s0, s1, s2, s3, s4, s5, s6, s7, s8, s9, s10, s11, s12, s13, s14, s15, s16, s17, s18, s19, s20, s21, s22, s23, s24, s25, s26, s27, s28, s29, s30, s31, s32, s33, s34, s35, s36, s37, s38, s39, s40, s41, s42, s43, s44, s45, s46, s47, s48, s49, s50, s51], []⟩) (fun acT wr => (fun (s26 : Value) (wr : World) => y - (intOf s26).toNat) (acT.tmps.getD 26 undef) wr) ?_ ?_
      · (refine ⟨_, _, _, _, _, _, _, _, _, _, _, _, _, _, _, _, _, _, _, _, _, _, _, _, _, _, _, _, _, _, _, _, _, _, _, _, _, _, _, _, _, _, _, _, _, _, _, _, _, _, _, _, ⟨(by (repeat (first | exact trivial | refine ⟨rfl, ?_⟩))), ?_⟩, rfl⟩; exact ⟨he, hbx, 0, by omega, rfl, 0, by simp [Hid, lpOne], ys, hys0, ho⟩)
      intro _ wr hinv; obtain ⟨s0, s1, s2, s3, s4, s5, s6, s7, s8, s9, s10, s11, s12, s13, s14, s15, s16, s17, s18, s19, s20, s21, s22, s23, s24, s25, s26, s27, s28, s29, s30, s31, s32, s33, s34, s35, s36, s37, s38, s39, s40, s41, s42, s43, s44, s45, s46, s47, s48, s49, s50, s51, ⟨hkept, hrel⟩, rfl⟩ := hinv; simp only [KeptM] at hkept; obtain ⟨rfl, rfl, rfl, rfl, rfl, rfl, rfl, rfl, rfl, rfl, rfl, rfl, rfl, rfl, rfl, rfl, rfl, rfl, rfl, rfl, rfl, -⟩ := hkept; (try dsimp only)
      clear he hbx ho hys0 c1 hc
      obtain ⟨he, hbx, j, hj, rfl, t, ht, ys, hys, ho⟩ := hrel
      have c1 := hbx.cell 0 _ rfl
      have hin := gin.ext he
      have htb : 0 ≤ t ∧ t ≤ (k : Int) := by have := hone.out j; rw [← ht.out] at this; omega
      obtain ⟨q, hq, hqc, hqf⟩ := ho.int_at hlt
      obtain rfl : t = q := by have h1 := hq.out; rw [hys.out, mid_get _ _ _ hll.out] at h1; injection h1
      by_cases hlt1 : j < y
      · obtain ⟨bd, p, rfl, hp, hcp⟩ := hin.at_ hlt1
        obtain ⟨u, rfl, hu⟩ := pred_low HD.out hx hp
        obtain ⟨v, hv, hvc, _⟩ := ho.int_at (show u < n by omega)
        have hv2 : Hid ((lpAll (xss.take k))[u]? = some v) := hide (by have h1 := hv.out; rwa [hys.out, mid_low _ _ _ hll.out hu] at h1)
        have hvb := hle.out v (List.mem_of_getElem? hv2.out)
        have ht2 : Hid (max t v + 1 = lpOne (lpAll (xss.take k)) (xs.take (j + 1))) := hide (by rw [lpOne_succ hp, ← ht.out, Int.toNat_natCast, getD_of hv2]; omega)
        have hys2 : Hid (ys.set k (max t v) = lpAll (xss.take k) ++ max t v :: List.replicate (n - k - 1) 0) := hide (by rw [hys.out, mid_set _ _ _ _ hll.out])
        have hkn : (k : Int) < (n : Int) := by omega
        have hun : (u : Int) < (n : Int) := by omega
        have hed := (Ext.refl wr).drew
        have hmax : (if t < v then v else t) = max t v := by omega
        go_wp2
        go_still_tail 12, (by kernel_rfl)
        all_goals
          change wpList _ _ _ _ _ wr.drew
          generalize wr.drew = w2 at hed ⊢
          have hqc2 := hed.cell hqc
          have ho2 := (ho.ext hed).setInt k (max t v)
          rw [hys2.out] at ho2
          have hbx2 := (hbx.ext hed).setOther (p := ⟨w1.heap.size, k, none⟩) (by first | omega | (simp <;> omega)) (.int .i64 (max t v))
          have hqf2 := (ho.ext hed).frozen k
          go_wp2
          exact ⟨⟨(by (repeat (first | exact trivial | refine ⟨rfl, ?_⟩))), (he.trans hed).setCell (by first | omega | (simp <;> omega)) _, hbx2, j + 1, by omega, by go_num, _, ht2, _, hide rfl, ho2⟩, (by simp [intOf] <;> omega)⟩
      · obtain rfl : j = y := by omega
        have hall : Hid (t + 1 = lpOne (lpAll (xss.take k)) xs) := hide (by rw [ht.out, show xs.take j = xs from List.take_of_length_le (by rw [hyl.out]; exact Nat.le_refl _)])
        have hsucc := hide (lpAll_succ hx)
        have hkn : (k : Int) < (n : Int) := by omega
        have ho2 := ho.setInt k (t + 1)
        have hbx2 := hbx.setOther (p := ⟨w1.heap.size, k, none⟩) (by first | omega | (simp <;> omega)) (.int .i64 (t + 1))
        have hys2 : Hid (ys.set k (t + 1) = lpAll (xss.take (k + 1)) ++ List.replicate (n - (k + 1)) 0) := hide (by rw [hys.out, mid_set _ _ _ _ hll.out, hsucc.out, ← hall.out, show n - (k + 1) = n - k - 1 by omega]; simp)
        go_wp2
        exact ⟨⟨(by (repeat (first | exact trivial | refine ⟨rfl, ?_⟩))), he.setCell (by first | omega | (simp <;> omega)) _, hbx2, k + 1, by omega, by go_num, _, hys2, ho2⟩, (by simp [intOf] <;> omega)⟩
    · obtain rfl : k = n := by omega
      have hyl : ys = lpAll xss := by have := hys.out; simpa [List.take_of_length_le (show xss.length ≤ k by have := HL.out; omega)] using this
      subst hyl
      have hp : ∀ x ∈ lpAll xss, 0 ≤ x := fun x hx => by
        have := hle.out x (by rwa [List.take_of_length_le (show xss.length ≤ k by have := HL.out; omega)])
        omega
      have hm := Max_int_c (some ⟨w1.heap.size, 0, none⟩) k k (lpAll xss) wr (ho.ints (by omega)) (by omega) hp
      obtain ⟨M, hM⟩ : ∃ M, M = maxOf (lpAll xss) := ⟨_, rfl⟩
      rw [← hM] at hm
      have HM := hide hm
      have HMM := hide hM
      clear hm hp hM
      go_wp2_with (go_at_call 79; refine HM.out.mono ?_; rintro e w2 ⟨rfl, he2⟩)
      go_ret2
      exact ⟨_, rfl, by rw [HMM.out, pathLen], he.trans he2⟩
end Go.Proofs.Ytencjnddhokgaaa
