/-
  The program's text of an inequality, where the library's table lies in memory; no condition.
-/
import Derived.Test.YtaigjmbhgpcalaaDoorT2
import Derived.WalkSmall
namespace Go.Proofs.YtaigjmbhgpcalaaDoor
set_option linter.unusedSimpArgs false
set_option linter.unusedVariables false
open Go.RowKit
open Go.Sort (grow)
theorem gTab : Tryd.prog.globalNamed "internal/strconv.uint64pow10" = some 0 := by kernel_rfl
def Tab (w : World) : Prop := Lib.TabIs Tryd.prog w "internal/strconv.uint64pow10" .u64 Lib.pow10Tab
theorem Tab.ext {w w' : World} (h : Tab w) (he : Ext w w') : Tab w' := by
  unfold Tab Lib.TabIs at h ⊢
  have hg : 0 < w.heap.size := by
    rcases Nat.eq_zero_or_pos w.heap.size with h0 | h0
    · exfalso
      unfold World.var? at h
      rw [gTab] at h
      simp only [Option.bind_some] at h
      rw [Array.getElem?_eq_none (by omega)] at h
      cases h
    · exact h0
  exact var?_below he gTab hg h
theorem grow_ext (w : World) (k : Nat) (os : Array Obj) : Ext w (grow (w.drewN k) os) := by
  refine ⟨rfl, rfl, rfl, ?_, fun j hj => ?_⟩
  · unfold grow; simp
  · unfold grow
    show (w.heap ++ os)[j]? = _
    rw [Array.getElem?_append_left hj]
theorem Itoa_c (n : Int) (h : -1000000 ≤ n ∧ n ≤ 1000000) (w : World) (ht : Tab w) :
    Calls Tryd.prog 23 #[.int .i64 n] w fun e w' => e = .returned (.string ⟨(Lib.itoa n).toArray⟩) ∧ Ext w w' := by
  refine (Tryd.strconv_Itoa n (by omega) (by omega) w ht).mono ?_
  rintro e w' ⟨rfl, k, os, rfl⟩
  exact ⟨rfl, grow_ext w k os⟩
theorem info_string : (Tryd.prog.info? 9).map (fun i => (i.zero, i.size, i.bytes)) = some (some (.string ⟨#[]⟩), 1, 16) := by kernel_rfl
def strV (l : List UInt8) : Value := .string ⟨l.toArray⟩
theorem Own.capS {w : World} {base : Nat} {e : TypeId} {size : Nat} {A : Option Addr} {n c : Nat} {us : List Value} (h : Own w base e size A n c us) : n ≤ c := by
  rcases h.2 with ⟨hv, hn⟩ | ⟨g, cap, cur, hv, hb, hh, h1, h2, h3, h4⟩
  · omega
  · injection hv with e1 e2 e3
    omega
theorem Join_c (g d : Nat) (ws : List (List UInt8)) (sep : List UInt8) (base : Nat) (w : World) (ho : Own w base 9 1 (some ⟨g, 0, none⟩) ws.length d (ws.map strV)) (hN : ws.length ≤ 140737488355328) (hl : (Lib.join ws sep).length ≤ 140737488355328) :
    Calls Tryd.prog 24 #[.slice (some ⟨g, 0, none⟩) ws.length d, .string ⟨sep.toArray⟩] w fun e w' => e = .returned (.string ⟨(Lib.join ws sep).toArray⟩) ∧ Ext w w' := by
  have h1 : (ws.map fun l => (⟨l.toArray⟩ : ByteArray)).map (·.data.toList) = ws := by
    rw [List.map_map]; exact List.map_id' ws
  have h2 := Tryd.strings_Join g 0 d (ws.map fun l => (⟨l.toArray⟩ : ByteArray)) ⟨sep.toArray⟩ w (fun j x hx => by
    rw [Nat.zero_add]
    refine ho.cell ?_
    rw [List.getElem?_map] at hx ⊢
    cases h3 : ws[j]? with
    | none => rw [h3] at hx; cases hx
    | some l => rw [h3] at hx; simp at hx; subst hx; rfl) (ho.lt g rfl).2 (by simpa using hN) (by simpa using ho.capS) (by rw [h1]; simpa using hl)
  rw [h1, List.length_map] at h2
  exact h2
set_option maxRecDepth 100000 in
set_option maxHeartbeats 6400000 in
theorem impl_PlaneText_c (v bd : Int) (A : Option Addr) (n c : Nat) (xs : List Int) (w : World) (h : Ints w A n xs) (ht : Tab w) :
    Calls Tryd.prog 8 #[.int .i64 v, .agg #[.slice A n c, .int .i64 bd]] w fun e w' => e = .returned (.tuple #[.string ⟨(textP v bd xs).toArray⟩, .bool (ineqOk v bd xs)]) ∧ Ext w w' := by
  have HN := hide (fun Wd (E : Ext w Wd) => impl_IsInequality_c v bd A n c xs Wd (h.ext E))
  have E0 : Hid (Ext w (w.alloc (.cells #[.slice A n c, .int .i64 bd] 28))) := hide ((Ext.refl w).alloc _)
  unfold textP
  cases hn : ineqOk v bd xs
  · rw [hn] at HN; clear hn
    simp only [Bool.false_eq_true, if_false]
    go_enter Tryd.func8, Tryd.ntmps8
    go_wp2_with fail
    refine (HN.out _ E0.out).mono ?_
    rintro e1 w1 ⟨rfl, he1⟩
    go_wp2_with fail
    go_ret2
    exact ⟨rfl, E0.out.trans he1⟩
  rw [hn] at HN
  obtain ⟨hv, hxl, hbd, hxs⟩ := ineq_facts hn
  obtain ⟨u, rfl⟩ := int_nat hv.1
  have hnl : n = u := by have := h.len; omega
  subst hnl
  have hln := h.len
  have HXS := hide hxs
  have HBL := hide (fun i (hi : i ≤ n) => body_len hxs i (by omega) (by omega))
  obtain ⟨T, hT⟩ : ∃ T, T = textB xs bd := ⟨_, rfl⟩
  have HT : Hid (T = (if bodyTo xs n = [] then [48] else bodyTo xs n) ++ [32, 62, 61, 32] ++ Lib.itoa bd) := hide (by rw [hT]; unfold textB; rw [← hln])
  simp only [if_true]
  rw [← hT]
  have HNum := hide (fun (x : Int) (hx : -1000000 ≤ x ∧ x ≤ 1000000) W (E : Ext w W) => Itoa_c x hx W (ht.ext E))
  have HLN := hide hln
  have hvn : n ≤ 12 := by omega
  clear hn hxs hT hln hxl hv
  go_enter Tryd.func8, Tryd.ntmps8
  go_wp2_with fail
  refine (HN.out _ E0.out).mono ?_
  rintro e1 w1 ⟨rfl, he1⟩
  have ew1 := hide (E0.out.trans he1)
  have HB1 : Hid (BoxAt w1 w.heap.size 28 #[.slice A n c, .int .i64 bd]) := hide ((BoxAt.made w _ _).ext he1)
  have a0 := HB1.out.cell 0 (.slice A n c) rfl
  clear he1
  go_wp2_with fail
  refine wp_loopF 45 _ rfl rfl [3, 14, 15, 34, 35, 36, 37, 38, 39, 40, 41, 42, 43, 44] rfl (fun fr wr => Ext w1 wr ∧ ∃ (i m d : Nat) (A2 : Option Addr), i ≤ n ∧ m ≤ i ∧ (fr 16) = .int .i64 i ∧ (fr 6) = .slice A2 m d ∧ Hid (Own wr w1.heap.size 9 1 A2 m d ((wordsTo xs i).map strV))) (fun fr wr => n - (intOf (fr 16)).toNat) ?_ ?_
  · (exact ⟨Ext.refl _, 0, 0, 0, _, by omega, by omega, rfl, rfl, hide (Own.nil _ _ _ _)⟩)
  intro ks fr wr hkept hrel; (try dsimp only at hrel)
  change Code.wp _ _ _ ⟨#[fr 0, fr 1, fr 2, ks 3, fr 4, fr 5, fr 6, fr 7, fr 8, fr 9, fr 10, fr 11, fr 12, fr 13, ks 14, ks 15, fr 16, fr 17, fr 18, fr 19, fr 20, fr 21, fr 22, fr 23, fr 24, fr 25, fr 26, fr 27, fr 28, fr 29, fr 30, fr 31, fr 32, fr 33, ks 34, ks 35, ks 36, ks 37, ks 38, ks 39, ks 40, ks 41, ks 42, ks 43, ks 44], []⟩ wr
  simp only [KeptV, List.getD_cons_zero, List.getD_cons_succ] at hkept; obtain ⟨hk3, hk14, hk15, hk34, hk35, hk36, hk37, hk38, hk39, hk40, hk41, hk42, hk43, hk44, -⟩ := hkept
  generalize ks 3 = k3 at hk3 ⊢; subst hk3
  generalize ks 14 = k14 at hk14 ⊢; subst hk14
  generalize ks 15 = k15 at hk15 ⊢; subst hk15
  generalize ks 34 = k34 at hk34 ⊢; subst hk34
  generalize ks 35 = k35 at hk35 ⊢; subst hk35
  generalize ks 36 = k36 at hk36 ⊢; subst hk36
  generalize ks 37 = k37 at hk37 ⊢; subst hk37
  generalize ks 38 = k38 at hk38 ⊢; subst hk38
  generalize ks 39 = k39 at hk39 ⊢; subst hk39
  generalize ks 40 = k40 at hk40 ⊢; subst hk40
  generalize ks 41 = k41 at hk41 ⊢; subst hk41
  generalize ks 42 = k42 at hk42 ⊢; subst hk42
  generalize ks 43 = k43 at hk43 ⊢; subst hk43
  generalize ks 44 = k44 at hk44 ⊢; subst hk44
  generalize fr 6 = s6 at hrel ⊢
  generalize fr 16 = s16 at hrel ⊢
  obtain ⟨he, i, m, d, A2, hi, hmi, hs1, hs2, hO⟩ := hrel
  subst hs1
  subst hs2
  have HE := hide he
  have hb := HB1.out.ext he
  have b1 := hb.cell 1 (.int .i64 bd) rfl
  have ewr := hide (ew1.out.trans he)
  by_cases hlt : i < n
  · obtain ⟨ad, x, rfl, hx, gx⟩ := (h.ext ewr.out).at_ hlt
    have hxb := HXS.out x (List.mem_of_getElem? hx.out)
    clear he hb
    by_cases h0 : x = 0
    · have HW : Hid (wordsTo xs (i + 1) = wordsTo xs i) := hide (by simp only [wordsTo]; rw [getD_of hx, if_pos h0, List.append_nil])
      rw [← HW.out] at hO
      subst h0
      clear hx
      go_wp2_with fail
      exact ⟨⟨(by (repeat (first | exact trivial | refine ⟨rfl, ?_⟩))), HE.out, i + 1, m, d, A2, by omega, by omega, by go_num, rfl, hO⟩, (by simp [intOf] <;> omega)⟩
    · have HW : Hid (wordsTo xs (i + 1) = wordsTo xs i ++ [termL x i]) := hide (by simp only [wordsTo]; rw [getD_of hx, if_neg h0])
      have HNx := hide (fun W (E : Ext w W) => HNum.out x (by omega) W E)
      have HNi := hide (fun W (E : Ext w W) => HNum.out ((i : Int) + 1) (by omega) W E)
      have hx0 : (x == 0) = false := by simpa using h0
      have hx1 : (x != 0) = true := by simpa using h0
      have hl1 := itoa_len x
      have hl2 := itoa_len ((i : Int) + 1)
      have hA : ¬ 9223372036854775807 < (Lib.itoa x).length + 1 := by omega
      have hB : ¬ 9223372036854775807 < (Lib.itoa x).length + 1 + (Lib.itoa ((i : Int) + 1)).length := by omega
      have hi64 : IntKind.i64.wrap ((i : Int) + 1) = (i : Int) + 1 := IntWalk.i64_in _ (by omega)
      have HTx : Hid ((((⟨(Lib.itoa x).toArray⟩ : ByteArray) ++ ⟨#[120]⟩) ++ ⟨(Lib.itoa ((i : Int) + 1)).toArray⟩) = ⟨(termL x i).toArray⟩) := hide (by
        rw [show (⟨#[120]⟩ : ByteArray) = ⟨[120].toArray⟩ from rfl, bytes_app, bytes_app]; rfl)
      clear hx hl1 hl2
      go_wp2_with fail
      refine (HNx.out _ ewr.out).mono ?_
      rintro e w2 ⟨rfl, he2⟩
      go_wp2_with fail
      refine (HNi.out _ (ewr.out.trans he2)).mono ?_
      rintro e w3 ⟨rfl, he3⟩
      have ho3 := hO.out.ext (he2.trans he3)
      have HE3 := hide (HE.out.trans (he2.trans he3))
      have hz3 := HE3.out.size
      clear hO he2 he3
      go_wp2_with (at_builtin; refine wpList_app rfl _ _ _ _ rfl Tryd.underlying48 _ 1 16 info_string rfl (by decide) rfl ho3 1 [.string _] (by first | rfl | simp [go_sem]) rfl ?_ ?_ ?_ ?_ ?_; (intro u hu; simp at hu; first | (subst hu; rfl) | (rcases hu with rfl | rfl <;> rfl) | (rcases hu with rfl | rfl | rfl <;> rfl) | (rcases hu with rfl | rfl | rfl | rfl <;> rfl) | (rcases hu with rfl | rfl | rfl | rfl | rfl <;> rfl) | (rcases hu with rfl | rfl | rfl | rfl | rfl | rfl <;> rfl)); omega; omega; (first | omega | (simp; omega)); intro A' c' w' ho' hg' hb')
      have hE4 := hide (HE3.out.trans_own (Nat.le_refl _) ho3 hg')
      have HO4 : Hid (Own w' w1.heap.size 9 1 A' (m + 1) c' ((wordsTo xs (i + 1)).map strV)) := hide (by
        rw [HW.out, List.map_append]
        have h9 := ho'
        rw [HTx.out] at h9
        exact h9)
      clear ho3 ho' hg' hb'
      exact ⟨⟨(by (repeat (first | exact trivial | refine ⟨rfl, ?_⟩))), hE4.out, i + 1, m + 1, c', A', by omega, by omega, by go_num, rfl, HO4⟩, (by simp [intOf] <;> omega)⟩
  · obtain rfl : i = n := by omega
    have HNb := hide (fun W (E : Ext w W) => HNum.out bd (by omega) W E)
    have hl3 := itoa_len bd
    have hq2 : (Lib.itoa bd).length ≤ 10002 := by omega
    have hbl := HBL.out i (Nat.le_refl _)
    have hwl := words_len xs i
    have hml : m = (wordsTo xs i).length := by have := hO.out.len; rw [List.length_map] at this; omega
    have HEm := hide (body_empty xs i)
    obtain ⟨ws, hws⟩ : ∃ ws, ws = wordsTo xs i := ⟨_, rfl⟩
    have hbw : bodyTo xs i = Lib.join ws [32] := by unfold bodyTo; rw [hws]
    rw [hbw] at HT hbl HEm
    rw [← hws] at hO hml HEm hwl
    have eD := (Ext.refl wr).drew
    have d1 := eD.cell b1
    clear hws hbw hl3 he hb HBL HXS
    by_cases hm0 : m = 0
    · have hwn : ws = [] := List.eq_nil_of_length_eq_zero (by omega)
      have HTe : Hid (T = [48] ++ [32, 62, 61, 32] ++ Lib.itoa bd) := hide (by rw [HT.out, if_pos (HEm.out.2 hwn)])
      have hA : ¬ 9223372036854775807 < 5 + (Lib.itoa bd).length := by omega
      have HTx := hide (text_end [48] (Lib.itoa bd))
      have hA2 : ¬ 9223372036854775807 < 1 + 4 + (Lib.itoa bd).length := by omega
      subst hm0
      have EWb : Hid (Ext w (wr.alloc (.cells #[.string ⟨#[48]⟩] 9))) := hide (ewr.out.alloc _)
      have HJ : Hid (∀ W, Ext (wr.alloc (.cells #[.string ⟨#[48]⟩] 9)) W → Calls Tryd.prog 24 #[.slice (some ⟨wr.heap.size, 0, none⟩) 1 1, .string ⟨#[32]⟩] W fun e w' => e = .returned (.string ⟨#[48]⟩) ∧ Ext W w') := hide (fun W E => by
        have h9 := Join_c wr.heap.size 1 [[48]] [32] wr.heap.size W ((Own.arr #[.string ⟨#[48]⟩] 1 [.string ⟨#[48]⟩] (Nat.le_refl _) (by decide) rfl rfl).ext E) (by decide) (by rw [Lib.join_one]; decide)
        rw [Lib.join_one] at h9
        exact h9)
      replace d1 := ((Ext.refl (wr.alloc (.cells #[.string ⟨#[48]⟩] 9))).drew).cell (((Ext.refl wr).alloc (.cells #[.string ⟨#[48]⟩] 9)).cell b1)
      clear HT HEm hml hwn hbl hwl
      go_wp2_with fail
      refine wp_region_held_drew (S := (fun w' => w'.cell? ⟨w.heap.size, 1, none⟩ = some (.int .i64 bd))) (by kernel_rfl) ?_ (fun hHeld => ?_)
      · ((try dsimp only); (first | exact d1 | exact x1 | exact x2))
      refine heldTake 0 (v := ?_) rfl (by kernel_rfl) (by kernel_rfl) (by kernel_rfl) (fun _ _ _ h => h) (Or.inl ⟨by rfl, ?_⟩) (by assumption) ?_
      rotate_left 1
      focus (intro wS hSw; (try dsimp only at hSw); go_simp; (try with_reducible rfl))
      (try simp only [Act.put, List.setIfInBounds_toArray, List.set_cons_zero, List.set_cons_succ])
      refine heldTake 3 (v := ?_) rfl (by kernel_rfl) (by kernel_rfl) (by kernel_rfl) (fun _ _ _ h => h) (Or.inl ⟨by rfl, ?_⟩) (by assumption) ?_
      rotate_left 1
      focus (intro wS hSw; (try dsimp only at hSw); go_simp; (try with_reducible rfl))
      (try simp only [Act.put, List.setIfInBounds_toArray, List.set_cons_zero, List.set_cons_succ])
      refine heldTake 4 (v := ?_) rfl (by kernel_rfl) (by kernel_rfl) (by kernel_rfl) (fun _ _ _ h => h) (Or.inl ⟨by rfl, ?_⟩) (by assumption) ?_
      rotate_left 1
      focus (intro wS hSw; (try dsimp only at hSw); go_simp; (try with_reducible rfl))
      (try simp only [Act.put, List.setIfInBounds_toArray, List.set_cons_zero, List.set_cons_succ])
      refine wpAnyH_ready (rs := [1]) (by kernel_rfl) (by simp) ?_
      refine heldStep 1 rfl (fun K hK => ?_) AllReadyH.nil
      rw [if_pos (by kernel_rfl)]
      (go_wp2_with (first | (go_at_call 24; refine (HJ.out _ (Ext.refl _).drew).mono ?_; rintro e w2 ⟨rfl, he2⟩; have x1 := he2.cell d1; have e2 : Hid (Ext (wr.alloc (.cells #[.string ⟨#[48]⟩] 9)) w2) := hide ((Ext.refl _).drew.trans he2)) | (go_at_call 23; refine (HNb.out _ (EWb.out.trans e2.out)).mono ?_; rintro e w3 ⟨rfl, he3⟩; have x2 := he3.cell x1; have e3 : Hid (Ext (wr.alloc (.cells #[.string ⟨#[48]⟩] 9)) w3) := hide (e2.out.trans he3))))
      refine hK.out _ _ ?_ (fun hHeld => ?_)
      · ((try dsimp only); (first | exact d1 | exact x1 | exact x2))
      clear hK K
      (try simp only [Act.put, List.setIfInBounds_toArray, List.set_cons_zero, List.set_cons_succ])
      refine heldTake 2 (v := ?_) rfl (by kernel_rfl) (by kernel_rfl) (by kernel_rfl) (fun _ _ _ h => h) (Or.inl ⟨by rfl, ?_⟩) (by assumption) ?_
      rotate_left 1
      focus (intro wS hSw; (try dsimp only at hSw); go_simp; (try with_reducible rfl))
      (try simp only [Act.put, List.setIfInBounds_toArray, List.set_cons_zero, List.set_cons_succ])
      refine wpAnyH_ready (rs := [5]) (by kernel_rfl) (by simp) ?_
      refine heldStep 5 rfl (fun K hK => ?_) AllReadyH.nil
      rw [if_pos (by kernel_rfl)]
      (go_wp2_with (first | (go_at_call 24; refine (HJ.out _ (Ext.refl _).drew).mono ?_; rintro e w2 ⟨rfl, he2⟩; have x1 := he2.cell d1; have e2 : Hid (Ext (wr.alloc (.cells #[.string ⟨#[48]⟩] 9)) w2) := hide ((Ext.refl _).drew.trans he2)) | (go_at_call 23; refine (HNb.out _ (EWb.out.trans e2.out)).mono ?_; rintro e w3 ⟨rfl, he3⟩; have x2 := he3.cell x1; have e3 : Hid (Ext (wr.alloc (.cells #[.string ⟨#[48]⟩] 9)) w3) := hide (e2.out.trans he3))))
      refine hK.out _ _ ?_ (fun hHeld => ?_)
      · ((try dsimp only); (first | exact d1 | exact x1 | exact x2))
      clear hK K
      (try simp only [Act.put, List.setIfInBounds_toArray, List.set_cons_zero, List.set_cons_succ])
      refine heldTake 6 (v := ?_) rfl (by kernel_rfl) (by kernel_rfl) (by kernel_rfl) (fun _ _ _ h => h) (Or.inl ⟨by rfl, ?_⟩) (by assumption) ?_
      rotate_left 1
      focus (intro wS hSw; (try dsimp only at hSw); go_simp; (try with_reducible rfl))
      (try simp only [Act.put, List.setIfInBounds_toArray, List.set_cons_zero, List.set_cons_succ])
      refine heldTake 7 (v := ?_) rfl (by kernel_rfl) (by kernel_rfl) (by kernel_rfl) (fun _ _ _ h => h) (Or.inl ⟨by rfl, ?_⟩) (by assumption) ?_
      rotate_left 1
      focus (intro wS hSw; (try dsimp only at hSw); go_simp; (try with_reducible rfl))
      (try simp only [Act.put, List.setIfInBounds_toArray, List.set_cons_zero, List.set_cons_succ])
      refine heldTake 8 (v := ?_) rfl (by kernel_rfl) (by kernel_rfl) (by kernel_rfl) (fun _ _ _ h => h) (Or.inl ⟨by rfl, ?_⟩) (by assumption) ?_
      rotate_left 1
      focus (intro wS hSw; (try dsimp only at hSw); go_simp; (try with_reducible rfl))
      (try simp only [Act.put, List.setIfInBounds_toArray, List.set_cons_zero, List.set_cons_succ])
      refine wpAnyH_done (by kernel_rfl) ?_ _
      go_wp2_with fail
      go_ret2
      exact ⟨by rw [HTe.out, ← HTx.out]; rfl, EWb.out.trans e3.out⟩
    · obtain ⟨gW, rfl, -, -⟩ := hO.out.form (by omega)
      have hwn : ws ≠ [] := fun e => by rw [e] at hml; simp at hml; exact hm0 hml
      have hbn : Lib.join ws [32] ≠ [] := fun e => hwn (HEm.out.1 e)
      have HTe : Hid (T = Lib.join ws [32] ++ [32, 62, 61, 32] ++ Lib.itoa bd) := hide (by rw [HT.out, if_neg hbn])
      have hA : ¬ 9223372036854775807 < (Lib.join ws [32]).length + 4 := by omega
      have hB : ¬ 9223372036854775807 < (Lib.join ws [32]).length + 4 + (Lib.itoa bd).length := by omega
      have HTx := hide (text_end (Lib.join ws [32]) (Lib.itoa bd))
      have HJ := hide (fun W (E : Ext wr W) => Join_c gW d ws [32] w1.heap.size W (by rw [← hml]; exact hO.out.ext E) (by omega) (by omega))
      rw [← hml] at HJ
      have hmb : ((m : Int) == 0) = false := by simpa using hm0
      clear HT HEm hml hwn hbn hbl hwl
      have EWb : Hid (Ext w wr) := ewr
      go_wp2_with fail
      refine wp_region_held_drew (S := (fun w' => w'.cell? ⟨w.heap.size, 1, none⟩ = some (.int .i64 bd))) (by kernel_rfl) ?_ (fun hHeld => ?_)
      · ((try dsimp only); (first | exact d1 | exact x1 | exact x2))
      refine heldTake 0 (v := ?_) rfl (by kernel_rfl) (by kernel_rfl) (by kernel_rfl) (fun _ _ _ h => h) (Or.inl ⟨by rfl, ?_⟩) (by assumption) ?_
      rotate_left 1
      focus (intro wS hSw; (try dsimp only at hSw); go_simp; (try with_reducible rfl))
      (try simp only [Act.put, List.setIfInBounds_toArray, List.set_cons_zero, List.set_cons_succ])
      refine heldTake 3 (v := ?_) rfl (by kernel_rfl) (by kernel_rfl) (by kernel_rfl) (fun _ _ _ h => h) (Or.inl ⟨by rfl, ?_⟩) (by assumption) ?_
      rotate_left 1
      focus (intro wS hSw; (try dsimp only at hSw); go_simp; (try with_reducible rfl))
      (try simp only [Act.put, List.setIfInBounds_toArray, List.set_cons_zero, List.set_cons_succ])
      refine heldTake 4 (v := ?_) rfl (by kernel_rfl) (by kernel_rfl) (by kernel_rfl) (fun _ _ _ h => h) (Or.inl ⟨by rfl, ?_⟩) (by assumption) ?_
      rotate_left 1
      focus (intro wS hSw; (try dsimp only at hSw); go_simp; (try with_reducible rfl))
      (try simp only [Act.put, List.setIfInBounds_toArray, List.set_cons_zero, List.set_cons_succ])
      refine wpAnyH_ready (rs := [1]) (by kernel_rfl) (by simp) ?_
      refine heldStep 1 rfl (fun K hK => ?_) AllReadyH.nil
      rw [if_pos (by kernel_rfl)]
      (go_wp2_with (first | (go_at_call 24; refine (HJ.out _ (Ext.refl _).drew).mono ?_; rintro e w2 ⟨rfl, he2⟩; have x1 := he2.cell d1; have e2 : Hid (Ext wr w2) := hide ((Ext.refl _).drew.trans he2)) | (go_at_call 23; refine (HNb.out _ (EWb.out.trans e2.out)).mono ?_; rintro e w3 ⟨rfl, he3⟩; have x2 := he3.cell x1; have e3 : Hid (Ext wr w3) := hide (e2.out.trans he3))))
      refine hK.out _ _ ?_ (fun hHeld => ?_)
      · ((try dsimp only); (first | exact d1 | exact x1 | exact x2))
      clear hK K
      (try simp only [Act.put, List.setIfInBounds_toArray, List.set_cons_zero, List.set_cons_succ])
      refine heldTake 2 (v := ?_) rfl (by kernel_rfl) (by kernel_rfl) (by kernel_rfl) (fun _ _ _ h => h) (Or.inl ⟨by rfl, ?_⟩) (by assumption) ?_
      rotate_left 1
      focus (intro wS hSw; (try dsimp only at hSw); go_simp; (try with_reducible rfl))
      (try simp only [Act.put, List.setIfInBounds_toArray, List.set_cons_zero, List.set_cons_succ])
      refine wpAnyH_ready (rs := [5]) (by kernel_rfl) (by simp) ?_
      refine heldStep 5 rfl (fun K hK => ?_) AllReadyH.nil
      rw [if_pos (by kernel_rfl)]
      (go_wp2_with (first | (go_at_call 24; refine (HJ.out _ (Ext.refl _).drew).mono ?_; rintro e w2 ⟨rfl, he2⟩; have x1 := he2.cell d1; have e2 : Hid (Ext wr w2) := hide ((Ext.refl _).drew.trans he2)) | (go_at_call 23; refine (HNb.out _ (EWb.out.trans e2.out)).mono ?_; rintro e w3 ⟨rfl, he3⟩; have x2 := he3.cell x1; have e3 : Hid (Ext wr w3) := hide (e2.out.trans he3))))
      refine hK.out _ _ ?_ (fun hHeld => ?_)
      · ((try dsimp only); (first | exact d1 | exact x1 | exact x2))
      clear hK K
      (try simp only [Act.put, List.setIfInBounds_toArray, List.set_cons_zero, List.set_cons_succ])
      refine heldTake 6 (v := ?_) rfl (by kernel_rfl) (by kernel_rfl) (by kernel_rfl) (fun _ _ _ h => h) (Or.inl ⟨by rfl, ?_⟩) (by assumption) ?_
      rotate_left 1
      focus (intro wS hSw; (try dsimp only at hSw); go_simp; (try with_reducible rfl))
      (try simp only [Act.put, List.setIfInBounds_toArray, List.set_cons_zero, List.set_cons_succ])
      refine heldTake 7 (v := ?_) rfl (by kernel_rfl) (by kernel_rfl) (by kernel_rfl) (fun _ _ _ h => h) (Or.inl ⟨by rfl, ?_⟩) (by assumption) ?_
      rotate_left 1
      focus (intro wS hSw; (try dsimp only at hSw); go_simp; (try with_reducible rfl))
      (try simp only [Act.put, List.setIfInBounds_toArray, List.set_cons_zero, List.set_cons_succ])
      refine heldTake 8 (v := ?_) rfl (by kernel_rfl) (by kernel_rfl) (by kernel_rfl) (fun _ _ _ h => h) (Or.inl ⟨by rfl, ?_⟩) (by assumption) ?_
      rotate_left 1
      focus (intro wS hSw; (try dsimp only at hSw); go_simp; (try with_reducible rfl))
      (try simp only [Act.put, List.setIfInBounds_toArray, List.set_cons_zero, List.set_cons_succ])
      refine wpAnyH_done (by kernel_rfl) ?_ _
      go_wp2_with fail
      go_ret2
      exact ⟨by rw [HTe.out, ← HTx.out]; rfl, EWb.out.trans e3.out⟩
end Go.Proofs.YtaigjmbhgpcalaaDoor
