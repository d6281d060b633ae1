/-
  The reference reads a numeral; no condition.
-/
import Derived.Test.YtjlnlicojcfpiaaDoorT10
import Derived.Test.YtjlnlicojcfpiaaDoorT1
namespace Go.Proofs.YtjlnlicojcfpiaaDoor
set_option linter.unusedSimpArgs false
set_option linter.unusedVariables false
open Go.RowKit
def bodyOf (s : List UInt8) : List UInt8 := if s[0]? = some 45 ∧ 1 < s.length then s.drop 1 else s
theorem digits_len : ∀ (k u : Nat), u < 10 ^ (k + 1) → (Lib.decDigits u).length ≤ k + 1
  | 0, u, h => by
    rw [Lib.decDigits, dif_pos (by simpa using h)]; simp
  | k + 1, u, h => by
    by_cases hu : u < 10
    · rw [Lib.decDigits, dif_pos hu]; simp
    · have ih := digits_len k (u / 10) (by rw [Nat.pow_succ] at h; omega)
      rw [Lib.decDigits, dif_neg hu, List.length_append]
      simp only [List.length_cons, List.length_nil]; omega
theorem digits_ne (u : Nat) : 0 < (Lib.decDigits u).length := by rw [Lib.decDigits]; split <;> simp
theorem body_itoa (m : Int) : bodyOf (Lib.itoa m) = Lib.decDigits m.natAbs ∧ ((Lib.decDigits m.natAbs).length < (Lib.itoa m).length ↔ m < 0) := by
  have h1 := digits_ne m.natAbs
  unfold Lib.itoa bodyOf
  by_cases hm : m < 0
  · rw [if_pos hm, if_pos ⟨rfl, by simp only [List.length_cons]; omega⟩]
    exact ⟨rfl, by simp [hm]⟩
  · rw [if_neg hm, show m.toNat = m.natAbs by omega, if_neg]
    · exact ⟨rfl, by simp; omega⟩
    · rintro ⟨h2, -⟩
      exact digits_head m.natAbs 45 (by rw [List.head?_eq_getElem?]; exact h2) rfl
theorem num_no_len {s : List UInt8} (h : ¬ (1 ≤ (bodyOf s).length ∧ (bodyOf s).length ≤ 6)) : numOf s = none := numOf_none fun m hm e => by
  apply h
  rw [← e, (body_itoa m).1]
  exact ⟨digits_ne _, digits_len 5 _ (by omega)⟩
theorem num_no_digit {s : List UInt8} {i : Nat} {c : UInt8} (hc : (bodyOf s)[i]? = some c) (h : c.toNat < 48 ∨ 57 < c.toNat) : numOf s = none := numOf_none fun m hm e => by
  rw [← e, (body_itoa m).1] at hc
  have := digits_all _ c (List.mem_of_getElem? hc)
  omega
def sgnOf (s : List UInt8) : Int := if (bodyOf s).length < s.length then -((valF 0 (bodyOf s) : Nat) : Int) else ((valF 0 (bodyOf s) : Nat) : Int)
theorem sgn_itoa (m : Int) : sgnOf (Lib.itoa m) = m := by
  obtain ⟨h1, h2⟩ := body_itoa m
  unfold sgnOf
  rw [h1, val_digits]
  split
  · rename_i h; have := h2.1 h; omega
  · rename_i h; have : ¬ m < 0 := fun e => h (h2.2 e); omega
theorem num_no_text {s : List UInt8} (h : Lib.itoa (sgnOf s) ≠ s) : numOf s = none := numOf_none fun m hm e => by
  apply h
  rw [← e, sgn_itoa]
theorem num_yes {s : List UInt8} (h : Lib.itoa (sgnOf s) = s) (hb : valF 0 (bodyOf s) ≤ 999999) : numOf s = some (sgnOf s) := by
  have h1 : -999999 ≤ sgnOf s ∧ sgnOf s ≤ 999999 := by unfold sgnOf; split <;> omega
  have h2 := numOf_itoa h1
  rw [h] at h2
  exact h2
theorem val_snoc {t : List UInt8} {i : Nat} {c : UInt8} (hc : t[i]? = some c) : valF 0 (t.take (i + 1)) = 10 * valF 0 (t.take i) + (c.toNat - 48) := by
  rw [take_succ_of (hide hc)]
  unfold valF
  rw [List.foldl_append]; rfl
theorem val_step {t : List UInt8} {i : Nat} {c : UInt8} (hc : t[i]? = some c) (hb : valF 0 (t.take i) < 10 ^ i) (h : c.toNat ≤ 57) : valF 0 (t.take (i + 1)) < 10 ^ (i + 1) := by
  rw [val_snoc hc, Nat.pow_succ]; omega
theorem pow_small6 {i : Nat} (h : i ≤ 6) : 10 ^ i ≤ 1000000 := Nat.pow_le_pow_right (n := 10) (by omega) h
set_option maxRecDepth 100000 in
set_option maxHeartbeats 6400000 in
theorem l1Read_c (s : List UInt8) (w : World) (hs : s.length ≤ 1048576) :
    Calls Tryd.prog 28 #[.string ⟨s.toArray⟩] w fun e w' => e = .returned (.tuple #[.int .i64 ((numOf s).getD 0), .bool (numOf s).isSome]) ∧ Ext w w' := by
  obtain ⟨N, hN⟩ : ∃ N, N = numOf s := ⟨_, rfl⟩
  rw [← hN]
  obtain ⟨t, ht⟩ : ∃ t, t = bodyOf s := ⟨_, rfl⟩
  have HNL : Hid (¬ (1 ≤ t.length ∧ t.length ≤ 6) → N = none) := hide (fun h => by rw [hN]; exact num_no_len (by rw [← ht]; exact h))
  have HND : Hid (∀ (i : Nat) (c : UInt8), t[i]? = some c → (c.toNat < 48 ∨ 57 < c.toNat) → N = none) := hide (fun i c hc h => by rw [hN]; exact num_no_digit (i := i) (by rw [← ht]; exact hc) h)
  have HSG : Hid (sgnOf s = if t.length < s.length then -((valF 0 t : Nat) : Int) else ((valF 0 t : Nat) : Int)) := hide (by unfold sgnOf; rw [← ht])
  have HNT : Hid (Lib.itoa (sgnOf s) ≠ s → N = none) := hide (fun h => by rw [hN]; exact num_no_text h)
  have HNY : Hid (Lib.itoa (sgnOf s) = s → valF 0 t ≤ 999999 → N = some (sgnOf s)) := hide (fun h h2 => by rw [hN]; exact num_yes h (by rw [← ht]; exact h2))
  obtain ⟨x, hx⟩ : ∃ x, x = sgnOf s := ⟨_, rfl⟩
  rw [← hx] at HSG HNT HNY
  clear hN hx
  by_cases h1 : 1 < s.length
  · obtain ⟨c, hc⟩ : ∃ c, s[0]? = some c := ⟨s[0], List.getElem?_eq_getElem _⟩
    have hsz : 0 < (⟨s.toArray⟩ : ByteArray).size := by show 0 < s.length; omega
    have hat := text_at hc hsz
    by_cases h45 : c = 45
    · subst h45
      have htl : t.length < s.length := by rw [ht]; unfold bodyOf; rw [if_pos ⟨hc, h1⟩, List.length_drop]; omega
      have hxt : (⟨s.toArray⟩ : ByteArray).extract 1 s.length = ⟨t.toArray⟩ := by
        rw [text_extract, List.take_length, ht]; unfold bodyOf; rw [if_pos ⟨hc, h1⟩]
      have HX : Hid (x = -((valF 0 t : Nat) : Int)) := hide (by rw [HSG.out, if_pos htl])
      clear ht hc HSG
      by_cases hl : 1 ≤ t.length ∧ t.length ≤ 6
      rotate_left
      · have HN0 : Hid (N = none) := hide (HNL.out hl)
        have HI := hide (fun W => l1In_c (t.length : Int) 1 6 W)
        rw [show within (t.length : Int) 1 6 = false by unfold within; simp; omega] at HI
        clear hl
        go_enter Tryd.func28, Tryd.ntmps28
        go_wp2_with fail
        refine (HI.out _).mono ?_
        rintro e w1 ⟨rfl, rfl⟩
        go_wp2_with fail
        go_ret2
        exact ⟨by rw [HN0.out]; rfl, Ext.refl _⟩
      obtain ⟨hl1, hl2⟩ := hl
      have HI := hide (fun W => l1In_c (t.length : Int) 1 6 W)
      rw [show within (t.length : Int) 1 6 = true by unfold within; simp; omega] at HI
      go_enter Tryd.func28, Tryd.ntmps28
      go_wp2_with fail
      refine (HI.out _).mono ?_
      rintro e w1 ⟨rfl, rfl⟩
      go_wp2_with fail
      refine wp_loopF 58 _ rfl rfl [0, 4, 46, 47, 48, 49, 50, 51, 52, 53, 54, 55, 56, 57] rfl (fun fr wr => Ext w wr ∧ ∃ i : Nat, i ≤ t.length ∧ (fr 6) = .int .i64 i ∧ (fr 5) = .int .i64 (valF 0 (t.take i) : Nat) ∧ Hid (valF 0 (t.take i) < 10 ^ i)) (fun fr wr => t.length - (intOf (fr 6)).toNat) ?_ ?_
      · (exact ⟨Ext.refl _, 0, by omega, rfl, rfl, hide (by show (0 : Nat) < 1; omega)⟩)
      intro ks fr wr hkept hrel; (try dsimp only at hrel)
      change Code.wp _ _ _ ⟨#[ks 0, fr 1, fr 2, fr 3, ks 4, fr 5, fr 6, fr 7, fr 8, fr 9, fr 10, fr 11, fr 12, fr 13, fr 14, fr 15, fr 16, fr 17, fr 18, fr 19, fr 20, fr 21, fr 22, fr 23, fr 24, fr 25, fr 26, fr 27, fr 28, fr 29, fr 30, fr 31, fr 32, fr 33, fr 34, fr 35, fr 36, fr 37, fr 38, fr 39, fr 40, fr 41, fr 42, fr 43, fr 44, fr 45, ks 46, ks 47, ks 48, ks 49, ks 50, ks 51, ks 52, ks 53, ks 54, ks 55, ks 56, ks 57], []⟩ wr
      simp only [KeptV, List.getD_cons_zero, List.getD_cons_succ] at hkept; obtain ⟨hk0, hk4, hk46, hk47, hk48, hk49, hk50, hk51, hk52, hk53, hk54, hk55, hk56, hk57, -⟩ := hkept
      generalize ks 0 = k0 at hk0 ⊢; subst hk0
      generalize ks 4 = k4 at hk4 ⊢; subst hk4
      generalize ks 46 = k46 at hk46 ⊢; subst hk46
      generalize ks 47 = k47 at hk47 ⊢; subst hk47
      generalize ks 48 = k48 at hk48 ⊢; subst hk48
      generalize ks 49 = k49 at hk49 ⊢; subst hk49
      generalize ks 50 = k50 at hk50 ⊢; subst hk50
      generalize ks 51 = k51 at hk51 ⊢; subst hk51
      generalize ks 52 = k52 at hk52 ⊢; subst hk52
      generalize ks 53 = k53 at hk53 ⊢; subst hk53
      generalize ks 54 = k54 at hk54 ⊢; subst hk54
      generalize ks 55 = k55 at hk55 ⊢; subst hk55
      generalize ks 56 = k56 at hk56 ⊢; subst hk56
      generalize ks 57 = k57 at hk57 ⊢; subst hk57
      generalize fr 5 = s5 at hrel ⊢
      generalize fr 6 = s6 at hrel ⊢
      obtain ⟨he, i, hi, hs1, hs2, hv⟩ := hrel
      subst hs1
      subst hs2
      have HE := hide he
      clear he
      have hp := pow_small6 (show i ≤ 6 by omega)
      have hv2 := hv.out
      obtain ⟨q, hq⟩ : ∃ q, q = valF 0 (t.take i) := ⟨_, rfl⟩
      have HQ := hide hq
      have hqb : q ≤ 999999 := by omega
      rw [← hq]
      clear hp hv2 hq
      by_cases hlt : i < t.length
      · obtain ⟨b, hb⟩ : ∃ b, t[i]? = some b := ⟨t[i], List.getElem?_eq_getElem _⟩
        have hsz2 : i < (⟨t.toArray⟩ : ByteArray).size := hlt
        have hat2 := text_at hb hsz2
        have HB := hide hb
        clear hb
        by_cases hb1 : (b.toNat : Int) < 48
        · have HN0 : Hid (N = none) := hide (HND.out i b HB.out (.inl (by omega)))
          go_wp2_with fail
          go_ret2
          exact ⟨by rw [HN0.out]; rfl, HE.out⟩
        by_cases hb2 : 57 < (b.toNat : Int)
        · have HN0 : Hid (N = none) := hide (HND.out i b HB.out (.inr (by omega)))
          go_wp2_with fail
          go_ret2
          exact ⟨by rw [HN0.out]; rfl, HE.out⟩
        have HV := hide (val_step HB.out hv.out (by omega))
        have HW : Hid (10 * (q : Int) + ((b.toNat : Int) - 48) = ((valF 0 (t.take (i + 1)) : Nat) : Int)) := hide (by rw [val_snoc HB.out, ← HQ.out]; omega)
        have hw1 : IntKind.u8.wrap ((b.toNat : Int) - 48) = (b.toNat : Int) - 48 := IntWalk.u8_in _ (by omega)
        have hw2 : IntKind.i64.wrap ((b.toNat : Int) - 48) = (b.toNat : Int) - 48 := IntWalk.i64_in _ (by omega)
        have hw3 : IntKind.i64.wrap (10 * (q : Int)) = 10 * (q : Int) := IntWalk.i64_in _ (by omega)
        have hw4 : IntKind.i64.wrap (10 * (q : Int) + ((b.toNat : Int) - 48)) = 10 * (q : Int) + ((b.toNat : Int) - 48) := IntWalk.i64_in _ (by omega)
        go_wp2_with fail
        exact ⟨⟨(by (repeat (first | exact trivial | refine ⟨rfl, ?_⟩))), HE.out, i + 1, by omega, by go_num, HW.out, HV⟩, (by simp [intOf] <;> omega)⟩
      · obtain rfl : i = t.length := by omega
        have hq2 : q = valF 0 t := by rw [HQ.out, List.take_length]
        have HXQ : Hid (x = (-(q : Int))) := hide (by rw [HX.out, hq2])
        have HM := hide (fun W => l1Num_c ((-(q : Int))) (by omega) W)
        have hw5 : IntKind.i64.wrap (-(q : Int)) = -(q : Int) := IntWalk.i64_in _ (by omega)
        have HQ2 : Hid (valF 0 t ≤ 999999) := hide (by rw [← hq2]; exact hqb)
        rw [← HXQ.out] at HM
        clear hq2
        by_cases hte : Lib.itoa x = s
        · have HN0 : Hid (N = some x) := hide (HNY.out hte HQ2.out)
          rw [hte] at HM
          rw [HXQ.out] at HM HN0
          clear hte
          go_wp2_with fail
          refine (HM.out _).mono ?_
          rintro e w2 ⟨rfl, he2⟩
          go_wp2_with fail
          go_ret2
          exact ⟨by rw [HN0.out]; rfl, HE.out.trans he2⟩
        · have HN0 : Hid (N = none) := hide (HNT.out hte)
          have hta : (!(Lib.itoa x == s)) = true := by simpa using hte
          rw [HXQ.out] at HM hta
          clear hte
          go_wp2_with fail
          refine (HM.out _).mono ?_
          rintro e w2 ⟨rfl, he2⟩
          go_wp2_with fail
          go_ret2
          exact ⟨by rw [HN0.out]; rfl, HE.out.trans he2⟩
    · have hne : ((c.toNat : Int) == 45) = false := byte_eq (b := 45) h45
      obtain rfl : t = s := by rw [ht]; unfold bodyOf; rw [if_neg]; rintro ⟨h2, -⟩; rw [hc] at h2; injection h2 with h2; exact h45 h2
      have HX : Hid (x = ((valF 0 t : Nat) : Int)) := hide (by rw [HSG.out, if_neg (Nat.lt_irrefl _)])
      clear ht hc HSG h45
      by_cases hl : 1 ≤ t.length ∧ t.length ≤ 6
      rotate_left
      · have HN0 : Hid (N = none) := hide (HNL.out hl)
        have HI := hide (fun W => l1In_c (t.length : Int) 1 6 W)
        rw [show within (t.length : Int) 1 6 = false by unfold within; simp; omega] at HI
        clear hl
        go_enter Tryd.func28, Tryd.ntmps28
        go_wp2_with fail
        refine (HI.out _).mono ?_
        rintro e w1 ⟨rfl, rfl⟩
        go_wp2_with fail
        go_ret2
        exact ⟨by rw [HN0.out]; rfl, Ext.refl _⟩
      obtain ⟨hl1, hl2⟩ := hl
      have HI := hide (fun W => l1In_c (t.length : Int) 1 6 W)
      rw [show within (t.length : Int) 1 6 = true by unfold within; simp; omega] at HI
      go_enter Tryd.func28, Tryd.ntmps28
      go_wp2_with fail
      refine (HI.out _).mono ?_
      rintro e w1 ⟨rfl, rfl⟩
      go_wp2_with fail
      refine wp_loopF 58 _ rfl rfl [0, 4, 46, 47, 48, 49, 50, 51, 52, 53, 54, 55, 56, 57] rfl (fun fr wr => Ext w wr ∧ ∃ i : Nat, i ≤ t.length ∧ (fr 6) = .int .i64 i ∧ (fr 5) = .int .i64 (valF 0 (t.take i) : Nat) ∧ Hid (valF 0 (t.take i) < 10 ^ i)) (fun fr wr => t.length - (intOf (fr 6)).toNat) ?_ ?_
      · (exact ⟨Ext.refl _, 0, by omega, rfl, rfl, hide (by show (0 : Nat) < 1; omega)⟩)
      intro ks fr wr hkept hrel; (try dsimp only at hrel)
      change Code.wp _ _ _ ⟨#[ks 0, fr 1, fr 2, fr 3, ks 4, fr 5, fr 6, fr 7, fr 8, fr 9, fr 10, fr 11, fr 12, fr 13, fr 14, fr 15, fr 16, fr 17, fr 18, fr 19, fr 20, fr 21, fr 22, fr 23, fr 24, fr 25, fr 26, fr 27, fr 28, fr 29, fr 30, fr 31, fr 32, fr 33, fr 34, fr 35, fr 36, fr 37, fr 38, fr 39, fr 40, fr 41, fr 42, fr 43, fr 44, fr 45, ks 46, ks 47, ks 48, ks 49, ks 50, ks 51, ks 52, ks 53, ks 54, ks 55, ks 56, ks 57], []⟩ wr
      simp only [KeptV, List.getD_cons_zero, List.getD_cons_succ] at hkept; obtain ⟨hk0, hk4, hk46, hk47, hk48, hk49, hk50, hk51, hk52, hk53, hk54, hk55, hk56, hk57, -⟩ := hkept
      generalize ks 0 = k0 at hk0 ⊢; subst hk0
      generalize ks 4 = k4 at hk4 ⊢; subst hk4
      generalize ks 46 = k46 at hk46 ⊢; subst hk46
      generalize ks 47 = k47 at hk47 ⊢; subst hk47
      generalize ks 48 = k48 at hk48 ⊢; subst hk48
      generalize ks 49 = k49 at hk49 ⊢; subst hk49
      generalize ks 50 = k50 at hk50 ⊢; subst hk50
      generalize ks 51 = k51 at hk51 ⊢; subst hk51
      generalize ks 52 = k52 at hk52 ⊢; subst hk52
      generalize ks 53 = k53 at hk53 ⊢; subst hk53
      generalize ks 54 = k54 at hk54 ⊢; subst hk54
      generalize ks 55 = k55 at hk55 ⊢; subst hk55
      generalize ks 56 = k56 at hk56 ⊢; subst hk56
      generalize ks 57 = k57 at hk57 ⊢; subst hk57
      generalize fr 5 = s5 at hrel ⊢
      generalize fr 6 = s6 at hrel ⊢
      obtain ⟨he, i, hi, hs1, hs2, hv⟩ := hrel
      subst hs1
      subst hs2
      have HE := hide he
      clear he
      have hp := pow_small6 (show i ≤ 6 by omega)
      have hv2 := hv.out
      obtain ⟨q, hq⟩ : ∃ q, q = valF 0 (t.take i) := ⟨_, rfl⟩
      have HQ := hide hq
      have hqb : q ≤ 999999 := by omega
      rw [← hq]
      clear hp hv2 hq
      by_cases hlt : i < t.length
      · obtain ⟨b, hb⟩ : ∃ b, t[i]? = some b := ⟨t[i], List.getElem?_eq_getElem _⟩
        have hsz2 : i < (⟨t.toArray⟩ : ByteArray).size := hlt
        have hat2 := text_at hb hsz2
        have HB := hide hb
        clear hb
        by_cases hb1 : (b.toNat : Int) < 48
        · have HN0 : Hid (N = none) := hide (HND.out i b HB.out (.inl (by omega)))
          go_wp2_with fail
          go_ret2
          exact ⟨by rw [HN0.out]; rfl, HE.out⟩
        by_cases hb2 : 57 < (b.toNat : Int)
        · have HN0 : Hid (N = none) := hide (HND.out i b HB.out (.inr (by omega)))
          go_wp2_with fail
          go_ret2
          exact ⟨by rw [HN0.out]; rfl, HE.out⟩
        have HV := hide (val_step HB.out hv.out (by omega))
        have HW : Hid (10 * (q : Int) + ((b.toNat : Int) - 48) = ((valF 0 (t.take (i + 1)) : Nat) : Int)) := hide (by rw [val_snoc HB.out, ← HQ.out]; omega)
        have hw1 : IntKind.u8.wrap ((b.toNat : Int) - 48) = (b.toNat : Int) - 48 := IntWalk.u8_in _ (by omega)
        have hw2 : IntKind.i64.wrap ((b.toNat : Int) - 48) = (b.toNat : Int) - 48 := IntWalk.i64_in _ (by omega)
        have hw3 : IntKind.i64.wrap (10 * (q : Int)) = 10 * (q : Int) := IntWalk.i64_in _ (by omega)
        have hw4 : IntKind.i64.wrap (10 * (q : Int) + ((b.toNat : Int) - 48)) = 10 * (q : Int) + ((b.toNat : Int) - 48) := IntWalk.i64_in _ (by omega)
        go_wp2_with fail
        exact ⟨⟨(by (repeat (first | exact trivial | refine ⟨rfl, ?_⟩))), HE.out, i + 1, by omega, by go_num, HW.out, HV⟩, (by simp [intOf] <;> omega)⟩
      · obtain rfl : i = t.length := by omega
        have hq2 : q = valF 0 t := by rw [HQ.out, List.take_length]
        have HXQ : Hid (x = ((q : Int))) := hide (by rw [HX.out, hq2])
        have HM := hide (fun W => l1Num_c (((q : Int))) (by omega) W)
        have hw5 : IntKind.i64.wrap (-(q : Int)) = -(q : Int) := IntWalk.i64_in _ (by omega)
        have HQ2 : Hid (valF 0 t ≤ 999999) := hide (by rw [← hq2]; exact hqb)
        rw [← HXQ.out] at HM
        clear hq2
        by_cases hte : Lib.itoa x = t
        · have HN0 : Hid (N = some x) := hide (HNY.out hte HQ2.out)
          rw [hte] at HM
          rw [HXQ.out] at HM HN0
          clear hte
          go_wp2_with fail
          refine (HM.out _).mono ?_
          rintro e w2 ⟨rfl, he2⟩
          go_wp2_with fail
          go_ret2
          exact ⟨by rw [HN0.out]; rfl, HE.out.trans he2⟩
        · have HN0 : Hid (N = none) := hide (HNT.out hte)
          have hta : (!(Lib.itoa x == t)) = true := by simpa using hte
          rw [HXQ.out] at HM hta
          clear hte
          go_wp2_with fail
          refine (HM.out _).mono ?_
          rintro e w2 ⟨rfl, he2⟩
          go_wp2_with fail
          go_ret2
          exact ⟨by rw [HN0.out]; rfl, HE.out.trans he2⟩
  · obtain rfl : t = s := by rw [ht]; unfold bodyOf; rw [if_neg]; rintro ⟨-, h2⟩; exact h1 h2
    have HX : Hid (x = ((valF 0 t : Nat) : Int)) := hide (by rw [HSG.out, if_neg (Nat.lt_irrefl _)])
    clear ht HSG
    by_cases hl : 1 ≤ t.length ∧ t.length ≤ 6
    rotate_left
    · have HN0 : Hid (N = none) := hide (HNL.out hl)
      have HI := hide (fun W => l1In_c (t.length : Int) 1 6 W)
      rw [show within (t.length : Int) 1 6 = false by unfold within; simp; omega] at HI
      clear hl
      go_enter Tryd.func28, Tryd.ntmps28
      go_wp2_with fail
      refine (HI.out _).mono ?_
      rintro e w1 ⟨rfl, rfl⟩
      go_wp2_with fail
      go_ret2
      exact ⟨by rw [HN0.out]; rfl, Ext.refl _⟩
    obtain ⟨hl1, hl2⟩ := hl
    have HI := hide (fun W => l1In_c (t.length : Int) 1 6 W)
    rw [show within (t.length : Int) 1 6 = true by unfold within; simp; omega] at HI
    go_enter Tryd.func28, Tryd.ntmps28
    go_wp2_with fail
    refine (HI.out _).mono ?_
    rintro e w1 ⟨rfl, rfl⟩
    go_wp2_with fail
    refine wp_loopF 58 _ rfl rfl [0, 4, 46, 47, 48, 49, 50, 51, 52, 53, 54, 55, 56, 57] rfl (fun fr wr => Ext w wr ∧ ∃ i : Nat, i ≤ t.length ∧ (fr 6) = .int .i64 i ∧ (fr 5) = .int .i64 (valF 0 (t.take i) : Nat) ∧ Hid (valF 0 (t.take i) < 10 ^ i)) (fun fr wr => t.length - (intOf (fr 6)).toNat) ?_ ?_
    · (exact ⟨Ext.refl _, 0, by omega, rfl, rfl, hide (by show (0 : Nat) < 1; omega)⟩)
    intro ks fr wr hkept hrel; (try dsimp only at hrel)
    change Code.wp _ _ _ ⟨#[ks 0, fr 1, fr 2, fr 3, ks 4, fr 5, fr 6, fr 7, fr 8, fr 9, fr 10, fr 11, fr 12, fr 13, fr 14, fr 15, fr 16, fr 17, fr 18, fr 19, fr 20, fr 21, fr 22, fr 23, fr 24, fr 25, fr 26, fr 27, fr 28, fr 29, fr 30, fr 31, fr 32, fr 33, fr 34, fr 35, fr 36, fr 37, fr 38, fr 39, fr 40, fr 41, fr 42, fr 43, fr 44, fr 45, ks 46, ks 47, ks 48, ks 49, ks 50, ks 51, ks 52, ks 53, ks 54, ks 55, ks 56, ks 57], []⟩ wr
    simp only [KeptV, List.getD_cons_zero, List.getD_cons_succ] at hkept; obtain ⟨hk0, hk4, hk46, hk47, hk48, hk49, hk50, hk51, hk52, hk53, hk54, hk55, hk56, hk57, -⟩ := hkept
    generalize ks 0 = k0 at hk0 ⊢; subst hk0
    generalize ks 4 = k4 at hk4 ⊢; subst hk4
    generalize ks 46 = k46 at hk46 ⊢; subst hk46
    generalize ks 47 = k47 at hk47 ⊢; subst hk47
    generalize ks 48 = k48 at hk48 ⊢; subst hk48
    generalize ks 49 = k49 at hk49 ⊢; subst hk49
    generalize ks 50 = k50 at hk50 ⊢; subst hk50
    generalize ks 51 = k51 at hk51 ⊢; subst hk51
    generalize ks 52 = k52 at hk52 ⊢; subst hk52
    generalize ks 53 = k53 at hk53 ⊢; subst hk53
    generalize ks 54 = k54 at hk54 ⊢; subst hk54
    generalize ks 55 = k55 at hk55 ⊢; subst hk55
    generalize ks 56 = k56 at hk56 ⊢; subst hk56
    generalize ks 57 = k57 at hk57 ⊢; subst hk57
    generalize fr 5 = s5 at hrel ⊢
    generalize fr 6 = s6 at hrel ⊢
    obtain ⟨he, i, hi, hs1, hs2, hv⟩ := hrel
    subst hs1
    subst hs2
    have HE := hide he
    clear he
    have hp := pow_small6 (show i ≤ 6 by omega)
    have hv2 := hv.out
    obtain ⟨q, hq⟩ : ∃ q, q = valF 0 (t.take i) := ⟨_, rfl⟩
    have HQ := hide hq
    have hqb : q ≤ 999999 := by omega
    rw [← hq]
    clear hp hv2 hq
    by_cases hlt : i < t.length
    · obtain ⟨b, hb⟩ : ∃ b, t[i]? = some b := ⟨t[i], List.getElem?_eq_getElem _⟩
      have hsz2 : i < (⟨t.toArray⟩ : ByteArray).size := hlt
      have hat2 := text_at hb hsz2
      have HB := hide hb
      clear hb
      by_cases hb1 : (b.toNat : Int) < 48
      · have HN0 : Hid (N = none) := hide (HND.out i b HB.out (.inl (by omega)))
        go_wp2_with fail
        go_ret2
        exact ⟨by rw [HN0.out]; rfl, HE.out⟩
      by_cases hb2 : 57 < (b.toNat : Int)
      · have HN0 : Hid (N = none) := hide (HND.out i b HB.out (.inr (by omega)))
        go_wp2_with fail
        go_ret2
        exact ⟨by rw [HN0.out]; rfl, HE.out⟩
      have HV := hide (val_step HB.out hv.out (by omega))
      have HW : Hid (10 * (q : Int) + ((b.toNat : Int) - 48) = ((valF 0 (t.take (i + 1)) : Nat) : Int)) := hide (by rw [val_snoc HB.out, ← HQ.out]; omega)
      have hw1 : IntKind.u8.wrap ((b.toNat : Int) - 48) = (b.toNat : Int) - 48 := IntWalk.u8_in _ (by omega)
      have hw2 : IntKind.i64.wrap ((b.toNat : Int) - 48) = (b.toNat : Int) - 48 := IntWalk.i64_in _ (by omega)
      have hw3 : IntKind.i64.wrap (10 * (q : Int)) = 10 * (q : Int) := IntWalk.i64_in _ (by omega)
      have hw4 : IntKind.i64.wrap (10 * (q : Int) + ((b.toNat : Int) - 48)) = 10 * (q : Int) + ((b.toNat : Int) - 48) := IntWalk.i64_in _ (by omega)
      go_wp2_with fail
      exact ⟨⟨(by (repeat (first | exact trivial | refine ⟨rfl, ?_⟩))), HE.out, i + 1, by omega, by go_num, HW.out, HV⟩, (by simp [intOf] <;> omega)⟩
    · obtain rfl : i = t.length := by omega
      have hq2 : q = valF 0 t := by rw [HQ.out, List.take_length]
      have HXQ : Hid (x = ((q : Int))) := hide (by rw [HX.out, hq2])
      have HM := hide (fun W => l1Num_c (((q : Int))) (by omega) W)
      have hw5 : IntKind.i64.wrap (-(q : Int)) = -(q : Int) := IntWalk.i64_in _ (by omega)
      have HQ2 : Hid (valF 0 t ≤ 999999) := hide (by rw [← hq2]; exact hqb)
      rw [← HXQ.out] at HM
      clear hq2
      by_cases hte : Lib.itoa x = t
      · have HN0 : Hid (N = some x) := hide (HNY.out hte HQ2.out)
        rw [hte] at HM
        rw [HXQ.out] at HM HN0
        clear hte
        go_wp2_with fail
        refine (HM.out _).mono ?_
        rintro e w2 ⟨rfl, he2⟩
        go_wp2_with fail
        go_ret2
        exact ⟨by rw [HN0.out]; rfl, HE.out.trans he2⟩
      · have HN0 : Hid (N = none) := hide (HNT.out hte)
        have hta : (!(Lib.itoa x == t)) = true := by simpa using hte
        rw [HXQ.out] at HM hta
        clear hte
        go_wp2_with fail
        refine (HM.out _).mono ?_
        rintro e w2 ⟨rfl, he2⟩
        go_wp2_with fail
        go_ret2
        exact ⟨by rw [HN0.out]; rfl, HE.out.trans he2⟩
end Go.Proofs.YtjlnlicojcfpiaaDoor
