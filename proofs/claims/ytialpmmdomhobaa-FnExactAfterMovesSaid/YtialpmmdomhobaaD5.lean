/-
  Pebbling: what each text's small functions compute.
-/
import Derived.Test.YtialpmmdomhobaaD4
namespace Go.Proofs.Ytialpmmdomhobaa
set_option linter.unusedSimpArgs false
set_option linter.unusedVariables false
open Go.RowKit

theorem or_i64 (a b : Nat) (ha : a < 1048576) (hb : b < 1048576) : bits .or .i64 (a : Int) (b : Int) = ((a ||| b : Nat) : Int) := by
  show IntKind.i64.wrap ((BitVec.ofInt 64 (a : Int) ||| BitVec.ofInt 64 (b : Int)).toNat : Int) = _
  rw [BitVec.toNat_or, ofInt_nat64 a (by omega), ofInt_nat64 b (by omega)]
  have : a ||| b < 1048576 := Nat.or_lt_two_pow (n := 20) ha hb
  exact IntWalk.i64_in _ (by omega)
theorem and_i64 (a b : Nat) (ha : a < 1048576) (hb : b < 1048576) : bits .and .i64 (a : Int) (b : Int) = ((a &&& b : Nat) : Int) := by
  show IntKind.i64.wrap ((BitVec.ofInt 64 (a : Int) &&& BitVec.ofInt 64 (b : Int)).toNat : Int) = _
  rw [BitVec.toNat_and, ofInt_nat64 a (by omega), ofInt_nat64 b (by omega)]
  have : a &&& b ≤ a := Nat.and_le_left
  exact IntWalk.i64_in _ (by omega)
theorem powc (x : Nat) : ((2 ^ x : Nat) : Int) = (2 : Int) ^ x := by simp
theorem and_i64_pow {s x : Nat} (hs : s < 1024) (hx : x ≤ 9) : (bits .and .i64 (s : Int) ((2 : Int) ^ x) == 0) = !s.testBit x := by
  rw [← powc, and_i64 s _ (by omega) (by have := pow_small10 hx; omega), Bool.eq_iff_iff]
  simp only [beq_iff_eq, Bool.not_eq_true']
  rw [← and_bit]; omega
theorem and_u64_pow {s x : Nat} (hs : s < 1024) (hx : x ≤ 9) : (bits .and .u64 (s : Int) ((2 : Int) ^ x) == 0) = !s.testBit x := by
  rw [← powc, and_u64 s _ (by omega) (by have := pow_small10 hx; omega), Bool.eq_iff_iff]
  simp only [beq_iff_eq, Bool.not_eq_true']
  rw [← and_bit]; omega
theorem bne_of {a b : Int} {v : Bool} (h : (a == b) = v) : (a != b) = !v := by rw [← h]; rfl
theorem fed_u64 {xss : List (List Int)} {s x : Nat} (hs : s < 1024) (hp : bitsOf (prd xss x) < 1024) : (bits .and .u64 (s : Int) (bitsOf (prd xss x) : Nat) == ((bitsOf (prd xss x) : Nat) : Int)) = fedB xss s x := by
  rw [and_u64 s _ (by omega) (by omega), Bool.eq_iff_iff]
  simp only [beq_iff_eq]
  unfold fedB
  rw [← and_bits s (prd xss x)]
  omega
theorem andNot_u64 {s x : Nat} (hs : s < 1024) (hx : x ≤ 9) (h : s.testBit x = true) : bits .andNot .u64 (s : Int) ((2 : Int) ^ x) = ((s - 2 ^ x : Nat) : Int) := by
  have : ∀ s : Nat, s < 1024 → ∀ x : Nat, x < 10 → s.testBit x = true → bits .andNot .u64 (s : Int) ((2 : Int) ^ x) = ((s - 2 ^ x : Nat) : Int) := by decide +kernel
  exact this s hs x (by omega) h
theorem bit_eq0 (b i : Nat) (hb : b ≤ 1000000) : (bits .and .i64 ((b : Int) / 2 ^ i) 1 == 0) = !b.testBit i := by
  have h1 : ((b : Int) / 2 ^ i) = ((b / 2 ^ i : Nat) : Int) := by simp
  have h2 : b / 2 ^ i ≤ b := Nat.div_le_self _ _
  rw [h1, and_one_nat _ (by omega), Nat.testBit_eq_decide_div_mod_eq, Bool.eq_iff_iff]
  simp only [beq_iff_eq, Bool.not_eq_true', decide_eq_false_iff_not]
  omega
/-- What the reference's move returns. -/
def mvInt : Option Nat → Int
  | none => -1
  | some t => t
set_option maxHeartbeats 1600000 in
theorem l14Fed_c (xss : List (List Int)) (hd : dagOk xss = true) (s x : Nat) (A : Option Addr) (n d : Nat) (w : World) (h : Intss w A n xss) (hs : s < 1024) (hx : x < n) :
    Calls Try.prog 39 #[.agg #[.slice A n d], .int .i64 s, .int .i64 x] w fun e w' => e = .returned (.bool (fedB xss s x)) ∧ Ext w w' := by
  have HG := hide (dag_good hd)
  have hn10 : n ≤ 10 := by have := dagOk_len hd; have := h.len; omega
  obtain ⟨ad, c, B, m, y, hA, hxc, hcell, hin⟩ := h.at_ hx
  subst hA
  have hpc : Hid (prd xss x = c) := hide (by unfold prd; rw [getD_of hxc])
  have hpr : Hid (∀ p ∈ c, 0 ≤ p ∧ p < x) := hide (by have := HG.out x; rw [hpc.out] at this; exact this)
  have hml := hide hin.len
  have hmb := hin.bound
  have hf : fedB xss s x = c.all (fun p => s.testBit p.toNat) := by unfold fedB; rw [hpc.out]
  rw [hf]
  clear hf hd
  obtain ⟨R, hR⟩ : ∃ R, c.all (fun p => s.testBit p.toNat) = R := ⟨_, rfl⟩
  rw [hR]
  have HR := hide hR
  clear hR
  go_enter Try.func39, Try.ntmps39
  go_wp2_with fail
  refine wp_loopF 30 _ rfl rfl [1, 2, 3] rfl (fun fr wr => Ext (w.alloc (.cells #[.slice (some ad) n d] 31)) wr ∧ ∃ i : Nat, i ≤ m ∧ (fr 7) = .int .i64 i ∧ Hid ((c.take i).all (fun p => s.testBit p.toNat) = true)) (fun fr wr => m - (intOf (fr 7)).toNat) ?_ ?_
  · (exact ⟨Ext.refl _, 0, by omega, rfl, rfl⟩)
  intro ks fr wr hkept hrel; (try dsimp only at hrel)
  change Code.wp _ _ _ ⟨#[fr 0, ks 1, ks 2, ks 3, fr 4, fr 5, fr 6, fr 7, fr 8, fr 9, fr 10, fr 11, fr 12, fr 13, fr 14, fr 15, fr 16, fr 17, fr 18, fr 19, fr 20, fr 21, fr 22, fr 23, fr 24, fr 25, fr 26, fr 27, fr 28, fr 29], []⟩ wr
  simp only [KeptV, List.getD_cons_zero, List.getD_cons_succ] at hkept; obtain ⟨hk1, hk2, hk3, -⟩ := hkept
  generalize ks 1 = k1 at hk1 ⊢; subst hk1
  generalize ks 2 = k2 at hk2 ⊢; subst hk2
  generalize ks 3 = k3 at hk3 ⊢; subst hk3
  generalize fr 7 = s7 at hrel ⊢
  obtain ⟨he, i, hi, hs1, hq⟩ := hrel
  subst hs1
  have e0 : Ext w wr := ((Ext.refl w).alloc _).trans he
  have d0 := he.box 0 _ rfl
  have d1 := e0.cell hcell
  by_cases hlt : i < m
  · obtain ⟨ad2, p, rfl, hp, hpc2⟩ := (hin.ext e0).at_ hlt
    have hp2 := hpr.out p (List.mem_of_getElem? hp.out)
    obtain ⟨k, rfl⟩ : ∃ k : Nat, p = (k : Int) := ⟨p.toNat, by omega⟩
    have hb0 := bit_eq0 s k (by omega)
    cases hc : s.testBit k
    · have hF : R = false := by rw [← HR.out]; exact all_false_of hp (by simpa using hc)
      subst hF
      rw [hc] at hb0
      simp only [Bool.not_false] at hb0
      clear hc
      go_wp2_with fail
      go_ret
      exact ⟨rfl, e0⟩
    · have hq2 := all_take_succ hp hq (by simpa using hc)
      rw [hc] at hb0
      simp only [Bool.not_true] at hb0
      clear hc
      have HE := hide he
      clear he e0
      go_wp2_with fail
      exact ⟨⟨(by (repeat (first | exact trivial | refine ⟨rfl, ?_⟩))), HE.out, i + 1, by omega, by go_num, hq2⟩, (by simp [intOf] <;> omega)⟩
  · obtain rfl : i = m := by omega
    have hF : R = true := by rw [← HR.out]; exact all_take_all hq (by rw [hml.out]; exact Nat.le_refl _)
    subst hF
    go_wp2_with fail
    go_ret
    exact ⟨rfl, e0⟩
set_option maxHeartbeats 3200000 in
theorem l14Move_c (xss : List (List Int)) (hd : dagOk xss = true) (rev : Bool) (s : Nat) (k nd : Int) (A : Option Addr) (n d : Nat) (w : World) (h : Intss w A n xss) (hs : s < 1024) :
    Calls Try.prog 33 #[.agg #[.slice A n d], .int .i64 s, .agg #[.int .i64 k, .int .i64 nd], .bool rev] w fun e w' => e = .returned (.int .i64 (mvInt (moveP xss rev s (k, nd)))) ∧ Ext w w' := by
  have hn10 : n ≤ 10 := by have := dagOk_len hd; have := h.len; omega
  have hl := hide h.len
  cases hw : within nd 0 ((n : Int) - 1)
  · have hr : moveP xss rev s (k, nd) = none := by unfold moveP; rw [← hl.out, hw]; rfl
    rw [hr]
    clear hr
    go_enter Try.func33, Try.ntmps33
    go_wp2_with (go_at_call 31; refine (l1In_c _ _ _ _).mono ?_; rintro e w' ⟨rfl, rfl⟩)
    go_ret
    exact ⟨rfl, by (repeat (first | with_reducible exact Ext.refl _ | with_reducible assumption | ((with_reducible refine Ext.setCell ?_ ?_ _); rotate_left; focus (first | omega | (simp <;> omega))) | with_reducible refine Ext.alloc ?_ _ | with_reducible refine Ext.drewN ?_ _ | with_reducible refine Ext.drew ?_ | with_reducible refine Ext.trans ?_ (by with_reducible assumption)))⟩
  have hw2 := within_true hw
  obtain ⟨x, rfl⟩ := int_nat hw2.1
  have hx9 : x ≤ 9 := by omega
  have hxn : x < n := by omega
  have hps := pow_small10 hx9
  have hpi : (1 : Int) ≤ 2 ^ x ∧ (2 : Int) ^ x ≤ 1024 := by rw [← powc]; have := Nat.one_le_two_pow (n := x); omega
  have hFed := hide (fun W (kk : Intss W A n xss) => l14Fed_c xss hd s x A n d W kk hs hxn)
  have ha0 := and_i64_pow hs hx9
  have ha1 := bne_of ha0
  have hm0 : moveP xss rev s (k, (x : Int)) = if k = 1 then (if !s.testBit x && fedB xss s x then some (s ||| 2 ^ x) else none) else if k = 2 then (if s.testBit x && (!rev || fedB xss s x) then some (s - 2 ^ x) else none) else none := by
    unfold moveP; rw [← hl.out, hw]; simp
  rw [hm0]
  clear hm0 hd
  obtain ⟨fd, hfd⟩ : ∃ fd, fedB xss s x = fd := ⟨_, rfl⟩
  rw [hfd] at hFed ⊢
  clear hfd
  by_cases h1 : k = 1
  · subst h1
    simp only [if_true]
    cases hb : s.testBit x
    · rw [hb] at ha0 ha1
      simp only [Bool.not_false, Bool.not_true] at ha0 ha1
      have hor : bits .or .i64 (s : Int) ((2 : Int) ^ x) = ((s ||| 2 ^ x : Nat) : Int) := by rw [← powc]; exact or_i64 s _ (by omega) (by omega)
      obtain ⟨t, ht⟩ : ∃ t : Nat, s ||| 2 ^ x = t := ⟨_, rfl⟩
      rw [ht] at hor ⊢
      clear ht hb
      cases fd
      · go_enter Try.func33, Try.ntmps33
        go_wp2_with (first | (go_at_call 31; refine (l1In_c _ _ _ _).mono ?_; rintro e w' ⟨rfl, rfl⟩) | (go_at_call 39; refine (hFed.out _ (h.ext (by (repeat (first | with_reducible exact Ext.refl _ | with_reducible assumption | ((with_reducible refine Ext.setCell ?_ ?_ _); rotate_left; focus (first | omega | (simp <;> omega))) | with_reducible refine Ext.alloc ?_ _ | with_reducible refine Ext.drewN ?_ _ | with_reducible refine Ext.drew ?_ | with_reducible refine Ext.trans ?_ (by with_reducible assumption)))))).mono ?_; rintro e w1 ⟨rfl, he1⟩))
        go_ret
        exact ⟨rfl, by (repeat (first | with_reducible exact Ext.refl _ | with_reducible assumption | ((with_reducible refine Ext.setCell ?_ ?_ _); rotate_left; focus (first | omega | (simp <;> omega))) | with_reducible refine Ext.alloc ?_ _ | with_reducible refine Ext.drewN ?_ _ | with_reducible refine Ext.drew ?_ | with_reducible refine Ext.trans ?_ (by with_reducible assumption)))⟩
      · go_enter Try.func33, Try.ntmps33
        go_wp2_with (first | (go_at_call 31; refine (l1In_c _ _ _ _).mono ?_; rintro e w' ⟨rfl, rfl⟩) | (go_at_call 39; refine (hFed.out _ (h.ext (by (repeat (first | with_reducible exact Ext.refl _ | with_reducible assumption | ((with_reducible refine Ext.setCell ?_ ?_ _); rotate_left; focus (first | omega | (simp <;> omega))) | with_reducible refine Ext.alloc ?_ _ | with_reducible refine Ext.drewN ?_ _ | with_reducible refine Ext.drew ?_ | with_reducible refine Ext.trans ?_ (by with_reducible assumption)))))).mono ?_; rintro e w1 ⟨rfl, he1⟩))
        go_ret
        exact ⟨rfl, by (repeat (first | with_reducible exact Ext.refl _ | with_reducible assumption | ((with_reducible refine Ext.setCell ?_ ?_ _); rotate_left; focus (first | omega | (simp <;> omega))) | with_reducible refine Ext.alloc ?_ _ | with_reducible refine Ext.drewN ?_ _ | with_reducible refine Ext.drew ?_ | with_reducible refine Ext.trans ?_ (by with_reducible assumption)))⟩
    · rw [hb] at ha0 ha1
      simp only [Bool.not_false, Bool.not_true] at ha0 ha1
      clear hb
      go_enter Try.func33, Try.ntmps33
      go_wp2_with (go_at_call 31; refine (l1In_c _ _ _ _).mono ?_; rintro e w' ⟨rfl, rfl⟩)
      go_ret
      exact ⟨rfl, by (repeat (first | with_reducible exact Ext.refl _ | with_reducible assumption | ((with_reducible refine Ext.setCell ?_ ?_ _); rotate_left; focus (first | omega | (simp <;> omega))) | with_reducible refine Ext.alloc ?_ _ | with_reducible refine Ext.drewN ?_ _ | with_reducible refine Ext.drew ?_ | with_reducible refine Ext.trans ?_ (by with_reducible assumption)))⟩
  have hk1 : (k == 1) = false := by simpa using h1
  rw [if_neg h1]
  by_cases h2 : k = 2
  · subst h2
    simp only [if_true]
    clear h1
    cases hb : s.testBit x
    · rw [hb] at ha0 ha1
      simp only [Bool.not_false, Bool.not_true] at ha0 ha1
      clear hb
      go_enter Try.func33, Try.ntmps33
      go_wp2_with (go_at_call 31; refine (l1In_c _ _ _ _).mono ?_; rintro e w' ⟨rfl, rfl⟩)
      go_ret
      exact ⟨rfl, by (repeat (first | with_reducible exact Ext.refl _ | with_reducible assumption | ((with_reducible refine Ext.setCell ?_ ?_ _); rotate_left; focus (first | omega | (simp <;> omega))) | with_reducible refine Ext.alloc ?_ _ | with_reducible refine Ext.drewN ?_ _ | with_reducible refine Ext.drew ?_ | with_reducible refine Ext.trans ?_ (by with_reducible assumption)))⟩
    · have hle : (2 : Int) ^ x ≤ s := by rw [← powc]; have := bit_le hb; omega
      have hsub : ((s - 2 ^ x : Nat) : Int) = (s : Int) - 2 ^ x := by have := bit_le hb; rw [← powc]; omega
      have HS := hide hsub
      rw [hb] at ha0 ha1
      simp only [Bool.not_false, Bool.not_true] at ha0 ha1
      clear hb hsub
      cases rev
      · go_enter Try.func33, Try.ntmps33
        go_wp2_with (go_at_call 31; refine (l1In_c _ _ _ _).mono ?_; rintro e w' ⟨rfl, rfl⟩)
        go_ret
        exact ⟨by simp [mvInt, HS.out], by (repeat (first | with_reducible exact Ext.refl _ | with_reducible assumption | ((with_reducible refine Ext.setCell ?_ ?_ _); rotate_left; focus (first | omega | (simp <;> omega))) | with_reducible refine Ext.alloc ?_ _ | with_reducible refine Ext.drewN ?_ _ | with_reducible refine Ext.drew ?_ | with_reducible refine Ext.trans ?_ (by with_reducible assumption)))⟩
      · cases fd
        · go_enter Try.func33, Try.ntmps33
          go_wp2_with (first | (go_at_call 31; refine (l1In_c _ _ _ _).mono ?_; rintro e w' ⟨rfl, rfl⟩) | (go_at_call 39; refine (hFed.out _ (h.ext (by (repeat (first | with_reducible exact Ext.refl _ | with_reducible assumption | ((with_reducible refine Ext.setCell ?_ ?_ _); rotate_left; focus (first | omega | (simp <;> omega))) | with_reducible refine Ext.alloc ?_ _ | with_reducible refine Ext.drewN ?_ _ | with_reducible refine Ext.drew ?_ | with_reducible refine Ext.trans ?_ (by with_reducible assumption)))))).mono ?_; rintro e w1 ⟨rfl, he1⟩))
          go_ret
          exact ⟨rfl, by (repeat (first | with_reducible exact Ext.refl _ | with_reducible assumption | ((with_reducible refine Ext.setCell ?_ ?_ _); rotate_left; focus (first | omega | (simp <;> omega))) | with_reducible refine Ext.alloc ?_ _ | with_reducible refine Ext.drewN ?_ _ | with_reducible refine Ext.drew ?_ | with_reducible refine Ext.trans ?_ (by with_reducible assumption)))⟩
        · go_enter Try.func33, Try.ntmps33
          go_wp2_with (first | (go_at_call 31; refine (l1In_c _ _ _ _).mono ?_; rintro e w' ⟨rfl, rfl⟩) | (go_at_call 39; refine (hFed.out _ (h.ext (by (repeat (first | with_reducible exact Ext.refl _ | with_reducible assumption | ((with_reducible refine Ext.setCell ?_ ?_ _); rotate_left; focus (first | omega | (simp <;> omega))) | with_reducible refine Ext.alloc ?_ _ | with_reducible refine Ext.drewN ?_ _ | with_reducible refine Ext.drew ?_ | with_reducible refine Ext.trans ?_ (by with_reducible assumption)))))).mono ?_; rintro e w1 ⟨rfl, he1⟩))
          go_ret
          exact ⟨by simp [mvInt, HS.out], by (repeat (first | with_reducible exact Ext.refl _ | with_reducible assumption | ((with_reducible refine Ext.setCell ?_ ?_ _); rotate_left; focus (first | omega | (simp <;> omega))) | with_reducible refine Ext.alloc ?_ _ | with_reducible refine Ext.drewN ?_ _ | with_reducible refine Ext.drew ?_ | with_reducible refine Ext.trans ?_ (by with_reducible assumption)))⟩
  · have hk2 : (k == 2) = false := by simpa using h2
    rw [if_neg h2]
    clear h1 h2
    go_enter Try.func33, Try.ntmps33
    go_wp2_with (go_at_call 31; refine (l1In_c _ _ _ _).mono ?_; rintro e w' ⟨rfl, rfl⟩)
    go_ret
    exact ⟨rfl, by (repeat (first | with_reducible exact Ext.refl _ | with_reducible assumption | ((with_reducible refine Ext.setCell ?_ ?_ _); rotate_left; focus (first | omega | (simp <;> omega))) | with_reducible refine Ext.alloc ?_ _ | with_reducible refine Ext.drewN ?_ _ | with_reducible refine Ext.drew ?_ | with_reducible refine Ext.trans ?_ (by with_reducible assumption)))⟩
end Go.Proofs.Ytialpmmdomhobaa
