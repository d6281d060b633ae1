/-
  Which cnfs have a model.
-/
import Derived.Test.YtmpfhibncnamnaaC30
namespace Go.Proofs.Ytmpfhibncnamnaa
set_option linter.unusedSimpArgs false
set_option linter.unusedVariables false
open Go.RowKit

set_option maxRecDepth 100000 in
set_option maxHeartbeats 800000 in
theorem l5All_c (A : Option Addr) (n d b : Nat) (cls : List (List Int)) (w : World) (h : Intss w A n cls) (hb : b ≤ 4096) (hc : ∀ c ∈ cls, ∀ x ∈ c, -12 ≤ x ∧ x ≤ 12 ∧ x ≠ 0) :
    Calls Try.prog 91 #[.slice A n d, .int .i64 b] w fun e w' => e = .returned (.bool (allTrue cls b)) ∧ Ext w w' := by
  have hbn := h.bound
  have HL := hide h.len
  have HC := hide hc
  clear hc
  go_enter Try.func91, Try.ntmps91
  go_wp2
  refine wp_loopK _ rfl (fun KK acT wr => ∃ s0 s1 s2 s3 s4 s5 s6 s7 s8 s9 s10 s11 s12 s13 s14 s15 s16 s17 s18 : Value, (KeptM [true, true, false, false, false, false, false, false, false, false, false, false, false, false, false, false, false, false, false] [s0, s1, s2, s3, s4, s5, s6, s7, s8, s9, s10, s11, s12, s13, s14, s15, s16, s17, s18] KK ∧ (Ext w wr ∧ ∃ i : Nat, i ≤ n ∧ s5 = .int .i64 i ∧ Hid ((cls.take i).all (clTrue b) = true))) ∧ acT = ⟨#[s0, s1, s2, s3, s4, s5, s6, s7, s8, s9, s10, s11, s12, s13, s14, s15, s16, s17, s18], []⟩) (fun acT wr => (fun (s5 : Value) (wr : World) => n - (intOf s5).toNat) (acT.tmps.getD 5 undef) wr) ?_ ?_
  · (refine ⟨_, _, _, _, _, _, _, _, _, _, _, _, _, _, _, _, _, _, _, ⟨(by (repeat (first | exact trivial | refine ⟨rfl, ?_⟩))), ?_⟩, rfl⟩; exact ⟨Ext.refl _, 0, by omega, rfl, by simp [Hid]⟩)
  intro _ wr hinv; obtain ⟨s0, s1, s2, s3, s4, s5, s6, s7, s8, s9, s10, s11, s12, s13, s14, s15, s16, s17, s18, ⟨hkept, hrel⟩, rfl⟩ := hinv; simp only [KeptM] at hkept; obtain ⟨rfl, rfl, -⟩ := hkept; (try dsimp only)
  obtain ⟨he, i, hi, rfl, hq⟩ := hrel
  by_cases hlt : i < n
  · obtain ⟨ad, c, B, m, q, rfl, hx, hcx, hin⟩ := (h.ext he).at_ hlt
    have hcc := hide (HC.out c (List.mem_of_getElem? hx.out))
    cases ht : clTrue b c
    · have HP := hide (all_false_of hx ht)
      have HT := hide ht
      clear ht
      go_wp2_with (go_at_call 120; refine (l5True_c _ _ _ _ c _ hin hb hcc.out).mono ?_; rw [HT.out]; rintro e w1 ⟨rfl, he1⟩)
      go_ret; exact ⟨ret_bool HP.out.symm, he.trans he1⟩
    · have hq2 := all_take_succ hx hq ht
      have HT := hide ht
      clear ht
      go_wp2_with (go_at_call 120; refine (l5True_c _ _ _ _ c _ hin hb hcc.out).mono ?_; rw [HT.out]; rintro e w1 ⟨rfl, he1⟩)
      exact ⟨⟨(by (repeat (first | exact trivial | refine ⟨rfl, ?_⟩))), he.trans he1, i + 1, by omega, by go_num, hq2⟩, (by simp [intOf] <;> omega)⟩
  · obtain rfl : i = n := by omega
    go_wp2
    go_ret; exact ⟨ret_bool (all_take_all hq (by rw [HL.out]; exact Nat.le_refl _)).symm, he⟩
set_option maxRecDepth 100000 in
set_option maxHeartbeats 800000 in
theorem l5First_c (A : Option Addr) (n d v : Nat) (cls : List (List Int)) (w : World) (h : Intss w A n cls) (hv : v ≤ 12) (hc : ∀ c ∈ cls, ∀ x ∈ c, -12 ≤ x ∧ x ≤ 12 ∧ x ≠ 0) :
    Calls Try.prog 125 #[.int .i64 v, .slice A n d] w fun e w' => ∃ t : Int, e = .returned (.int .i64 t) ∧ decide (0 ≤ t) = satB v cls ∧ Ext w w' := by
  have HC := hide hc
  clear hc
  have hp := pow_small hv
  have hp2 : ((2 ^ v : Nat) : Int) = (2 : Int) ^ v := by simp
  obtain ⟨N, hN⟩ : ∃ N : Nat, N = 2 ^ v := ⟨_, rfl⟩
  rw [← hN] at hp2
  have HN := hide hp2
  have HNN := hide hN
  clear hN
  have hN4 : N ≤ 4096 := by omega
  clear hp2
  go_enter Try.func125, Try.ntmps125
  go_wp2
  refine wp_loopK _ rfl (fun KK acT wr => ∃ s0 s1 s2 s3 s4 s5 s6 s7 s8 s9 s10 s11 s12 s13 s14 s15 : Value, (KeptM [true, true, false, false, false, false, false, false, false, false, false, false, false, false, false, false] [s0, s1, s2, s3, s4, s5, s6, s7, s8, s9, s10, s11, s12, s13, s14, s15] KK ∧ (Ext w wr ∧ ∃ k : Nat, k ≤ N ∧ s5 = .int .i64 k ∧ Hid ((List.range k).any (allTrue cls) = false))) ∧ acT = ⟨#[s0, s1, s2, s3, s4, s5, s6, s7, s8, s9, s10, s11, s12, s13, s14, s15], []⟩) (fun acT wr => (fun (s5 : Value) (wr : World) => N - (intOf s5).toNat) (acT.tmps.getD 5 undef) wr) ?_ ?_
  · (refine ⟨_, _, _, _, _, _, _, _, _, _, _, _, _, _, _, _, ⟨(by (repeat (first | exact trivial | refine ⟨rfl, ?_⟩))), ?_⟩, rfl⟩; exact ⟨Ext.refl _, 0, by omega, rfl, by simp [Hid]⟩)
  intro _ wr hinv; obtain ⟨s0, s1, s2, s3, s4, s5, s6, s7, s8, s9, s10, s11, s12, s13, s14, s15, ⟨hkept, hrel⟩, rfl⟩ := hinv; simp only [KeptM] at hkept; obtain ⟨rfl, rfl, -⟩ := hkept; (try dsimp only)
  obtain ⟨he, k, hk, rfl, hq⟩ := hrel
  by_cases hlt : (k : Int) < (2 : Int) ^ v
  · have hkN : k < N := by have := HN.out; omega
    cases ht : allTrue cls k
    · have hq2 := any_range_succ hq ht
      have HT := hide ht
      clear ht
      go_wp2_with (go_at_call 91; refine (l5All_c _ _ _ _ cls _ (h.ext (by (repeat (first | with_reducible exact Ext.refl _ | with_reducible assumption | ((with_reducible refine Ext.setCell ?_ ?_ _); rotate_left; focus (first | omega | (simp <;> omega))) | with_reducible refine Ext.alloc ?_ _ | with_reducible refine Ext.drewN ?_ _ | with_reducible refine Ext.drew ?_ | with_reducible refine Ext.trans ?_ (by with_reducible assumption))))) (by omega) HC.out).mono ?_; rw [HT.out]; rintro e w1 ⟨rfl, he1⟩)
      exact ⟨⟨(by (repeat (first | exact trivial | refine ⟨rfl, ?_⟩))), he.trans he1, k + 1, by omega, by go_num, hq2⟩, (by simp [intOf] <;> omega)⟩
    · have hsat : Hid (satB v cls = true) := hide (any_range_true (show k < 2 ^ v by rw [← HNN.out]; exact hkN) ht)
      have HT := hide ht
      clear ht
      go_wp2_with (go_at_call 91; refine (l5All_c _ _ _ _ cls _ (h.ext (by (repeat (first | with_reducible exact Ext.refl _ | with_reducible assumption | ((with_reducible refine Ext.setCell ?_ ?_ _); rotate_left; focus (first | omega | (simp <;> omega))) | with_reducible refine Ext.alloc ?_ _ | with_reducible refine Ext.drewN ?_ _ | with_reducible refine Ext.drew ?_ | with_reducible refine Ext.trans ?_ (by with_reducible assumption))))) (by omega) HC.out).mono ?_; rw [HT.out]; rintro e w1 ⟨rfl, he1⟩)
      go_ret; exact ⟨_, rfl, by rw [hsat.out]; simp, he.trans he1⟩
  · have hkN : k = N := by have := HN.out; omega
    have hsat : Hid (satB v cls = false) := hide (by rw [satB, ← HNN.out, ← hkN]; exact hq.out)
    clear hkN
    go_wp2
    go_ret; exact ⟨_, rfl, by rw [hsat.out]; decide, he⟩
theorem l5Sat_c (A : Option Addr) (n d v : Nat) (cls : List (List Int)) (w : World) (h : Intss w A n cls) (hv : v ≤ 12) (hc : ∀ c ∈ cls, ∀ x ∈ c, -12 ≤ x ∧ x ≤ 12 ∧ x ≠ 0) :
    Calls Try.prog 98 #[.agg #[.int .i64 v, .slice A n d]] w fun e w' => e = .returned (.bool (satB v cls)) ∧ Ext w w' := by
  have HC := hide hc
  clear hc
  go_enter Try.func98, Try.ntmps98
  go_wp2_with (go_at_call 125; refine (l5First_c _ _ _ _ cls _ (h.ext (by (repeat (first | with_reducible exact Ext.refl _ | with_reducible assumption | ((with_reducible refine Ext.setCell ?_ ?_ _); rotate_left; focus (first | omega | (simp <;> omega))) | with_reducible refine Ext.alloc ?_ _ | with_reducible refine Ext.drewN ?_ _ | with_reducible refine Ext.drew ?_ | with_reducible refine Ext.trans ?_ (by with_reducible assumption))))) hv HC.out).mono ?_; rintro e w1 ⟨t, rfl, ht, he⟩; have ht := hide ht)
  go_ret; exact ⟨ret_bool (by rw [← ht.out] <;> simp), by (repeat (first | with_reducible exact Ext.refl _ | with_reducible assumption | ((with_reducible refine Ext.setCell ?_ ?_ _); rotate_left; focus (first | omega | (simp <;> omega))) | with_reducible refine Ext.alloc ?_ _ | with_reducible refine Ext.drewN ?_ _ | with_reducible refine Ext.drew ?_ | with_reducible refine Ext.trans ?_ (by with_reducible assumption)))⟩
set_option maxHeartbeats 800000 in
theorem holds_lit_c (x : Int) (p b : Nat) (w : World) (hx : -12 ≤ x ∧ x ≤ 12 ∧ x ≠ 0) (hb : b ≤ 4096) (hc : w.cell? ⟨p, 0, none⟩ = some (.int .i64 b)) :
    Calls Try.prog 136 #[.int .i64 x, .pointer (some ⟨p, 0, none⟩)] w fun e w' => e = .returned (.bool (litTrue b x)) ∧ Ext w w' := by
  obtain ⟨u, hu, hxu⟩ := lit_cases hx
  clear hx
  have habs : absW x = (u : Int) + 1 := by unfold absW wrap64; split <;> omega
  have hv := fun W => abs_c x W
  rw [habs] at hv
  have HV := hide hv
  clear habs hv
  have hwu := IntWalk.i64_in (u : Int) (by omega)
  rcases hxu with rfl | rfl
  · have hl := litTrue_pos b u
    cases hbit : b.testBit u
    all_goals
      have hbe : (bits .and .i64 ((b : Int) / 2 ^ u) 1 == 1) = b.testBit u := bit_eq b u (by omega)
      rw [hbit] at hbe hl
      rw [hl]
      clear hl hbit
      go_enter Try.func136, Try.ntmps136
      go_wp2
      go_quiet ((go_at_call 130; first | (refine quiet_left (HV.out _)) | (refine quiet_left2 (HV.out _))))
      go_wp2
      go_ret; exact ⟨rfl, by (repeat (first | with_reducible exact Ext.refl _ | with_reducible assumption | ((with_reducible refine Ext.setCell ?_ ?_ _); rotate_left; focus (first | omega | (simp <;> omega))) | with_reducible refine Ext.alloc ?_ _ | with_reducible refine Ext.drewN ?_ _ | with_reducible refine Ext.drew ?_ | with_reducible refine Ext.trans ?_ (by with_reducible assumption)))⟩
  · have hl := litTrue_neg b u
    cases hbit : b.testBit u
    all_goals
      have hbe : (bits .and .i64 ((b : Int) / 2 ^ u) 1 == 1) = b.testBit u := bit_eq b u (by omega)
      rw [hbit] at hbe hl
      rw [hl]
      clear hl hbit
      go_enter Try.func136, Try.ntmps136
      go_wp2
      go_quiet ((go_at_call 130; first | (refine quiet_left (HV.out _)) | (refine quiet_left2 (HV.out _))))
      go_wp2
      go_ret; exact ⟨rfl, by (repeat (first | with_reducible exact Ext.refl _ | with_reducible assumption | ((with_reducible refine Ext.setCell ?_ ?_ _); rotate_left; focus (first | omega | (simp <;> omega))) | with_reducible refine Ext.alloc ?_ _ | with_reducible refine Ext.drewN ?_ _ | with_reducible refine Ext.drew ?_ | with_reducible refine Ext.trans ?_ (by with_reducible assumption)))⟩
theorem holds_lit_enters : Enters Try.prog 136 := enters_of Try.func136 (by kernel_rfl) (by kernel_rfl)
theorem holds_c (A : Option Addr) (n d b : Nat) (c : List Int) (w : World) (h : Ints w A n c) (hb : b ≤ 4096) (hc : ∀ x ∈ c, -12 ≤ x ∧ x ≤ 12 ∧ x ≠ 0) :
    Calls Try.prog 133 #[.slice A n d, .int .i64 b] w fun e w' => e = .returned (.bool (clTrue b c)) ∧ Ext w w' := by
  have hq := fun W p (he : Ext w W) (hp : W.cell? ⟨p, 0, none⟩ = some (.int .i64 b)) => ContainsFunc_int_c 136 #[.pointer (some ⟨p, 0, none⟩)] (litTrue b) A n d c W (h.ext he) holds_lit_enters
    (fun x wr hx he' => by simpa using holds_lit_c x p b wr (hc x hx) hb (he'.cell hp))
  have HQ := hide hq
  clear hq hc
  go_enter Try.func133, Try.ntmps133
  go_wp2_with (go_at_call 73; refine (HQ.out _ _ (by (repeat (first | with_reducible exact Ext.refl _ | with_reducible assumption | ((with_reducible refine Ext.setCell ?_ ?_ _); rotate_left; focus (first | omega | (simp <;> omega))) | with_reducible refine Ext.alloc ?_ _ | with_reducible refine Ext.drewN ?_ _ | with_reducible refine Ext.drew ?_ | with_reducible refine Ext.trans ?_ (by with_reducible assumption)))) (by simp [go_sem])).mono ?_; rintro e w1 ⟨rfl, he⟩)
  go_ret; exact ⟨rfl, by (repeat (first | with_reducible exact Ext.refl _ | with_reducible assumption | ((with_reducible refine Ext.setCell ?_ ?_ _); rotate_left; focus (first | omega | (simp <;> omega))) | with_reducible refine Ext.alloc ?_ _ | with_reducible refine Ext.drewN ?_ _ | with_reducible refine Ext.drew ?_ | with_reducible refine Ext.trans ?_ (by with_reducible assumption)))⟩
theorem isModel_lit_c (A : Option Addr) (n d p b : Nat) (c : List Int) (w : World) (h : Ints w A n c) (hb : b ≤ 4096) (hx : ∀ x ∈ c, -12 ≤ x ∧ x ≤ 12 ∧ x ≠ 0) (hc : w.cell? ⟨p, 0, none⟩ = some (.int .i64 b)) :
    Calls Try.prog 132 #[.slice A n d, .pointer (some ⟨p, 0, none⟩)] w fun e w' => e = .returned (.bool (!clTrue b c)) ∧ Ext w w' := by
  have HX := hide hx
  clear hx
  go_enter Try.func132, Try.ntmps132
  go_wp2_with (go_at_call 133; refine (holds_c _ _ _ _ c _ h hb HX.out).mono ?_; rintro e w1 ⟨rfl, he⟩)
  go_ret; exact ⟨rfl, by (repeat (first | with_reducible exact Ext.refl _ | with_reducible assumption | ((with_reducible refine Ext.setCell ?_ ?_ _); rotate_left; focus (first | omega | (simp <;> omega))) | with_reducible refine Ext.alloc ?_ _ | with_reducible refine Ext.drewN ?_ _ | with_reducible refine Ext.drew ?_ | with_reducible refine Ext.trans ?_ (by with_reducible assumption)))⟩
theorem isModel_lit_enters : Enters Try.prog 132 := enters_of Try.func132 (by kernel_rfl) (by kernel_rfl)
theorem isModel_c (A : Option Addr) (n d b : Nat) (cls : List (List Int)) (w : World) (h : Intss w A n cls) (hb : b ≤ 4096) (hc : ∀ c ∈ cls, ∀ x ∈ c, -12 ≤ x ∧ x ≤ 12 ∧ x ≠ 0) :
    Calls Try.prog 124 #[.slice A n d, .int .i64 b] w fun e w' => e = .returned (.bool (allTrue cls b)) ∧ Ext w w' := by
  have hq := fun W p (he : Ext w W) (hp : W.cell? ⟨p, 0, none⟩ = some (.int .i64 b)) => ContainsFunc_rows_mem 132 #[.pointer (some ⟨p, 0, none⟩)] (fun c => !clTrue b c) A n d cls W (h.ext he) isModel_lit_enters
    (fun c B m q wr hcm hin he' => by simpa using isModel_lit_c B m q p b c wr hin hb (hc c hcm) (he'.cell hp))
  have hall : (cls.any fun c => !clTrue b c) = !allTrue cls b := by rw [allTrue, List.not_all_eq_any_not]
  rw [hall] at hq
  generalize allTrue cls b = g at hq ⊢
  have HQ := hide hq
  clear hq hc hall
  go_enter Try.func124, Try.ntmps124
  go_wp2_with (go_at_call 131; refine (HQ.out _ _ (by (repeat (first | with_reducible exact Ext.refl _ | with_reducible assumption | ((with_reducible refine Ext.setCell ?_ ?_ _); rotate_left; focus (first | omega | (simp <;> omega))) | with_reducible refine Ext.alloc ?_ _ | with_reducible refine Ext.drewN ?_ _ | with_reducible refine Ext.drew ?_ | with_reducible refine Ext.trans ?_ (by with_reducible assumption)))) (by simp [go_sem])).mono ?_; rintro e w1 ⟨rfl, he⟩)
  go_ret; exact ⟨ret_bool (by simp), by (repeat (first | with_reducible exact Ext.refl _ | with_reducible assumption | ((with_reducible refine Ext.setCell ?_ ?_ _); rotate_left; focus (first | omega | (simp <;> omega))) | with_reducible refine Ext.alloc ?_ _ | with_reducible refine Ext.drewN ?_ _ | with_reducible refine Ext.drew ?_ | with_reducible refine Ext.trans ?_ (by with_reducible assumption)))⟩
end Go.Proofs.Ytmpfhibncnamnaa
