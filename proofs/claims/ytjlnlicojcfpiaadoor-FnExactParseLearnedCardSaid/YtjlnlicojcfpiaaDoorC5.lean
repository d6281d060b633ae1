/-
  Clauses and assignments: what the reference's and the program's tests of validity compute.
-/
import Derived.Test.YtjlnlicojcfpiaaDoorC2
namespace Go.Proofs.YtjlnlicojcfpiaaDoor
set_option linter.unusedSimpArgs false
set_option linter.unusedVariables false
open Go.RowKit

set_option maxHeartbeats 800000 in
theorem l2Clause_c (v : Int) (A : Option Addr) (n d : Nat) (c : List Int) (w : World) (h : Ints w A n c) :
    Calls Tryd.prog 27 #[.int .i64 v, .slice A n d] w fun e w' => e = .returned (.bool (clauseOk v c)) ∧ Ext w w' := by
  have hb := h.bound
  cases hv : within v 0 12
  · have hf : clauseOk v c = false := by simp [clauseOk, hv]
    rw [hf]
    have HF := hide hf
    clear hf
    go_enter Tryd.func27, Tryd.ntmps27
    go_wp2_with (go_at_call 26; refine (l2Vars_c _ _).mono ?_; rintro e w' ⟨rfl, rfl⟩)
    go_ret
    exact ⟨rfl, Ext.refl _⟩
  · go_enter Tryd.func27, Tryd.ntmps27
    go_wp2_with (go_at_call 26; refine (l2Vars_c _ _).mono ?_; rintro e w' ⟨rfl, rfl⟩)
    have HV := hide hv
    clear hv
    refine wp_loop (fun acT wr => ∃ s0 s1 s2 s3 s4 s5 s6 s7 s8 s9 s10 s11 s12 s13 s14 s15 s16 s17 s18 s19 s20 s21 s22 s23 s24 s25 s26 s27 s28 s29 s30 s31 s32 s33 s34 s35 s36 s37 s38 s39 : Value, (s0 = .int .i64 v ∧ s1 = .slice A n d ∧ (Ext w wr ∧ ∃ i : Nat, i ≤ n ∧ s5 = .int .i64 (i : Int) ∧ Hid ((List.range i).all (litAt v c) = true))) ∧ acT = ⟨#[s0, s1, s2, s3, s4, s5, s6, s7, s8, s9, s10, s11, s12, s13, s14, s15, s16, s17, s18, s19, s20, s21, s22, s23, s24, s25, s26, s27, s28, s29, s30, s31, s32, s33, s34, s35, s36, s37, s38, s39], []⟩) (fun acT wr => (fun (s5 : Value) (wr : World) => n - (intOf s5).toNat) (acT.tmps.getD 5 undef) wr) ?_ ?_
    · (refine ⟨_, _, _, _, _, _, _, _, _, _, _, _, _, _, _, _, _, _, _, _, _, _, _, _, _, _, _, _, _, _, _, _, _, _, _, _, _, _, _, _, ⟨rfl, rfl, ?_⟩, rfl⟩; exact ⟨Ext.refl _, 0, Nat.zero_le _, rfl, by simp [Hid]⟩)
    intro _ wr hinv; obtain ⟨s0, s1, s2, s3, s4, s5, s6, s7, s8, s9, s10, s11, s12, s13, s14, s15, s16, s17, s18, s19, s20, s21, s22, s23, s24, s25, s26, s27, s28, s29, s30, s31, s32, s33, s34, s35, s36, s37, s38, s39, ⟨rfl, rfl, hrel⟩, rfl⟩ := hinv; (try dsimp only)
    obtain ⟨he, i, hi, rfl, hq⟩ := hrel
    have hl := h.len
    have HL := hide hl
    clear hl
    by_cases hlt : i < n
    · obtain ⟨ad, x, rfl, hx, hc⟩ := (h.ext he).at_ hlt
      cases hlit : isLit v x
      · have hp := litAt_no hx hlit
        have HP := hide (rangeAll_false (n := c.length) (by rw [← HL.out]; exact hlt) hp)
        clear hp
        go_wp2
        go_quiet (first | (go_at_call 36; first | (refine quiet_left (l2Lit_c _ _ _)) | (refine quiet_left2 (l2Lit_c _ _ _))) | (go_at_call 37; first | (refine quiet_left (l2Var_c _ _)) | (refine quiet_left2 (l2Var_c _ _))))
        go_wp2
        go_ret
        exact ⟨ret_bool (by simp [clauseOk, HP.out]), he.drewN _⟩
      · rcases Nat.eq_zero_or_pos i with rfl | hpos
        · have hp := hide (litAt_first hx hlit)
          have hc0 : wr.cell? ad = some (.int .i64 x) := by have := hc; rwa [show ad.add 0 = ad from by simp [Addr.add]] at this
          clear hc
          go_wp2
          go_quiet (first | (go_at_call 36; first | (refine quiet_left (l2Lit_c _ _ _)) | (refine quiet_left2 (l2Lit_c _ _ _))) | (go_at_call 37; first | (refine quiet_left (l2Var_c _ _)) | (refine quiet_left2 (l2Var_c _ _))))
          go_wp2
          exact ⟨⟨(by first | trivial | rfl), (by first | trivial | rfl), he.drewN _, 1, by omega, by go_num, rangeAll_succ hq hp.out⟩, (by simp [intOf] <;> omega)⟩
        · obtain ⟨ad', y, hA, hy, hcy⟩ := (h.ext he).at_ (k := i - 1) (by omega)
          obtain rfl : ad' = ad := by injection hA with hA; exact hA.symm
          clear hA
          have hp := hide (litAt_next hpos hx hy hlit)
          have hI : (i : Int) - 1 < (n : Int) := by omega
          have hI0 : 0 ≤ (i : Int) - 1 := by omega
          have hI1 : ((i : Int) - 1).toNat = i - 1 := by omega
          by_cases hlt2 : absW y < absW x
          · have hp2 : Hid (litAt v c i = true) := hide (by rw [hp.out]; simpa using hlt2)
            go_wp2
            go_quiet (first | (go_at_call 36; first | (refine quiet_left (l2Lit_c _ _ _)) | (refine quiet_left2 (l2Lit_c _ _ _))) | (go_at_call 37; first | (refine quiet_left (l2Var_c _ _)) | (refine quiet_left2 (l2Var_c _ _))))
            go_wp2
            exact ⟨⟨(by first | trivial | rfl), (by first | trivial | rfl), he.drewN _, i + 1, by omega, by go_num, rangeAll_succ hq hp2.out⟩, (by simp [intOf] <;> omega)⟩
          · have hp2 : Hid (litAt v c i = false) := hide (by rw [hp.out]; simpa using hlt2)
            have HP := hide (rangeAll_false (n := c.length) (by rw [← HL.out]; exact hlt) hp2.out)
            go_wp2
            go_quiet (first | (go_at_call 36; first | (refine quiet_left (l2Lit_c _ _ _)) | (refine quiet_left2 (l2Lit_c _ _ _))) | (go_at_call 37; first | (refine quiet_left (l2Var_c _ _)) | (refine quiet_left2 (l2Var_c _ _))))
            go_wp2
            go_ret
            exact ⟨ret_bool (by simp [clauseOk, HP.out]), he.drewN _⟩
    · obtain rfl : i = n := by omega
      go_wp2
      go_ret
      exact ⟨ret_bool (by rw [HL.out] at hq; simp [clauseOk, HV.out, hq.out]), he⟩
set_option maxHeartbeats 800000 in
theorem IsClause_c (v : Int) (A : Option Addr) (n d : Nat) (c : List Int) (w : World) (h : Ints w A n c) :
    Calls Tryd.prog 31 #[.int .i64 v, .slice A n d] w fun e w' => e = .returned (.bool (clauseOk v c)) ∧ Ext w w' := by
  have hb := h.bound
  go_enter Tryd.func31, Tryd.ntmps31
  go_wp2
  refine wp_loop (fun acT wr => ∃ s0 s1 s2 s3 s4 s5 s6 s7 s8 s9 s10 s11 s12 s13 s14 s15 s16 s17 s18 s19 s20 s21 s22 s23 s24 s25 s26 s27 s28 s29 s30 s31 s32 s33 s34 s35 : Value, (s0 = .int .i64 v ∧ s1 = .slice A n d ∧ s7 = .slice A n d ∧ s8 = .int .i64 n ∧ (Ext w wr ∧ ∃ i : Nat, i ≤ n ∧ s9 = .int .i64 (i : Int) ∧ Hid ((List.range i).all (litAt v c) = true))) ∧ acT = ⟨#[s0, s1, s2, s3, s4, s5, s6, s7, s8, s9, s10, s11, s12, s13, s14, s15, s16, s17, s18, s19, s20, s21, s22, s23, s24, s25, s26, s27, s28, s29, s30, s31, s32, s33, s34, s35], []⟩) (fun acT wr => (fun (s9 : Value) (wr : World) => n - (intOf s9).toNat) (acT.tmps.getD 9 undef) wr) ?_ ?_
  · (refine ⟨_, _, _, _, _, _, _, _, _, _, _, _, _, _, _, _, _, _, _, _, _, _, _, _, _, _, _, _, _, _, _, _, _, _, _, _, ⟨rfl, rfl, rfl, rfl, ?_⟩, rfl⟩; exact ⟨Ext.refl _, 0, Nat.zero_le _, rfl, by simp [Hid]⟩)
  intro _ wr hinv; obtain ⟨s0, s1, s2, s3, s4, s5, s6, s7, s8, s9, s10, s11, s12, s13, s14, s15, s16, s17, s18, s19, s20, s21, s22, s23, s24, s25, s26, s27, s28, s29, s30, s31, s32, s33, s34, s35, ⟨rfl, rfl, rfl, rfl, hrel⟩, rfl⟩ := hinv; (try dsimp only)
  obtain ⟨he, i, hi, rfl, hq⟩ := hrel
  have hl := h.len
  have HL := hide hl
  clear hl
  by_cases hlt : i < n
  · obtain ⟨ad, x, rfl, hx, hc⟩ := (h.ext he).at_ hlt
    cases hlit : isLit v x
    · have hp := litAt_no hx hlit
      have HP := hide (rangeAll_false (n := c.length) (by rw [← HL.out]; exact hlt) hp)
      clear hp
      go_wp2
      go_quiet (first | (go_at_call 39; first | (refine quiet_left (isLiteral_c _ _ _)) | (refine quiet_left2 (isLiteral_c _ _ _))) | (go_at_call 40; first | (refine quiet_left (abs_c _ _)) | (refine quiet_left2 (abs_c _ _))))
      go_wp2
      go_ret
      exact ⟨ret_bool (by simp [clauseOk, HP.out]), he.drewN _⟩
    · rcases Nat.eq_zero_or_pos i with rfl | hpos
      · have hp := hide (litAt_first hx hlit)
        have hc0 : wr.cell? ad = some (.int .i64 x) := by have := hc; rwa [show ad.add 0 = ad from by simp [Addr.add]] at this
        clear hc
        go_wp2
        go_quiet (first | (go_at_call 39; first | (refine quiet_left (isLiteral_c _ _ _)) | (refine quiet_left2 (isLiteral_c _ _ _))) | (go_at_call 40; first | (refine quiet_left (abs_c _ _)) | (refine quiet_left2 (abs_c _ _))))
        go_wp2
        exact ⟨⟨(by first | trivial | rfl), (by first | trivial | rfl), (by first | trivial | rfl), (by first | trivial | rfl), he.drewN _, 1, by omega, by go_num, rangeAll_succ hq hp.out⟩, (by simp [intOf] <;> omega)⟩
      · obtain ⟨ad', y, hA, hy, hcy⟩ := (h.ext he).at_ (k := i - 1) (by omega)
        obtain rfl : ad' = ad := by injection hA with hA; exact hA.symm
        clear hA
        have hp := hide (litAt_next hpos hx hy hlit)
        have hI : (i : Int) - 1 < (n : Int) := by omega
        have hI0 : 0 ≤ (i : Int) - 1 := by omega
        have hI1 : ((i : Int) - 1).toNat = i - 1 := by omega
        by_cases hlt2 : absW y < absW x
        · have hp2 : Hid (litAt v c i = true) := hide (by rw [hp.out]; simpa using hlt2)
          go_wp2
          go_quiet (first | (go_at_call 39; first | (refine quiet_left (isLiteral_c _ _ _)) | (refine quiet_left2 (isLiteral_c _ _ _))) | (go_at_call 40; first | (refine quiet_left (abs_c _ _)) | (refine quiet_left2 (abs_c _ _))))
          go_wp2
          exact ⟨⟨(by first | trivial | rfl), (by first | trivial | rfl), (by first | trivial | rfl), (by first | trivial | rfl), he.drewN _, i + 1, by omega, by go_num, rangeAll_succ hq hp2.out⟩, (by simp [intOf] <;> omega)⟩
        · have hp2 : Hid (litAt v c i = false) := hide (by rw [hp.out]; simpa using hlt2)
          have HP := hide (rangeAll_false (n := c.length) (by rw [← HL.out]; exact hlt) hp2.out)
          have hlt3 : absW x ≤ absW y := by omega
          go_wp2
          go_quiet (first | (go_at_call 39; first | (refine quiet_left (isLiteral_c _ _ _)) | (refine quiet_left2 (isLiteral_c _ _ _))) | (go_at_call 40; first | (refine quiet_left (abs_c _ _)) | (refine quiet_left2 (abs_c _ _))))
          go_wp2
          go_ret
          exact ⟨ret_bool (by simp [clauseOk, HP.out]), he.drewN _⟩
  · obtain rfl : i = n := by omega
    go_wp2_with (go_at_call 32; refine (varsOk_c _ _).mono ?_; rintro e w' ⟨rfl, rfl⟩)
    go_ret
    exact ⟨ret_bool (by rw [HL.out] at hq; simp [clauseOk, hq.out]), he⟩
end Go.Proofs.YtjlnlicojcfpiaaDoor
