/-
  Codes of assignments: what the reference's and the program's functions compute.
-/
import Derived.Test.YtaigjmbhgpcalaaC2

namespace Go.Proofs.Ytaigjmbhgpcalaa
set_option linter.unusedSimpArgs false
set_option linter.unusedVariables false
open Go.RowKit


/-- The code of a list of literals. -/
def digit (l : Int) : Nat := (if 0 < l then 2 else 1) * pow3 (l.natAbs - 1)
def codeOf (c : List Int) : Nat := (c.map digit).sum
theorem codeOf_succ {c : List Int} {i : Nat} {x : Int} (hx : Hid (c[i]? = some x)) : codeOf (c.take (i + 1)) = codeOf (c.take i) + digit x := by
  rw [take_succ_of hx]; simp [codeOf]
theorem codeOf_all {c : List Int} {i : Nat} (h : c.length ≤ i) : codeOf (c.take i) = codeOf c := by rw [List.take_of_length_le h]
theorem digit_pos (m : Nat) : digit ((m + 1 : Nat) : Int) = 2 * pow3 m := by
  unfold digit; rw [if_pos (by omega), show (((m + 1 : Nat) : Int)).natAbs - 1 = m by omega]
theorem digit_neg (m : Nat) : digit (-((m + 1 : Nat) : Int)) = pow3 m := by
  unfold digit; rw [if_neg (by omega), show (-((m + 1 : Nat) : Int)).natAbs - 1 = m by omega]; omega
theorem digit_le {l : Int} (h : -6 ≤ l ∧ l ≤ 6 ∧ l ≠ 0) : digit l ≤ 486 := by
  have h1 : l.natAbs - 1 ≤ 5 := by omega
  have h2 := pow3_mono h1
  have h3 : pow3 5 = 243 := rfl
  unfold digit
  split <;> omega
theorem codeOf_le {c : List Int} (h : ∀ x ∈ c, -6 ≤ x ∧ x ≤ 6 ∧ x ≠ 0) (k : Nat) : codeOf (c.take k) ≤ 486 * k := by
  induction k with
  | zero => simp [codeOf]
  | succ k ih =>
    by_cases hk : k < c.length
    · have hx : Hid (c[k]? = some c[k]) := hide (List.getElem?_eq_getElem hk)
      rw [codeOf_succ hx]
      have := digit_le (h _ (List.getElem_mem hk))
      omega
    · rw [codeOf_all (by omega)]
      rw [codeOf_all (by omega)] at ih
      omega
theorem codeOf_c (A : Option Addr) (n d : Nat) (c : List Int) (w : World) (h : Ints w A n c) (hn : n ≤ 6) (hc6 : ∀ x ∈ c, -6 ≤ x ∧ x ≤ 6 ∧ x ≠ 0) :
    Calls Try.prog 37 #[.slice A n d] w fun e w' => e = .returned (.int .i64 (codeOf c : Int)) ∧ Ext w w' := by
  have HC := hide hc6
  clear hc6
  go_enter Try.func37, Try.ntmps37
  go_wp2
  refine wp_loop (fun acT wr => ∃ s0 s1 s2 s3 s4 s5 s6 s7 s8 s9 s10 s11 s12 s13 s14 s15 s16 s17 s18 s19 s20 s21 s22 s23 s24 s25 s26 s27 : Value, (s6 = .slice A n d ∧ s7 = .int .i64 n ∧ (Ext w wr ∧ ∃ i : Nat, i ≤ n ∧ s8 = .int .i64 (i : Int) ∧ ∃ b : Nat, s3 = .int .i64 (b : Int) ∧ Hid (b = codeOf (c.take i)))) ∧ acT = ⟨#[s0, s1, s2, s3, s4, s5, s6, s7, s8, s9, s10, s11, s12, s13, s14, s15, s16, s17, s18, s19, s20, s21, s22, s23, s24, s25, s26, s27], []⟩) (fun acT wr => (fun (s8 : Value) (wr : World) => n - (intOf s8).toNat) (acT.tmps.getD 8 undef) wr) ?_ ?_
  · (refine ⟨_, _, _, _, _, _, _, _, _, _, _, _, _, _, _, _, _, _, _, _, _, _, _, _, _, _, _, _, ⟨rfl, rfl, ?_⟩, rfl⟩; exact ⟨Ext.refl _, 0, Nat.zero_le _, rfl, 0, rfl, by simp [Hid, codeOf]⟩)
  intro _ wr hinv; obtain ⟨s0, s1, s2, s3, s4, s5, s6, s7, s8, s9, s10, s11, s12, s13, s14, s15, s16, s17, s18, s19, s20, s21, s22, s23, s24, s25, s26, s27, ⟨rfl, rfl, hrel⟩, rfl⟩ := hinv; (try dsimp only)
  obtain ⟨he, i, hi, rfl, b, rfl, hq⟩ := hrel
  have hb : b ≤ 3000 := by have := codeOf_le HC.out i; have := hq.out; omega
  by_cases hlt : i < n
  · obtain ⟨ad, x, rfl, hx, hc⟩ := (h.ext he).at_ hlt
    have hx6 := HC.out x (List.mem_of_getElem? hx.out)
    have hsucc := hide (codeOf_succ hx)
    by_cases hpos : 0 < x
    · obtain ⟨m, rfl⟩ : ∃ m : Nat, x = ((m + 1 : Nat) : Int) := ⟨x.toNat - 1, by omega⟩
      have hd : Hid (digit ((m + 1 : Nat) : Int) = 2 * pow3 m) := hide (digit_pos m)
      have hp3 : pow3 m ≤ 729 := by have := pow3_mono (show m ≤ 6 by omega); have h6 : pow3 6 = 729 := rfl; omega
      have habs : absW ((m : Int) + 1) = (m : Int) + 1 := by unfold absW; rw [if_neg (by omega)]
      have hm5 : m ≤ 5 := by omega
      clear hx6
      go_wp2_with (first | (go_at_call 60; refine (power3_c _ _ ?_).mono ?_; omega; rintro e w' ⟨rfl, rfl⟩))
      refine ⟨⟨(by first | trivial | rfl), (by first | trivial | rfl), he, i + 1, by omega, by go_num, b + 2 * pow3 m, by go_num, ?_⟩, (by simp [intOf] <;> omega)⟩
      unfold Hid
      rw [hsucc.out, hd.out, hq.out]
    · obtain ⟨m, rfl⟩ : ∃ m : Nat, x = -((m + 1 : Nat) : Int) := ⟨x.natAbs - 1, by omega⟩
      have hd : Hid (digit (-((m + 1 : Nat) : Int)) = pow3 m) := hide (digit_neg m)
      have hp3 : pow3 m ≤ 729 := by have := pow3_mono (show m ≤ 6 by omega); have h6 : pow3 6 = 729 := rfl; omega
      have habs : absW (-((m : Int) + 1)) = (m : Int) + 1 := by unfold absW; rw [if_pos (by omega)]; unfold wrap64; omega
      have hm5 : m ≤ 5 := by omega
      clear hx6
      go_wp2_with (first | (go_at_call 60; refine (power3_c _ _ ?_).mono ?_; omega; rintro e w' ⟨rfl, rfl⟩))
      refine ⟨⟨(by first | trivial | rfl), (by first | trivial | rfl), he, i + 1, by omega, by go_num, b + pow3 m, by go_num, ?_⟩, (by simp [intOf] <;> omega)⟩
      unfold Hid
      rw [hsucc.out, hd.out, hq.out]
  · obtain rfl : i = n := by omega
    have hl := h.len
    have hbe : b = codeOf c := by rw [hq.out, codeOf_all (by omega)]
    subst hbe
    go_wp2
    go_ret
    exact ⟨rfl, he⟩
end Go.Proofs.Ytaigjmbhgpcalaa
