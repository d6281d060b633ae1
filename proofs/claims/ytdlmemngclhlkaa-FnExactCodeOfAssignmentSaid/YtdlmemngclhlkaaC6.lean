/-
  The code of an assignment and the assignment of a code: the exported functions of the reference and of the program.
-/
import Derived.Test.YtdlmemngclhlkaaC4
import Derived.Test.YtdlmemngclhlkaaC5
namespace Go.Proofs.Ytdlmemngclhlkaa
open Go.RowKit

theorem clause_facts {v : Int} {c : List Int} (h : clauseOk v c = true) : (0 ≤ v ∧ v ≤ 12) ∧ (∀ x ∈ c, -v ≤ x ∧ x ≤ v ∧ x ≠ 0) ∧ (c.length : Int) ≤ v := by
  obtain ⟨h1, h2⟩ := and2_true h
  have hv := within_true h1
  rw [List.all_eq_true] at h2
  have hat : ∀ i, (hi : i < c.length) → (-v ≤ c[i] ∧ c[i] ≤ v ∧ c[i] ≠ 0) := by
    intro i hi
    have h3 := h2 i (by simpa using hi)
    unfold litAt at h3
    obtain ⟨h4, _⟩ := and2_true h3
    rw [getD_of (hide (List.getElem?_eq_getElem hi))] at h4
    exact isLit_true h1 h4
  have habs : ∀ i, (hi : i < c.length) → (i : Int) + 1 ≤ absW c[i] := by
    intro i
    induction i with
    | zero =>
      intro hi
      have := hat 0 hi
      unfold absW wrap64
      split <;> omega
    | succ i ih =>
      intro hi
      have h3 := h2 (i + 1) (by simpa using hi)
      unfold litAt at h3
      obtain ⟨_, h5⟩ := and2_true h3
      rw [getD_of (hide (List.getElem?_eq_getElem hi)), show i + 1 - 1 = i by omega, getD_of (hide (List.getElem?_eq_getElem (show i < c.length by omega)))] at h5
      simp at h5
      have := ih (by omega)
      omega
  refine ⟨hv, ?_, ?_⟩
  · intro x hx
    obtain ⟨i, hi, rfl⟩ := List.getElem_of_mem hx
    exact hat i hi
  · rcases Nat.eq_zero_or_pos c.length with h0 | h0
    · omega
    · have h6 := habs (c.length - 1) (by omega)
      have h7 := hat (c.length - 1) (by omega)
      have : absW c[c.length - 1] ≤ v := by unfold absW wrap64; split <;> omega
      omega

def codeAsgOk (v : Int) (c : List Int) : Bool := within v 0 6 && clauseOk v c
def codeAsg (v : Int) (c : List Int) : Int := if codeAsgOk v c then (codeOf c : Int) else 0
def asgCodeOk (v c : Int) : Bool := within v 0 6 && within c 0 ((pow3 v.toNat : Int) - 1)
def asgOf (v c : Int) : List Int := if asgCodeOk v c then codeLits v.toNat 1 c.toNat else []
theorem spec_CodeOfAssignment_c (v : Int) (A : Option Addr) (n d : Nat) (c : List Int) (w : World) (h : Ints w A n c) :
    Calls Try.prog 44 #[.int .i64 v, .slice A n d] w fun e w' => e = .returned (.tuple #[.int .i64 (codeAsg v c), .bool (codeAsgOk v c)]) ∧ Ext w w' := by
  unfold codeAsg
  cases hp : codeAsgOk v c
  · simp only [Bool.false_eq_true, if_false]
    rcases and2_false hp with h1 | ⟨h1, h2⟩ <;> clear hp
    all_goals
      go_enter Try.func44, Try.ntmps44
      go_wp2_with (first | (go_at_call 58; refine (l12Size_c _ _).mono ?_; rintro e w' ⟨rfl, rfl⟩) | (go_at_call 80; refine (l3Good_c _ _ _ _ c _ h).mono ?_; rintro e w1 ⟨rfl, he⟩))
      go_ret2; exact ⟨rfl, by (repeat (first | exact Ext.refl _ | with_reducible assumption | refine Ext.setCell ?_ (by first | omega | (simp <;> omega)) _ | refine Ext.drewN ?_ _ | refine Ext.drew ?_ | refine Ext.alloc ?_ _ | refine Ext.trans ?_ (by with_reducible assumption)))⟩
  · obtain ⟨h1, h2⟩ := and2_true hp
    have h1' := within_true h1
    obtain ⟨_, hc6, hlen⟩ := clause_facts h2
    have hl := h.len
    have hn6 : n ≤ 6 := by omega
    have HC := hide hc6
    clear hl hlen hp hc6
    simp only [if_true]
    go_enter Try.func44, Try.ntmps44
    go_wp2_with (first | (go_at_call 58; refine (l12Size_c _ _).mono ?_; rintro e w' ⟨rfl, rfl⟩) | (go_at_call 80; refine (l3Good_c _ _ _ _ c _ h).mono ?_; rintro e w1 ⟨rfl, he⟩) | (go_at_call 81; refine (l12Code_c _ _ _ c _ (h.ext he) hn6 ?_).mono ?_; (intro x hx; have := HC.out x hx; omega); rintro e w2 ⟨rfl, he2⟩))
    go_ret2; exact ⟨rfl, by (repeat (first | exact Ext.refl _ | with_reducible assumption | refine Ext.setCell ?_ (by first | omega | (simp <;> omega)) _ | refine Ext.drewN ?_ _ | refine Ext.drew ?_ | refine Ext.alloc ?_ _ | refine Ext.trans ?_ (by with_reducible assumption)))⟩
theorem impl_CodeOfAssignment_c (v : Int) (A : Option Addr) (n d : Nat) (c : List Int) (w : World) (h : Ints w A n c) :
    Calls Try.prog 46 #[.int .i64 v, .slice A n d] w fun e w' => e = .returned (.tuple #[.int .i64 (codeAsg v c), .bool (codeAsgOk v c)]) ∧ Ext w w' := by
  unfold codeAsg
  cases hp : codeAsgOk v c
  · simp only [Bool.false_eq_true, if_false]
    rcases and2_false hp with h1 | ⟨h1, h2⟩ <;> clear hp
    all_goals
      go_enter Try.func46, Try.ntmps46
      go_wp2_with (first | (go_at_call 57; refine (within_c _ _ _ _).mono ?_; rintro e w' ⟨rfl, rfl⟩) | (go_at_call 82; refine (IsAssignment_c _ _ _ _ c _ h).mono ?_; rintro e w1 ⟨rfl, he⟩))
      go_ret2; exact ⟨rfl, by (repeat (first | exact Ext.refl _ | with_reducible assumption | refine Ext.setCell ?_ (by first | omega | (simp <;> omega)) _ | refine Ext.drewN ?_ _ | refine Ext.drew ?_ | refine Ext.alloc ?_ _ | refine Ext.trans ?_ (by with_reducible assumption)))⟩
  · obtain ⟨h1, h2⟩ := and2_true hp
    have h1' := within_true h1
    obtain ⟨_, hc6, hlen⟩ := clause_facts h2
    have hl := h.len
    have hn6 : n ≤ 6 := by omega
    have HC := hide hc6
    clear hl hlen hp hc6
    simp only [if_true]
    go_enter Try.func46, Try.ntmps46
    go_wp2_with (first | (go_at_call 57; refine (within_c _ _ _ _).mono ?_; rintro e w' ⟨rfl, rfl⟩) | (go_at_call 82; refine (IsAssignment_c _ _ _ _ c _ h).mono ?_; rintro e w1 ⟨rfl, he⟩) | (go_at_call 83; refine (codeOf_c _ _ _ c _ (h.ext he) hn6 ?_).mono ?_; (intro x hx; have := HC.out x hx; omega); rintro e w2 ⟨rfl, he2⟩))
    go_ret2; exact ⟨rfl, by (repeat (first | exact Ext.refl _ | with_reducible assumption | refine Ext.setCell ?_ (by first | omega | (simp <;> omega)) _ | refine Ext.drewN ?_ _ | refine Ext.drew ?_ | refine Ext.alloc ?_ _ | refine Ext.trans ?_ (by with_reducible assumption)))⟩
theorem spec_AssignmentOfCode_c (v c : Int) (w : World) :
    Calls Try.prog 28 #[.int .i64 v, .int .i64 c] w fun e w' =>
      ∃ A n d, e = .returned (.tuple #[.slice A n d, .bool (asgCodeOk v c)]) ∧ Own w' w.heap.size 3 1 A n d ((asgOf v c).map (Value.int .i64)) ∧ n ≤ 6 ∧ Ext w w' := by
  cases hp : asgCodeOk v c
  · have hF : asgOf v c = [] := by simp [asgOf, hp]
    rw [hF]
    have HF := hide hF
    clear hF
    have hnil : Own (w.alloc (.cells #[] 3)) w.heap.size 3 1 (some ⟨w.heap.size, 0, none⟩) 0 0 (([] : List Int).map (Value.int .i64)) := Own.lit [] 0 (Nat.le_refl _) (by simp [maxLen]) rfl
    rcases and2_false hp with h1 | ⟨h1, h2⟩ <;> clear hp
    · go_enter Try.func28, Try.ntmps28
      go_wp2_with (first | (go_at_call 58; refine (l12Size_c _ _).mono ?_; rintro e w' ⟨rfl, rfl⟩) | (go_at_call 66; refine (l12Pow_c _ _ ?_).mono ?_; omega; rintro e w' ⟨rfl, rfl⟩) | (go_at_call 54; refine (l1In_c _ _ _ _).mono ?_; rintro e w' ⟨rfl, rfl⟩))
      go_ret2; exact ⟨_, _, _, rfl, hnil, by omega, by (repeat (first | exact Ext.refl _ | with_reducible assumption | refine Ext.setCell ?_ (by first | omega | (simp <;> omega)) _ | refine Ext.drewN ?_ _ | refine Ext.drew ?_ | refine Ext.alloc ?_ _ | refine Ext.trans ?_ (by with_reducible assumption)))⟩
    · have h1' := within_true h1
      obtain ⟨k, rfl⟩ := int_nat h1'.1
      rw [Int.toNat_natCast] at h2
      have hb : pow3 k ≤ 729 := by have := pow3_mono (show k ≤ 6 by omega); have h6 : pow3 6 = 729 := rfl; omega
      go_enter Try.func28, Try.ntmps28
      go_wp2_with (first | (go_at_call 58; refine (l12Size_c _ _).mono ?_; rintro e w' ⟨rfl, rfl⟩) | (go_at_call 66; refine (l12Pow_c _ _ ?_).mono ?_; omega; rintro e w' ⟨rfl, rfl⟩) | (go_at_call 54; refine (l1In_c _ _ _ _).mono ?_; rintro e w' ⟨rfl, rfl⟩))
      go_ret2; exact ⟨_, _, _, rfl, hnil, by omega, by (repeat (first | exact Ext.refl _ | with_reducible assumption | refine Ext.setCell ?_ (by first | omega | (simp <;> omega)) _ | refine Ext.drewN ?_ _ | refine Ext.drew ?_ | refine Ext.alloc ?_ _ | refine Ext.trans ?_ (by with_reducible assumption)))⟩
  · have hF : asgOf v c = codeLits v.toNat 1 c.toNat := by simp [asgOf, hp]
    rw [hF]
    obtain ⟨h1, h2⟩ := and2_true hp
    clear hp hF
    have h1' := within_true h1
    have h2' := within_true h2
    obtain ⟨k, rfl⟩ := int_nat h1'.1
    obtain ⟨u, rfl⟩ := int_nat h2'.1
    rw [Int.toNat_natCast] at h2 h2'
    simp only [Int.toNat_natCast]
    have hb : pow3 k ≤ 729 := by have := pow3_mono (show k ≤ 6 by omega); have h6 : pow3 6 = 729 := rfl; omega
    go_enter Try.func28, Try.ntmps28
    go_wp2_with (first | (go_at_call 58; refine (l12Size_c _ _).mono ?_; rintro e w' ⟨rfl, rfl⟩) | (go_at_call 66; refine (l12Pow_c _ _ ?_).mono ?_; omega; rintro e w' ⟨rfl, rfl⟩) | (go_at_call 54; refine (l1In_c _ _ _ _).mono ?_; rintro e w' ⟨rfl, rfl⟩) | (go_at_call 67; refine (l12Of_c _ _ _ ?_ ?_).mono ?_; omega; omega; rintro e w1 ⟨A, n, d, rfl, ho, hn, he⟩))
    go_ret2; exact ⟨_, _, _, rfl, ho, hn, he⟩
theorem impl_AssignmentOfCode_c (v c : Int) (w : World) :
    Calls Try.prog 29 #[.int .i64 v, .int .i64 c] w fun e w' =>
      ∃ A n d, e = .returned (.tuple #[.slice A n d, .bool (asgCodeOk v c)]) ∧ Own w' w.heap.size 3 1 A n d ((asgOf v c).map (Value.int .i64)) ∧ n ≤ 6 ∧ Ext w w' := by
  cases hp : asgCodeOk v c
  · have hF : asgOf v c = [] := by simp [asgOf, hp]
    rw [hF]
    have HF := hide hF
    clear hF
    rcases and2_false hp with h1 | ⟨h1, h2⟩ <;> clear hp
    · go_enter Try.func29, Try.ntmps29
      go_wp2_with (first | (go_at_call 57; refine (within_c _ _ _ _).mono ?_; rintro e w' ⟨rfl, rfl⟩) | (go_at_call 68; refine (power3_c _ _ ?_).mono ?_; omega; rintro e w' ⟨rfl, rfl⟩))
      go_ret2; exact ⟨_, _, _, rfl, Own.nil _ _ _ _, by omega, by (repeat (first | exact Ext.refl _ | with_reducible assumption | refine Ext.setCell ?_ (by first | omega | (simp <;> omega)) _ | refine Ext.drewN ?_ _ | refine Ext.drew ?_ | refine Ext.alloc ?_ _ | refine Ext.trans ?_ (by with_reducible assumption)))⟩
    · have h1' := within_true h1
      obtain ⟨k, rfl⟩ := int_nat h1'.1
      rw [Int.toNat_natCast] at h2
      have hb : pow3 k ≤ 729 := by have := pow3_mono (show k ≤ 6 by omega); have h6 : pow3 6 = 729 := rfl; omega
      go_enter Try.func29, Try.ntmps29
      go_wp2_with (first | (go_at_call 57; refine (within_c _ _ _ _).mono ?_; rintro e w' ⟨rfl, rfl⟩) | (go_at_call 68; refine (power3_c _ _ ?_).mono ?_; omega; rintro e w' ⟨rfl, rfl⟩))
      go_ret2; exact ⟨_, _, _, rfl, Own.nil _ _ _ _, by omega, by (repeat (first | exact Ext.refl _ | with_reducible assumption | refine Ext.setCell ?_ (by first | omega | (simp <;> omega)) _ | refine Ext.drewN ?_ _ | refine Ext.drew ?_ | refine Ext.alloc ?_ _ | refine Ext.trans ?_ (by with_reducible assumption)))⟩
  · have hF : asgOf v c = codeLits v.toNat 1 c.toNat := by simp [asgOf, hp]
    rw [hF]
    obtain ⟨h1, h2⟩ := and2_true hp
    clear hp hF
    have h1' := within_true h1
    have h2' := within_true h2
    obtain ⟨k, rfl⟩ := int_nat h1'.1
    obtain ⟨u, rfl⟩ := int_nat h2'.1
    rw [Int.toNat_natCast] at h2 h2'
    simp only [Int.toNat_natCast]
    have hb : pow3 k ≤ 729 := by have := pow3_mono (show k ≤ 6 by omega); have h6 : pow3 6 = 729 := rfl; omega
    go_enter Try.func29, Try.ntmps29
    go_wp2_with (first | (go_at_call 57; refine (within_c _ _ _ _).mono ?_; rintro e w' ⟨rfl, rfl⟩) | (go_at_call 68; refine (power3_c _ _ ?_).mono ?_; omega; rintro e w' ⟨rfl, rfl⟩) | (go_at_call 69; refine (ofCode_c _ _ _ ?_ ?_).mono ?_; omega; omega; rintro e w1 ⟨A, n, d, rfl, ho, hn, he⟩))
    go_ret2; exact ⟨_, _, _, rfl, ho, hn, he⟩
end Go.Proofs.Ytdlmemngclhlkaa
