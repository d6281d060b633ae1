/-
  An assignment is the assignment of its code.
-/
import Derived.Test.YtaigjmbhgpcalaaC8

namespace Go.Proofs.Ytaigjmbhgpcalaa
set_option linter.unusedSimpArgs false
set_option linter.unusedVariables false
open Go.RowKit

def risesL : Nat → List Int → Prop
  | _, [] => True
  | lo, x :: r => lo < x.natAbs ∧ risesL x.natAbs r
def codeR (lo : Nat) (c : List Int) : Nat := (c.map fun l => (if 0 < l then 2 else 1) * pow3 (l.natAbs - 1 - lo)).sum
theorem risesL_all : ∀ (c : List Int) (lo : Nat), risesL lo c → ∀ x ∈ c, lo < x.natAbs
  | y :: r, lo, h, x, hx => by
    simp only [List.mem_cons] at hx
    rcases hx with rfl | hx
    · exact h.1
    · have := risesL_all r _ h.2 x hx; have := h.1; omega
theorem risesL_weak {c : List Int} {lo lo' : Nat} (h : risesL lo c) (hw : ∀ x ∈ c, lo' < x.natAbs) : risesL lo' c := by
  cases c with
  | nil => trivial
  | cons x r => exact ⟨hw x (by simp), h.2⟩
theorem codeR_up : ∀ (c : List Int) (lo : Nat), (∀ x ∈ c, lo + 1 < x.natAbs) → codeR lo c = 3 * codeR (lo + 1) c
  | [], _, _ => rfl
  | x :: r, lo, h => by
    have ih := codeR_up r lo (fun y hy => h y (by simp [hy]))
    have hx := h x (by simp)
    simp only [codeR, List.map_cons, List.sum_cons] at ih ⊢
    rw [ih, show x.natAbs - 1 - lo = (x.natAbs - 1 - (lo + 1)) + 1 by omega, pow3]
    generalize pow3 (x.natAbs - 1 - (lo + 1)) = p
    split <;> omega
theorem codeLits_codeR (n : Nat) : ∀ (lo : Nat) (c : List Int), risesL lo c → (∀ x ∈ c, x.natAbs ≤ lo + n) → codeLits n (lo + 1) (codeR lo c) = c ∧ codeR lo c < pow3 n := by
  induction n with
  | zero =>
    intro lo c h1 h2
    cases c with
    | nil => exact ⟨rfl, by simp [codeR, pow3]⟩
    | cons x r => exact absurd (h2 x (by simp)) (by have := h1.1; omega)
  | succ n ih =>
    intro lo c h1 h2
    by_cases hall : ∀ x ∈ c, lo + 1 < x.natAbs
    · obtain ⟨i1, i2⟩ := ih (lo + 1) c (risesL_weak h1 hall) (fun x hx => by have := h2 x hx; omega)
      rw [codeR_up c lo hall]
      refine ⟨?_, by simp only [pow3]; omega⟩
      rw [codeLits, if_neg (by omega), if_neg (by omega), show 3 * codeR (lo + 1) c / 3 = codeR (lo + 1) c by omega, i1]; rfl
    · cases c with
      | nil => exact absurd (fun x hx => by simp at hx) hall
      | cons x r =>
        have hx1 := h1.1
        have hr := risesL_all r _ h1.2
        have hxe : x.natAbs = lo + 1 := by
          refine Decidable.byContradiction fun hne => hall fun y hy => ?_
          simp only [List.mem_cons] at hy
          rcases hy with rfl | hy
          · omega
          · have := hr y hy; omega
        obtain ⟨i1, i2⟩ := ih (lo + 1) r (risesL_weak h1.2 (fun y hy => by have := hr y hy; omega)) (fun y hy => by have := h2 y (by simp [hy]); omega)
        have hup := codeR_up r lo (fun y hy => by have := hr y hy; omega)
        have hc : codeR lo (x :: r) = (if 0 < x then 2 else 1) + 3 * codeR (lo + 1) r := by
          have : codeR lo (x :: r) = (if 0 < x then 2 else 1) * pow3 (x.natAbs - 1 - lo) + codeR lo r := by simp [codeR]
          rw [this, hup, show x.natAbs - 1 - lo = 0 by omega]; simp [pow3]
        rw [hc]
        by_cases hp : 0 < x
        · rw [if_pos hp]
          refine ⟨?_, by simp only [pow3]; omega⟩
          rw [codeLits, if_neg (by omega), if_pos (by omega), show (2 + 3 * codeR (lo + 1) r) / 3 = codeR (lo + 1) r by omega, i1]
          have : ((lo + 1 : Nat) : Int) = x := by omega
          rw [this]; rfl
        · rw [if_neg hp]
          refine ⟨?_, by simp only [pow3]; omega⟩
          rw [codeLits, if_pos (by omega), show (1 + 3 * codeR (lo + 1) r) / 3 = codeR (lo + 1) r by omega, i1]
          have : -((lo + 1 : Nat) : Int) = x := by omega
          rw [this]; rfl
theorem codeR_zero (c : List Int) : codeR 0 c = codeOf c := by simp [codeR, codeOf, digit]; rfl
theorem rises_of {v : Int} {c : List Int} (h : clauseOk v c = true) : ∀ m k, k + m = c.length → ∀ lo, (∀ x, c[k]? = some x → lo < x.natAbs) → risesL lo (c.drop k) := by
  obtain ⟨hv, hr, _⟩ := clause_facts h
  have hl : (List.range c.length).all (litAt v c) = true := (and2_true h).2
  intro m
  induction m with
  | zero => intro k hk lo _; rw [List.drop_eq_nil_of_le (by omega)]; trivial
  | succ m ih =>
    intro k hk lo hlo
    rw [List.drop_eq_getElem_cons (show k < c.length by omega)]
    refine ⟨hlo _ (List.getElem?_eq_getElem (by omega)), ih (k + 1) (by omega) _ ?_⟩
    intro y hy
    have hlt := (List.getElem?_eq_some_iff.1 hy).1
    have h1 := List.all_eq_true.1 hl (k + 1) (by simpa using hlt)
    have hx := List.getElem?_eq_getElem (show k < c.length by omega)
    have hxm := hr _ (List.mem_of_getElem? hx)
    have hym := hr _ (List.mem_of_getElem? hy)
    have hly : isLit v y = true := by
      have := (and2_true h1).1; rwa [getD_of (hide hy)] at this
    rw [litAt_next (by omega) (hide hy) (hide (show c[k + 1 - 1]? = some c[k] from hx)) hly] at h1
    simp only [decide_eq_true_eq] at h1
    unfold absW wrap64 at h1
    split at h1 <;> split at h1 <;> omega
theorem asg_code {v : Nat} {a : List Int} (h : clauseOk v a = true) : codeLits v 1 (codeOf a) = a ∧ codeOf a < pow3 v := by
  obtain ⟨hv, hr, _⟩ := clause_facts h
  have h1 := rises_of h a.length 0 (by omega) 0 (fun x hx => by have := hr x (List.mem_of_getElem? hx); omega)
  have := codeLits_codeR v 0 a (by simpa using h1) (fun x hx => by have := hr x hx; omega)
  rw [codeR_zero] at this
  exact this
end Go.Proofs.Ytaigjmbhgpcalaa
