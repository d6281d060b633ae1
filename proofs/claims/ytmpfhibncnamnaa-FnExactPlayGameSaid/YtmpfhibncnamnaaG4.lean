/-
  A played game, in plain lists.
-/
import Derived.Test.YtmpfhibncnamnaaC53
namespace Go.Proofs.Ytmpfhibncnamnaa
set_option linter.unusedSimpArgs false
set_option linter.unusedVariables false
open Go.RowKit

theorem codeLits_rises (n : Nat) : ∀ (v c lo : Nat), lo < v → risesL lo (codeLits n v c) := by
  induction n with
  | zero => intro v c lo _; trivial
  | succ n ih =>
    intro v c lo hlo
    simp only [codeLits]
    split
    · exact ⟨by omega, ih (v + 1) (c / 3) _ (by omega)⟩
    · split
      · exact ⟨by omega, ih (v + 1) (c / 3) _ (by omega)⟩
      · exact ih (v + 1) (c / 3) lo (by omega)
theorem opens_some {n code : Nat} {cls : List (List Int)} (ht : takes n cls = true) (hf : falseAny cls (codeLits n 1 code) = false) : opens n code ≠ [] := by
  intro he
  obtain ⟨hc, hv, hs⟩ := takes_facts ht
  rw [show ((n : Int)).toNat = n by omega] at hs
  have hol := openList_code (n := n) (code := code)
  rw [he] at hol
  have := total_sat (n := n) (cls := cls) (codeLits_rises n 1 code 0 (by omega)) (fun c hcc x hx => (clause_facts ((cnf_facts hc).2.2 c hcc)).2.1 x hx) (by simpa using hol) hf
  rw [hs] at this; cases this
theorem gSt_score {T : Tab} {code : Nat} : ∀ vs : List Nat, vs ≠ [] → ∃ v ∈ vs, (gSt T code vs).2.1 = (gOne T code v).1 := by
  intro vs
  induction hn : vs.length generalizing vs with
  | zero => intro h; exact absurd (List.eq_nil_of_length_eq_zero hn) h
  | succ k ih =>
    intro _
    rcases List.eq_nil_or_concat vs with rfl | ⟨us, v, rfl⟩
    · simp at hn
    · rw [List.concat_eq_append] at hn ⊢
      rw [gSt_snoc]
      simp only [gLess]
      split
      · exact ⟨v, by simp, rfl⟩
      · rename_i hf
        have hus : us ≠ [] := by
          rintro rfl
          simp [gSt] at hf
        obtain ⟨u, hu, he⟩ := ih us (by simp at hn; exact hn) hus
        exact ⟨u, by simp [hu], he⟩
theorem fstV_mem {p : Nat → Bool} : ∀ (vs : List Nat), (∃ v ∈ vs, p v = true) → fstV p vs ∈ vs
  | v :: vs, ⟨u, hu, hp⟩ => by
    rw [fstV]
    split
    · simp
    · rename_i hv
      simp only [List.mem_cons] at hu
      rcases hu with rfl | hu
      · exact absurd hp hv
      · exact List.mem_cons_of_mem _ (fstV_mem vs ⟨u, hu, hp⟩)
/-- The Prover's variable is open where a game is not over. -/
theorem prover_open {n code : Nat} {cls : List (List Int)} (ht : takes n cls = true) (hc : code < pow3 n) (hf : falseAny cls (codeLits n 1 code) = false) : proverOf n (gAll n cls) code ∈ opens n code := by
  obtain ⟨v, hvm, hve⟩ := gSt_score (T := gAll n cls) (code := code) _ (opens_some ht hf)
  refine fstV_mem _ ⟨v, hvm, ?_⟩
  have hrow := gAll_row cls hc
  rw [gRow, hf] at hrow
  simp only [Bool.false_eq_true, if_false] at hrow
  have h2 : (gAll n cls).sc.getD code 0 = (gSt (gAll n cls) code (opens n code)).2.1 := by rw [← hrow]; rfl
  rw [goodS, h2, hve]
  simp [gOne]
def plVal (T : Tab) (code v : Nat) : Int := if answerOf T code v = 0 then (if T.sc.getD (gYes code v) 0 < T.sc.getD (gNo code v) 0 then 1 else -1) else answerOf T code v
def plNext (T : Tab) (code v : Nat) : Nat := if 0 < plVal T code v then gYes code v else gNo code v
/-- The moves from a code on, three numbers each, and the points. -/
def plGo (n : Nat) (cls : List (List Int)) (T : Tab) : Nat → Nat → List Int × Int
  | 0, _ => ([], 0)
  | f + 1, code =>
    if falseAny cls (codeLits n 1 code) then ([], 0)
    else
      let v := proverOf n T code
      let r := plGo n cls T f (plNext T code v)
      ((v : Int) :: answerOf T code v :: plVal T code v :: r.1, (if answerOf T code v = 0 then 1 else 0) + r.2)
def plAll (v : Int) (cls : List (List Int)) : List Int × Int := if takes v cls then plGo v.toNat cls (gAll v.toNat cls) (pow3 v.toNat) 0 else ([], 0)
theorem ans_range (no yes : Int) : ansOf no yes = 0 ∨ ansOf no yes = -1 ∨ ansOf no yes = 1 := by
  unfold ansOf
  split
  · simp
  · split <;> simp
theorem plVal_range (T : Tab) (code v : Nat) : plVal T code v = -1 ∨ plVal T code v = 1 := by
  unfold plVal answerOf
  rcases ans_range (T.sc.getD (gNo code v) 0) (T.sc.getD (gYes code v) 0) with h | h | h
  · rw [if_pos h]; split <;> simp
  · rw [if_neg (by omega), h]; simp
  · rw [if_neg (by omega), h]; simp
theorem plGo_over {n f code : Nat} {cls : List (List Int)} {T : Tab} (h : falseAny cls (codeLits n 1 code) = true) : plGo n cls T f code = ([], 0) := by
  cases f <;> simp [plGo, h]
theorem plGo_step {n f code : Nat} {cls : List (List Int)} {T : Tab} (h : falseAny cls (codeLits n 1 code) = false) : plGo n cls T (f + 1) code =
    ((proverOf n T code : Int) :: answerOf T code (proverOf n T code) :: plVal T code (proverOf n T code) :: (plGo n cls T f (plNext T code (proverOf n T code))).1, (if answerOf T code (proverOf n T code) = 0 then 1 else 0) + (plGo n cls T f (plNext T code (proverOf n T code))).2) := by
  rw [plGo, h]; rfl
theorem plNext_grows {n code v : Nat} {T : Tab} (hc : code < pow3 n) (hv : 1 ≤ v ∧ v ≤ n) (ho : openAt code v = true) : code < plNext T code v ∧ plNext T code v < pow3 n := by
  have := open_codes hc hv ho
  unfold plNext
  split <;> omega
end Go.Proofs.Ytmpfhibncnamnaa
