/-
  The game on a cnf, in plain lists: values of clauses under an assignment, which variables a code leaves open, the tables.
-/
import Derived.Test.YtaigjmbhgpcalaaBase

namespace Go.Proofs.Ytaigjmbhgpcalaa
set_option linter.unusedSimpArgs false
set_option linter.unusedVariables false
open Go.RowKit

/-! ### Which variables a code leaves open -/
def openAt (code v : Nat) : Bool := code / pow3 (v - 1) % 3 == 0
def openL (a : List Int) (v : Int) : Bool := !a.any (· == v) && !a.any (· == -v)
theorem pow3_succ (n : Nat) : pow3 (n + 1) = 3 * pow3 n := rfl
/-- Variables below the first of a code's are not in it. -/
theorem codeLits_low (n : Nat) : ∀ (v c : Nat) (x : Int), x ∈ codeLits n v c → (v : Int) ≤ x.natAbs := by
  induction n with
  | zero => intro v c x hx; simp [codeLits] at hx
  | succ n ih =>
    intro v c x hx
    simp only [codeLits, List.mem_append] at hx
    rcases hx with hx | hx
    · split at hx
      · simp at hx; subst hx; omega
      · split at hx
        · simp at hx; subst hx; omega
        · simp at hx
    · have := ih (v + 1) (c / 3) x hx; omega
theorem div_pow3_succ (c d : Nat) : c / 3 / pow3 d = c / pow3 (d + 1) := by rw [pow3_succ, Nat.div_div_eq_div_mul]
theorem codeLits_open (n : Nat) : ∀ (v c d : Nat), 1 ≤ v → d < n → openL (codeLits n v c) ((v + d : Nat) : Int) = (c / pow3 d % 3 == 0) := by
  induction n with
  | zero => intro v c d _ hd; omega
  | succ n ih =>
    intro v c d hv hd
    have hsplit : ∀ (xs ys : List Int) (z : Int), openL (xs ++ ys) z = (openL xs z && openL ys z) := by
      intro xs ys z
      simp only [openL, List.any_append]
      cases xs.any (· == z) <;> cases ys.any (· == z) <;> cases xs.any (· == -z) <;> cases ys.any (· == -z) <;> rfl
    have hlow : openL (codeLits n (v + 1) (c / 3)) ((v : Nat) : Int) = true := by
      simp only [openL, Bool.and_eq_true, Bool.not_eq_true', List.any_eq_false]
      refine ⟨fun x hx => ?_, fun x hx => ?_⟩ <;> (have := codeLits_low n _ _ x hx; simp; omega)
    simp only [codeLits]
    rw [hsplit]
    rcases Nat.eq_zero_or_pos d with rfl | hd0
    · rw [Nat.add_zero, hlow, Bool.and_true]
      have hp : pow3 0 = 1 := rfl
      rw [hp, Nat.div_one]
      have h3 : c % 3 < 3 := Nat.mod_lt _ (by omega)
      by_cases h1 : c % 3 = 1
      · rw [if_pos h1]; simp [openL, h1]
      · rw [if_neg h1]
        by_cases h2 : c % 3 = 2
        · rw [if_pos h2]; simp [openL, h2]
        · rw [if_neg h2]; have : c % 3 = 0 := by omega
          simp [openL, this]
    · obtain ⟨d', rfl⟩ : ∃ d', d = d' + 1 := ⟨d - 1, by omega⟩
      have hih := ih (v + 1) (c / 3) d' (by omega) (by omega)
      rw [show v + 1 + d' = v + (d' + 1) by omega, div_pow3_succ] at hih
      rw [hih]
      have hone : ∀ (xs : List Int), (∀ x ∈ xs, x.natAbs = v) → openL xs ((v + (d' + 1) : Nat) : Int) = true := by
        intro xs hxs
        simp only [openL, Bool.and_eq_true, Bool.not_eq_true', List.any_eq_false]
        refine ⟨fun x hx => ?_, fun x hx => ?_⟩ <;> (have := hxs x hx; simp; omega)
      rw [hone, Bool.true_and]
      intro x hx
      split at hx
      · simp at hx; subst hx; omega
      · split at hx
        · simp at hx; subst hx; omega
        · simp at hx
theorem codeLits_openAt {n code v : Nat} (h1 : 1 ≤ v) (h2 : v ≤ n) : openL (codeLits n 1 code) (v : Int) = openAt code v := by
  have := codeLits_open n 1 code (v - 1) (Nat.le_refl _) (by omega)
  rwa [show 1 + (v - 1) = v by omega] at this

/-! ### Clauses under an assignment -/
def clGo (a : List Int) : List Int → Int → Int
  | [], t => t
  | l :: c, t => if a.any (· == l) then 1 else clGo a c (if a.any (· == -l) then t else 0)
def clVal (c a : List Int) : Int := clGo a c (-1)
def falseAny (cls : List (List Int)) (a : List Int) : Bool := cls.any fun c => decide (clVal c a < 0)

/-! ### The tables -/
def gNo (code v : Nat) : Nat := code + pow3 (v - 1)
def gYes (code v : Nat) : Nat := code + 2 * pow3 (v - 1)
def gPts (no yes : Int) : Int := max (max no yes) (wrap64 (1 + min no yes))
structure Tab where
  sc : List Int
  sz : List Int
  ht : List Int
def Tab.at_ (T : Tab) (i : Nat) : Int × Int × Int := (T.sc.getD i 0, T.sz.getD i 0, T.ht.getD i 0)
def Tab.put (T : Tab) (i : Nat) (c : Int × Int × Int) : Tab := ⟨T.sc.set i c.1, T.sz.set i c.2.1, T.ht.set i c.2.2⟩
/-- What an open variable gives. -/
def gOne (T : Tab) (code v : Nat) : Int × Int × Int :=
  (gPts (T.sc.getD (gNo code v) 0) (T.sc.getD (gYes code v) 0), wrap64 (T.sz.getD (gNo code v) 0 + T.sz.getD (gYes code v) 0), wrap64 (1 + max (T.ht.getD (gNo code v) 0) (T.ht.getD (gYes code v) 0)))
def gLess (first : Bool) (c d : Int × Int × Int) : Int × Int × Int :=
  (if first || decide (c.1 < d.1) then c.1 else d.1, if first || decide (c.2.1 < d.2.1) then c.2.1 else d.2.1, if first || decide (c.2.2 < d.2.2) then c.2.2 else d.2.2)
/-- What the open variables vs give one behind the other: has none come yet; the least so far. -/
def gSt (T : Tab) (code : Nat) (vs : List Nat) : Bool × (Int × Int × Int) := vs.foldl (fun s v => (false, gLess s.1 (gOne T code v) s.2)) (true, (0, 0, 0))
theorem gSt_snoc (T : Tab) (code : Nat) (vs : List Nat) (v : Nat) : gSt T code (vs ++ [v]) = (false, gLess (gSt T code vs).1 (gOne T code v) (gSt T code vs).2) := by simp [gSt]
theorem gSt_first (T : Tab) (code : Nat) (vs : List Nat) : (gSt T code vs).1 = decide (vs.length = 0) := by
  rcases List.eq_nil_or_concat vs with rfl | ⟨us, v, rfl⟩
  · rfl
  · rw [List.concat_eq_append, gSt_snoc]; simp
def varsTo (n : Nat) : List Nat := (List.range n).map (· + 1)
def opens (n code : Nat) : List Nat := (varsTo n).filter (openAt code)
def gRow (n : Nat) (cls : List (List Int)) (T : Tab) (code : Nat) : Int × Int × Int :=
  if falseAny cls (codeLits n 1 code) then (0, 1, 0) else (gSt T code (opens n code)).2
/-- The tables behind m codes from the top. -/
def gTab (n : Nat) (cls : List (List Int)) : Nat → Tab
  | 0 => ⟨List.replicate (pow3 n) 0, List.replicate (pow3 n) 0, List.replicate (pow3 n) 0⟩
  | m + 1 => (gTab n cls m).put (pow3 n - 1 - m) (gRow n cls (gTab n cls m) (pow3 n - 1 - m))
def gAll (n : Nat) (cls : List (List Int)) : Tab := gTab n cls (pow3 n)
theorem varsTo_succ (k : Nat) : varsTo (k + 1) = varsTo k ++ [k + 1] := by simp [varsTo, List.range_succ]
theorem varsTo_length (k : Nat) : (varsTo k).length = k := by simp [varsTo]
theorem mem_varsTo {n v : Nat} (h : v ∈ varsTo n) : 1 ≤ v ∧ v ≤ n := by
  simp only [varsTo, List.mem_map, List.mem_range] at h
  obtain ⟨u, hu, rfl⟩ := h
  omega
theorem opens_succ_yes {code k : Nat} (h : openAt code (k + 1) = true) : opens (k + 1) code = opens k code ++ [k + 1] := by simp [opens, varsTo_succ, h]
theorem opens_succ_no {code k : Nat} (h : openAt code (k + 1) = false) : opens (k + 1) code = opens k code := by simp [opens, varsTo_succ, h]
structure Tab.Full (T : Tab) (N : Nat) : Prop where
  sc : T.sc.length = N
  sz : T.sz.length = N
  ht : T.ht.length = N
theorem Tab.Full.put {T : Tab} {N : Nat} (h : T.Full N) (i : Nat) (c : Int × Int × Int) : (T.put i c).Full N := ⟨by simp [Tab.put, h.sc], by simp [Tab.put, h.sz], by simp [Tab.put, h.ht]⟩
theorem gTab_full (n : Nat) (cls : List (List Int)) : ∀ m, (gTab n cls m).Full (pow3 n)
  | 0 => ⟨by simp [gTab], by simp [gTab], by simp [gTab]⟩
  | m + 1 => (gTab_full n cls m).put _ _
theorem getD_set_ne {α} (xs : List α) {i j : Nat} (h : i ≠ j) (x d : α) : (xs.set i x).getD j d = xs.getD j d := by
  simp [List.getD_eq_getElem?_getD, List.getElem?_set, h]
theorem getD_set_eq {α} (xs : List α) {i : Nat} (h : i < xs.length) (x d : α) : (xs.set i x).getD i d = x := by
  simp [List.getD_eq_getElem?_getD, List.getElem?_set, h]
theorem Tab.at_put_ne (T : Tab) {i j : Nat} (h : i ≠ j) (c : Int × Int × Int) : (T.put i c).at_ j = T.at_ j := by
  simp only [Tab.at_, Tab.put, getD_set_ne _ h]
theorem gTab_low (n : Nat) (cls : List (List Int)) : ∀ m code, code + m < pow3 n → (gTab n cls m).at_ code = (0, 0, 0)
  | 0, code, h => by have hc : code < pow3 n := by omega
                     simp [gTab, Tab.at_, List.getD_eq_getElem?_getD, List.getElem?_replicate, hc]
  | m + 1, code, h => by
    rw [gTab, Tab.at_put_ne _ (by omega)]
    exact gTab_low n cls m code (by omega)
theorem set_self {xs : List Int} {i : Nat} {x : Int} (h : xs.getD i 0 = x) : xs.set i x = xs := by
  apply List.ext_getElem?
  intro j
  rw [List.getElem?_set]
  split
  · rename_i hij
    subst hij
    split
    · rename_i hl
      rw [List.getElem?_eq_getElem hl]
      rw [List.getD_eq_getElem?_getD, List.getElem?_eq_getElem hl] at h
      simp at h
      rw [h]
    · rw [List.getElem?_eq_none (by omega)]
  · rfl
theorem Tab.put_self {T : Tab} {i : Nat} {c : Int × Int × Int} (h : T.at_ i = c) : T.put i c = T := by
  subst h
  cases T
  simp only [Tab.put, Tab.at_]
  rw [set_self rfl, set_self rfl, set_self rfl]
theorem Tab.put_put (T : Tab) (i : Nat) (c d : Int × Int × Int) : (T.put i c).put i d = T.put i d := by simp [Tab.put, List.set_set]
/-- The two codes that an open variable leads to: above, and below the end. -/
theorem open_codes {n code v : Nat} (hc : code < pow3 n) (hv : 1 ≤ v ∧ v ≤ n) (ho : openAt code v = true) : code < gNo code v ∧ gNo code v < gYes code v ∧ gYes code v < pow3 n := by
  have hp := pow3_pos (v - 1)
  refine ⟨by unfold gNo; omega, by unfold gNo gYes; omega, ?_⟩
  obtain ⟨k, rfl⟩ : ∃ k, n = v - 1 + 1 + k := ⟨n - v, by omega⟩
  have hmul : ∀ a b, pow3 (a + b) = pow3 a * pow3 b := by
    intro a b
    induction b with
    | zero => simp [pow3]
    | succ b ih => rw [← Nat.add_assoc, pow3, ih, pow3]; rw [Nat.mul_left_comm]
  have h3 : code / pow3 (v - 1) % 3 = 0 := by simpa [openAt] using ho
  rw [hmul, pow3_succ] at hc ⊢
  unfold gYes
  generalize pow3 (v - 1) = p at *
  generalize pow3 k = q at *
  have h1 := Nat.div_add_mod code p
  have h2 := Nat.mod_lt code hp
  have h4 : code / p < 3 * q := by
    rw [Nat.div_lt_iff_lt_mul hp]
    calc code < 3 * p * q := hc
      _ = 3 * q * p := by rw [Nat.mul_assoc, Nat.mul_comm p q, ← Nat.mul_assoc]
  have h5 : code / p + 3 ≤ 3 * q := by omega
  have h6 : p * (code / p + 3) ≤ p * (3 * q) := Nat.mul_le_mul_left p h5
  rw [Nat.mul_add] at h6
  have h7 : p * (3 * q) = 3 * p * q := by rw [← Nat.mul_assoc, Nat.mul_comm p 3]
  have h8 : (fun x : Nat => pow3 x) = pow3 := rfl
  omega
end Go.Proofs.Ytaigjmbhgpcalaa
