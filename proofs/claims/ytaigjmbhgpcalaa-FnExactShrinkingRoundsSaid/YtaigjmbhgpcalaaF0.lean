/-
  Families of assignments in plain Lean: the order of clauses, closed lists, codes; no condition.
-/
import Derived.Test.YtaigjmbhgpcalaaG2
import Derived.Test.YtaigjmbhgpcalaaC42

namespace Go.Proofs.Ytaigjmbhgpcalaa
set_option linter.unusedSimpArgs false
set_option linter.unusedVariables false
open Go.RowKit

def narOk (v : Int) (cls : List (List Int)) (W : Int) : Bool := cnfOk v cls && (decide (v ≤ 6) && within W 0 6)
def allowB (cls : List (List Int)) (W : Int) (a : List Int) : Bool := decide ((a.length : Int) ≤ W + 1) && !cls.any (fun c => decide ((c.length : Int) ≤ W) && decide (clVal c a < 0))

/-! ### The order of clauses -/
def litKey (l : Int) : Int := if l < 0 then -2 * l + 1 else 2 * l
theorem litKey_inj {a b : Int} (h : litKey a = litKey b) : a = b := by unfold litKey at h; split at h <;> split at h <;> omega
def befGo : List Int → List Int → Bool
  | x :: a, y :: b => if x = y then befGo a b else decide (litKey x < litKey y)
  | _, _ => false
def befC (a b : List Int) : Bool := if a.length = b.length then befGo a b else decide (a.length < b.length)
theorem befGo_irr : ∀ a, befGo a a = false
  | [] => rfl
  | x :: a => by simp [befGo, befGo_irr a]
theorem befGo_trans : ∀ a b c, befGo a b = true → befGo b c = true → befGo a c = true
  | x :: a, y :: b, z :: c, h1, h2 => by
    simp only [befGo] at h1 h2 ⊢
    by_cases e1 : x = y
    · subst e1
      rw [if_pos rfl] at h1
      by_cases e2 : x = z
      · subst e2; rw [if_pos rfl] at h2 ⊢; exact befGo_trans a b c h1 h2
      · rw [if_neg e2] at h2 ⊢; exact h2
    · rw [if_neg e1] at h1
      by_cases e2 : y = z
      · subst e2; rw [if_neg e1]; exact h1
      · rw [if_neg e2] at h2
        simp only [decide_eq_true_eq] at h1 h2
        have h3 : x ≠ z := by rintro rfl; omega
        rw [if_neg h3]; simp; omega
  | [], _, _, h, _ => by simp [befGo] at h
  | _ :: _, [], _, h, _ => by simp [befGo] at h
  | _ :: _, _ :: _, [], _, h => by simp [befGo] at h
theorem befGo_tri : ∀ a b, a.length = b.length → befGo a b = false → befGo b a = false → a = b
  | [], [], _, _, _ => rfl
  | x :: a, y :: b, hl, h1, h2 => by
    simp only [befGo] at h1 h2
    by_cases e : x = y
    · subst e; rw [if_pos rfl] at h1 h2; rw [befGo_tri a b (by simpa using hl) h1 h2]
    · rw [if_neg e] at h1; rw [if_neg (Ne.symm e)] at h2
      simp only [decide_eq_false_iff_not] at h1 h2
      exact absurd (litKey_inj (by omega)) e
  | [], _ :: _, hl, _, _ => by simp at hl
  | _ :: _, [], hl, _, _ => by simp at hl
theorem befC_irr (a : List Int) : befC a a = false := by simp [befC, befGo_irr]
theorem befC_trans {a b c : List Int} (h1 : befC a b = true) (h2 : befC b c = true) : befC a c = true := by
  unfold befC at *
  by_cases e1 : a.length = b.length <;> by_cases e2 : b.length = c.length
  · rw [if_pos e1] at h1; rw [if_pos e2] at h2; rw [if_pos (e1.trans e2)]; exact befGo_trans _ _ _ h1 h2
  · rw [if_neg e2] at h2; rw [if_neg (by omega)]; simp at h2 ⊢; omega
  · rw [if_neg e1] at h1; rw [if_neg (by omega)]; simp at h1 ⊢; omega
  · rw [if_neg e1] at h1; rw [if_neg e2] at h2; simp at h1 h2; rw [if_neg (by omega)]; simp; omega
theorem befC_tri {a b : List Int} (h1 : befC a b = false) (h2 : befC b a = false) : a = b := by
  unfold befC at *
  by_cases e1 : a.length = b.length
  · rw [if_pos e1] at h1; rw [if_pos e1.symm] at h2; exact befGo_tri _ _ e1 h1 h2
  · rw [if_neg e1] at h1; rw [if_neg (Ne.symm e1)] at h2; simp at h1 h2; omega
/-- A list whose clauses ascend. -/
def Asc (l : List (List Int)) : Prop := ∀ (i j : Nat) (x y : List Int), i < j → l[i]? = some x → l[j]? = some y → befC x y = true
theorem asc_of {l : List (List Int)} (h : ∀ (i : Nat) (x y : List Int), l[i]? = some x → l[i + 1]? = some y → befC x y = true) : Asc l := by
  intro i j x y hij hx hy
  induction j generalizing y with
  | zero => omega
  | succ j ih =>
    by_cases e : i = j
    · subst e; exact h i x y hx hy
    · have hj : j < l.length := by have := (List.getElem?_eq_some_iff.1 hy).1; omega
      have h1 := ih (l[j]) (by omega) (List.getElem?_eq_getElem hj)
      exact befC_trans h1 (h j _ _ (List.getElem?_eq_getElem hj) hy)
def memC (l : List (List Int)) (c : List Int) : Bool := l.any (fun x => decide (x = c))
theorem memC_iff {l : List (List Int)} {c : List Int} : memC l c = true ↔ c ∈ l := by simp [memC]
/-- The place that a search by halves ends at holds the clause, or no place does. -/
theorem place_at {l : List (List Int)} {c : List Int} {k : Nat} (ha : Asc l) (h1 : ∀ (i : Nat) (x : List Int), i < k → l[i]? = some x → befC x c = true) (h2 : ∀ (i : Nat) (x : List Int), k ≤ i → l[i]? = some x → befC x c = false) : (memC l c = true ↔ l[k]? = some c) := by
  rw [memC_iff]
  constructor
  · intro hm
    obtain ⟨j, hj, he⟩ := List.getElem_of_mem hm
    have hjc : l[j]? = some c := by rw [List.getElem?_eq_getElem hj, he]
    rcases Nat.lt_trichotomy j k with h | h | h
    · have := h1 j c h hjc; rw [befC_irr] at this; cases this
    · subst h; exact hjc
    · have hk : k < l.length := by omega
      have h3 := ha k j _ c h (List.getElem?_eq_getElem hk) hjc
      rw [h2 k _ (Nat.le_refl _) (List.getElem?_eq_getElem hk)] at h3; cases h3
  · intro h; exact List.mem_of_getElem? h

/-! ### Clauses: without a variable, with a literal in its place -/
def woutV (c : List Int) (v : Int) : List Int := c.filter (fun x => decide ((x.natAbs : Int) ≠ v))
def putL : List Int → Int → List Int
  | [], l => [l]
  | x :: c, l => if x.natAbs < l.natAbs then x :: putL c l else l :: x :: c
theorem clauseOk_rises {v : Nat} {c : List Int} (h : clauseOk v c = true) : risesL 0 c ∧ ∀ x ∈ c, x.natAbs ≤ v := by
  obtain ⟨hv, hr, _⟩ := clause_facts h
  have h1 := rises_of h c.length 0 (by omega) 0 (fun x hx => by have := hr x (List.mem_of_getElem? hx); omega)
  exact ⟨by simpa using h1, fun x hx => by have := hr x hx; omega⟩
theorem risesL_next : ∀ (c : List Int) (lo i : Nat) (x y : Int), risesL lo c → c[i]? = some x → c[i + 1]? = some y → x.natAbs < y.natAbs
  | a :: b :: r, lo, 0, x, y, h, hx, hy => by simp at hx hy; subst hx; subst hy; exact h.2.1
  | a :: r, lo, i + 1, x, y, h, hx, hy => risesL_next r _ i x y h.2 (by simpa using hx) (by simpa using hy)
  | [a], lo, 0, x, y, h, hx, hy => by simp at hy
  | [], _, _, _, _, _, hx, _ => by simp at hx
theorem clauseOk_of {v : Nat} {c : List Int} (hv : v ≤ 12) (h : risesL 0 c) (hb : ∀ x ∈ c, x.natAbs ≤ v) : clauseOk v c = true := by
  unfold clauseOk
  rw [Bool.and_eq_true]
  refine ⟨by simp [within]; omega, ?_⟩
  rw [List.all_eq_true]
  intro i hi
  have hi : i < c.length := by simpa using hi
  have hx := List.getElem?_eq_getElem hi
  have hm := hb _ (List.mem_of_getElem? hx)
  have hp := risesL_all c 0 h _ (List.mem_of_getElem? hx)
  have hlit : isLit v c[i] = true := by simp [isLit, within, wrap64]; omega
  rcases Nat.eq_zero_or_pos i with h0 | h0
  · subst h0; exact litAt_first (hide hx) hlit
  · have hx1 := List.getElem?_eq_getElem (show i - 1 < c.length by omega)
    have hm1 := hb _ (List.mem_of_getElem? hx1)
    rw [litAt_next h0 (hide hx) (hide hx1) hlit]
    have hn := risesL_next c 0 (i - 1) _ _ h hx1 (by rw [show i - 1 + 1 = i by omega]; exact hx)
    simp only [decide_eq_true_eq]
    unfold absW wrap64
    split <;> split <;> omega
theorem risesL_filter (p : Int → Bool) : ∀ (c : List Int) (lo : Nat), risesL lo c → risesL lo (c.filter p)
  | [], _, _ => trivial
  | x :: c, lo, h => by
    rw [List.filter_cons]
    split
    · exact ⟨h.1, risesL_filter p c _ h.2⟩
    · exact risesL_weak (risesL_filter p c _ h.2) (fun y hy => by have := risesL_all c _ h.2 y (List.mem_filter.1 hy).1; have := h.1; omega)
theorem woutV_ok {v : Nat} {c : List Int} (u : Int) (h : clauseOk v c = true) : clauseOk v (woutV c u) = true := by
  obtain ⟨h1, h2⟩ := clauseOk_rises h
  have hv := (clause_facts h).1
  exact clauseOk_of (by omega) (risesL_filter _ c 0 h1) (fun x hx => h2 x (List.mem_filter.1 hx).1)
theorem putL_mem : ∀ (c : List Int) (l x : Int), x ∈ putL c l ↔ x = l ∨ x ∈ c
  | [], l, x => by simp [putL]
  | y :: c, l, x => by
    simp only [putL]
    split
    · simp only [List.mem_cons, putL_mem c l x]
      constructor
      · rintro (h | h | h) <;> simp [h]
      · rintro (h | h | h) <;> simp [h]
    · simp
theorem putL_rises : ∀ (c : List Int) (l : Int) (lo : Nat), risesL lo c → lo < l.natAbs → (∀ x ∈ c, x.natAbs ≠ l.natAbs) → risesL lo (putL c l)
  | [], l, lo, _, hl, _ => ⟨hl, trivial⟩
  | y :: c, l, lo, h, hl, hn => by
    simp only [putL]
    split
    · rename_i hlt
      exact ⟨h.1, putL_rises c l _ h.2 hlt (fun x hx => hn x (by simp [hx]))⟩
    · have := hn y (by simp)
      exact ⟨hl, by omega, h.2⟩
theorem openL_ne {a : List Int} {u : Int} (h : openL a u = true) : ∀ x ∈ a, x.natAbs ≠ u.natAbs := by
  simp only [openL, Bool.and_eq_true, Bool.not_eq_true', List.any_eq_false] at h
  intro x hx he
  have h1 := h.1 x hx
  have h2 := h.2 x hx
  simp at h1 h2
  omega
theorem putL_ok {v : Nat} {c : List Int} {l : Int} (h : clauseOk v c = true) (hl : l ≠ 0 ∧ l.natAbs ≤ v) (ho : ∀ x ∈ c, x.natAbs ≠ l.natAbs) : clauseOk v (putL c l) = true := by
  obtain ⟨h1, h2⟩ := clauseOk_rises h
  have hv := (clause_facts h).1
  refine clauseOk_of (by omega) (putL_rises c l 0 h1 (by omega) ho) (fun x hx => ?_)
  rcases (putL_mem c l x).1 hx with rfl | hx
  · exact hl.2
  · exact h2 x hx
theorem putL_code : ∀ (c : List Int) (l : Int), codeOf (putL c l) = codeOf c + digit l
  | [], l => by simp [putL, codeOf]
  | y :: c, l => by
    have ih := putL_code c l
    simp only [putL]
    unfold codeOf at *
    split
    · simp only [List.map_cons, List.sum_cons, ih]; omega
    · simp only [List.map_cons, List.sum_cons]; omega
theorem erase_wout : ∀ (c : List Int) (lo k : Nat) (x : Int), risesL lo c → c[k]? = some x → c.eraseIdx k = woutV c (x.natAbs : Int)
  | y :: c, lo, 0, x, h, hx => by
    simp at hx; subst hx
    have hr := risesL_all c _ h.2
    rw [List.eraseIdx_cons_zero]
    unfold woutV
    rw [List.filter_cons, if_neg (by simp), List.filter_eq_self.2 (fun z hz => by have := hr z hz; simp; omega)]
  | y :: c, lo, k + 1, x, h, hx => by
    have hx' : c[k]? = some x := by simpa using hx
    have hr := risesL_all c _ h.2 x (List.mem_of_getElem? hx')
    rw [List.eraseIdx_cons_succ, erase_wout c _ k x h.2 hx']
    unfold woutV
    rw [List.filter_cons, if_pos (by simp; omega)]
  | [], _, _, _, _, hx => by simp at hx

/-! ### Closed lists -/
def keepB (v : Nat) (W : Int) (l : List (List Int)) (a : List Int) : Bool :=
  a.all (fun x => memC l (woutV a (x.natAbs : Int))) && (decide (W < (a.length : Int)) || (upFrom 1 v).all (fun u => !openL a u || (memC l (putL a u) || memC l (putL a (-u)))))
def markB (l : List (List Int)) (c : Nat) : Bool := l.any (fun b => codeOf b == c)
def closB (v : Nat) (W : Int) (l : List (List Int)) (a : List Int) : Bool :=
  (List.range a.length).all (fun k => markB l (codeOf (a.eraseIdx k))) && (decide (W < (a.length : Int)) || (openList v a).all (fun u => markB l (codeOf a + pow3 (u.toNat - 1)) || markB l (codeOf a + 2 * pow3 (u.toNat - 1))))
theorem code_inj {v : Nat} {a b : List Int} (ha : clauseOk v a = true) (hb : clauseOk v b = true) (h : codeOf a = codeOf b) : a = b := by rw [← (asg_code ha).1, ← (asg_code hb).1, h]
theorem mark_mem {v : Nat} {l : List (List Int)} {a : List Int} (hl : ∀ b ∈ l, clauseOk v b = true) (ha : clauseOk v a = true) : markB l (codeOf a) = memC l a := by
  rw [Bool.eq_iff_iff, memC_iff]
  unfold markB
  rw [List.any_eq_true]
  constructor
  · rintro ⟨b, hb, he⟩
    rw [← code_inj (hl b hb) ha (by simpa using he)]; exact hb
  · intro h; exact ⟨a, h, by simp⟩
theorem all_congr' {α} {l : List α} {p q : α → Bool} (h : ∀ x ∈ l, p x = q x) : l.all p = l.all q := by
  induction l with
  | nil => rfl
  | cons x l ih => rw [List.all_cons, List.all_cons, h x (by simp), ih (fun y hy => h y (by simp [hy]))]
theorem all_range {c : List Int} {p : Nat → Bool} {q : Int → Bool} (h : ∀ k x, c[k]? = some x → p k = q x) : (List.range c.length).all p = c.all q := by
  rw [Bool.eq_iff_iff, List.all_eq_true, List.all_eq_true]
  constructor
  · intro h1 x hx
    obtain ⟨k, hk, rfl⟩ := List.getElem_of_mem hx
    rw [← h k _ (List.getElem?_eq_getElem hk)]; exact h1 k (by simpa using hk)
  · intro h1 k hk
    have hk : k < c.length := by simpa using hk
    rw [h k _ (List.getElem?_eq_getElem hk)]; exact h1 _ (List.getElem_mem hk)
theorem clos_keep {v : Nat} {W : Int} {l : List (List Int)} {a : List Int} (hl : ∀ b ∈ l, clauseOk v b = true) (ha : clauseOk v a = true) : closB v W l a = keepB v W l a := by
  unfold closB keepB
  congr 1
  · refine all_range fun k x hx => ?_
    rw [erase_wout a 0 k x (clauseOk_rises ha).1 hx, mark_mem hl (woutV_ok _ ha)]
  · congr 1
    unfold openList
    rw [List.all_filter]
    refine all_congr' fun u hu => ?_
    simp only [upFrom, List.mem_map, List.mem_range] at hu
    obtain ⟨i, hi, rfl⟩ := hu
    cases ho : openL a (1 + (i : Int))
    · simp
    · have hne := openL_ne ho
      rw [← mark_mem hl (putL_ok (l := 1 + (i : Int)) ha (by omega) hne), ← mark_mem hl (putL_ok (l := -(1 + (i : Int))) ha (by omega) (fun x hx => by have := hne x hx; omega)), putL_code, putL_code]
      have hd1 : digit (1 + (i : Int)) = 2 * pow3 i := by rw [show (1 + (i : Int)) = ((i + 1 : Nat) : Int) by omega]; exact digit_pos i
      have hd2 : digit (-(1 + (i : Int))) = pow3 i := by rw [show (-(1 + (i : Int))) = -((i + 1 : Nat) : Int) by omega]; exact digit_neg i
      rw [hd1, hd2, show (1 + (i : Int)).toNat - 1 = i by omega, Bool.or_comm (markB l (codeOf a + pow3 i))]
/-- A list is a family. -/
def famAt (v : Int) (cls : List (List Int)) (W : Int) (l : List (List Int)) (i : Nat) : Bool :=
  clauseOk v (l.getD i []) && allowB cls W (l.getD i []) && (decide (i = 0) || befC (l.getD (i - 1) []) (l.getD i []))
def famA (v : Int) (cls : List (List Int)) (W : Int) (l : List (List Int)) : Bool := (List.range l.length).all (famAt v cls W l)
def famB (v : Nat) (cls : List (List Int)) (W : Int) (l : List (List Int)) : Bool := famA v cls W l && (decide (0 < l.length) && l.all (keepB v W l))
theorem famA_facts {v : Int} {cls : List (List Int)} {W : Int} {l : List (List Int)} (h : famA v cls W l = true) : (∀ b ∈ l, clauseOk v b = true) ∧ Asc l := by
  unfold famA at h
  rw [List.all_eq_true] at h
  refine ⟨fun b hb => ?_, asc_of fun i x y hx hy => ?_⟩
  · obtain ⟨i, hi, rfl⟩ := List.getElem_of_mem hb
    have h1 := h i (by simpa using hi)
    unfold famAt at h1
    rw [getD_of (hide (List.getElem?_eq_getElem hi))] at h1
    exact (and2_true (and2_true h1).1).1
  · have hi := (List.getElem?_eq_some_iff.1 hy).1
    have h1 := h (i + 1) (by simpa using hi)
    unfold famAt at h1
    have h2 := (and2_true h1).2
    rw [getD_of (hide hy), show i + 1 - 1 = i by omega, getD_of (hide hx)] at h2
    simpa using h2
theorem sorted_nodup_codes {v : Nat} {l : List (List Int)} (hl : ∀ b ∈ l, clauseOk v b = true) (ha : Asc l) : (l.map codeOf).Nodup := by
  rw [List.Nodup, List.pairwise_iff_getElem]
  intro i j hi hj hij he
  simp only [List.getElem_map] at he
  have hi' : i < l.length := by simpa using hi
  have hj' : j < l.length := by simpa using hj
  have h1 := code_inj (hl _ (List.getElem_mem hi')) (hl _ (List.getElem_mem hj')) he
  have h2 := ha i j _ _ hij (List.getElem?_eq_getElem hi') (List.getElem?_eq_getElem hj')
  rw [h1, befC_irr] at h2; cases h2
theorem nodup_le : ∀ (n : Nat) (l : List Nat), l.Nodup → (∀ x ∈ l, x < n) → l.length ≤ n := by
  intro n
  induction n with
  | zero => intro l _ h; cases l with | nil => simp | cons x l => exact absurd (h x (by simp)) (by omega)
  | succ n ih =>
    intro l hd h
    have h1 := ih (l.erase n) (hd.erase n) (fun x hx => by
      have := h x (List.mem_of_mem_erase hx)
      have : x ≠ n := by rintro rfl; exact absurd hx (by simpa using hd.not_mem_erase)
      omega)
    have h2 : l.length ≤ (l.erase n).length + 1 := by rw [List.length_erase]; split <;> omega
    omega
theorem fam_len {v : Nat} {cls : List (List Int)} {W : Int} {l : List (List Int)} (h : famA v cls W l = true) (hv : v ≤ 6) : l.length ≤ 729 := by
  obtain ⟨h1, h2⟩ := famA_facts h
  have h3 := nodup_le (pow3 v) _ (sorted_nodup_codes h1 h2) (fun x hx => by
    obtain ⟨b, hb, rfl⟩ := List.mem_map.1 hx
    exact (asg_code (h1 b hb)).2)
  have h4 := pow3_mono hv
  have h5 : pow3 6 = 729 := rfl
  simp at h3
  omega
end Go.Proofs.Ytaigjmbhgpcalaa
