/-
  All allowed assignments in plain Lean; rows as pairs of a value and its list; no condition.
-/
import Derived.Test.YtaigjmbhgpcalaaF18

namespace Go.Proofs.Ytaigjmbhgpcalaa
set_option linter.unusedSimpArgs false
set_option linter.unusedVariables false
open Go.RowKit
/-- No later clause stands before an earlier one. -/
def Desc (l : List (List Int)) : Prop := ∀ (i j : Nat) (x y : List Int), i < j → l[i]? = some x → l[j]? = some y → befC y x = false
theorem befC_asym {a b : List Int} (h : befC a b = true) : befC b a = false := by
  cases hb : befC b a
  · rfl
  · have := befC_trans h hb; rw [befC_irr] at this; cases this
theorem desc_unique {l l' : List (List Int)} (hp : l'.Perm l) (hd : Desc l') (ha : Asc l) : l' = l := by
  refine List.Perm.eq_of_pairwise (le := fun x y => befC y x = false) (fun a b _ _ h1 h2 => befC_tri h2 h1) ?_ ?_ hp
  · rw [List.pairwise_iff_getElem]
    exact fun i j hi hj hij => hd i j _ _ hij (List.getElem?_eq_getElem hi) (List.getElem?_eq_getElem hj)
  · rw [List.pairwise_iff_getElem]
    exact fun i j hi hj hij => befC_asym (ha i j _ _ hij (List.getElem?_eq_getElem hi) (List.getElem?_eq_getElem hj))
/-! ### All clauses over variables u, u + 1, .. behind one -/
def genR : Nat → Int → List Int → List (List Int)
  | 0, _, _ => []
  | k + 1, u, c => ((c ++ [u]) :: genR k (u + 1) (c ++ [u])) ++ (((c ++ [-u]) :: genR k (u + 1) (c ++ [-u])) ++ genR k (u + 1) c)
def prR (al : List Int → Bool) : Nat → Int → List Int → List (List Int)
  | 0, _, _ => []
  | k + 1, u, c => (if al (c ++ [u]) then (c ++ [u]) :: prR al k (u + 1) (c ++ [u]) else []) ++ ((if al (c ++ [-u]) then (c ++ [-u]) :: prR al k (u + 1) (c ++ [-u]) else []) ++ prR al k (u + 1) c)
theorem genR_head : ∀ (k : Nat) (u : Int) (c : List Int), 1 ≤ u → ∀ a ∈ genR k u c, ∃ (z : Int) (x : List Int), a = c ++ z :: x ∧ u ≤ (z.natAbs : Int)
  | 0, _, _, _, a, h => by simp [genR] at h
  | k + 1, u, c, hu, a, h => by
    simp only [genR, List.mem_append, List.mem_cons] at h
    rcases h with (h | h) | (h | h) | h
    · exact ⟨u, [], h, by omega⟩
    · obtain ⟨z, x, rfl, _⟩ := genR_head k (u + 1) (c ++ [u]) (by omega) a h
      exact ⟨u, z :: x, by simp, by omega⟩
    · exact ⟨-u, [], h, by omega⟩
    · obtain ⟨z, x, rfl, _⟩ := genR_head k (u + 1) (c ++ [-u]) (by omega) a h
      exact ⟨-u, z :: x, by simp, by omega⟩
    · obtain ⟨z, x, rfl, hz⟩ := genR_head k (u + 1) c (by omega) a h
      exact ⟨z, x, rfl, by omega⟩
/-- A list no variable of which occurs twice. -/
def Free (a : List Int) : Prop := ∀ l : Int, a.any (· == l) = true → a.any (· == -l) = true → l = 0
theorem rises_snoc : ∀ (c : List Int) (lo : Nat) (z : Int), risesL lo c → (∀ x ∈ c, x.natAbs < z.natAbs) → lo < z.natAbs → risesL lo (c ++ [z])
  | [], _, _, _, _, h => ⟨h, trivial⟩
  | x :: c, lo, z, h, hx, _ => ⟨h.1, rises_snoc c x.natAbs z h.2 (fun y hy => hx y (by simp [hy])) (hx x (by simp))⟩
theorem rises_inj : ∀ (c : List Int) (lo : Nat), risesL lo c → ∀ x ∈ c, ∀ y ∈ c, x.natAbs = y.natAbs → x = y
  | z :: r, lo, h, x, hx, y, hy, he => by
    have hr := risesL_all r _ h.2
    simp only [List.mem_cons] at hx hy
    rcases hx with rfl | hx <;> rcases hy with rfl | hy
    · rfl
    · have := hr y hy; omega
    · have := hr x hx; omega
    · exact rises_inj r _ h.2 x hx y hy he
/-- Rising, and all variables before u. -/
def Good (u : Int) (c : List Int) : Prop := risesL 0 c ∧ ∀ x ∈ c, (x.natAbs : Int) < u
theorem Good.nil : Good 1 [] := ⟨trivial, by simp⟩
theorem Good.wide {u : Int} {c : List Int} (h : Good u c) : Good (u + 1) c := ⟨h.1, fun x hx => by have := h.2 x hx; omega⟩
theorem Good.snoc {u z : Int} {c : List Int} (h : Good u c) (hz : (z.natAbs : Int) = u) (hu : 1 ≤ u) : Good (u + 1) (c ++ [z]) := by
  refine ⟨rises_snoc c 0 z h.1 (fun x hx => by have := h.2 x hx; omega) (by omega), fun x hx => ?_⟩
  rcases List.mem_append.1 hx with hx | hx
  · have := h.2 x hx; omega
  · simp at hx; subst hx; omega
theorem genR_good : ∀ (k : Nat) (u : Int) (c : List Int), Good u c → 1 ≤ u → ∀ a ∈ genR k u c, Good (u + k) a
  | 0, _, _, _, _, a, h => by simp [genR] at h
  | k + 1, u, c, hc, hu, a, h => by
    have s1 : Good (u + 1) (c ++ [u]) := hc.snoc (by omega) hu
    have s2 : Good (u + 1) (c ++ [-u]) := hc.snoc (by omega) hu
    have up : ∀ {d : List Int}, Good (u + 1) d → Good (u + (k + 1 : Nat)) d := fun hd => ⟨hd.1, fun x hx => by have := hd.2 x hx; omega⟩
    have e : u + 1 + (k : Int) = u + (k + 1 : Nat) := by omega
    simp only [genR, List.mem_append, List.mem_cons] at h
    rcases h with (h | h) | (h | h) | h
    · subst h; exact up s1
    · exact e ▸ genR_good k (u + 1) (c ++ [u]) s1 (by omega) a h
    · subst h; exact up s2
    · exact e ▸ genR_good k (u + 1) (c ++ [-u]) s2 (by omega) a h
    · exact e ▸ genR_good k (u + 1) c hc.wide (by omega) a h
theorem Good.clause {v : Nat} {a : List Int} (hv : v ≤ 12) (h : Good ((v : Int) + 1) a) : clauseOk v a = true := clauseOk_of hv h.1 fun x hx => by have := h.2 x hx; omega
theorem Good.free {u : Int} {a : List Int} (h : Good u a) : Free a := by
  intro l h1 h2
  obtain ⟨x, hx, ex⟩ := List.any_eq_true.1 h1
  obtain ⟨y, hy, ey⟩ := List.any_eq_true.1 h2
  have e1 : x = l := by simpa using ex
  have e2 : y = -l := by simpa using ey
  subst e1
  have := rises_inj a 0 h.1 x hx y hy (by omega)
  omega
theorem prR_eq {al : List Int → Bool} (hm : ∀ (u : Int) c x, Good u (c ++ x) → al (c ++ x) = true → al c = true) : ∀ (k : Nat) (u : Int) (c : List Int), Good u c → 1 ≤ u → prR al k u c = (genR k u c).filter al
  | 0, _, _, _, _ => rfl
  | k + 1, u, c, hc, hu => by
    have hnone : ∀ (d : List Int), Good (u + 1) d → al d = false → (genR k (u + 1) d).filter al = [] := by
      intro d hgd hd
      rw [List.filter_eq_nil_iff]
      intro a ha hal
      have hga := genR_good k (u + 1) d hgd (by omega) a ha
      obtain ⟨z, x, rfl, _⟩ := genR_head k (u + 1) d (by omega) a ha
      rw [hm _ d _ hga hal] at hd; cases hd
    have hone : ∀ (d : List Int), Good (u + 1) d → (if al d then d :: prR al k (u + 1) d else []) = (d :: genR k (u + 1) d).filter al := by
      intro d hgd
      rw [List.filter_cons, prR_eq hm k (u + 1) d hgd (by omega)]
      cases hd : al d
      · simp [hnone d hgd hd]
      · simp
    simp only [genR, prR]
    rw [hone _ (hc.snoc (by omega) hu), hone _ (hc.snoc (by omega) hu), List.filter_append, List.filter_append, prR_eq hm k (u + 1) c hc.wide (by omega)]
theorem prR_len (al : List Int → Bool) : ∀ (k : Nat) (u : Int) (c : List Int), (prR al k u c).length + 1 ≤ pow3 k
  | 0, _, _ => by simp [prR, pow3]
  | k + 1, u, c => by
    have h1 := prR_len al k (u + 1) (c ++ [u])
    have h2 := prR_len al k (u + 1) (c ++ [-u])
    have h3 := prR_len al k (u + 1) c
    simp only [prR, List.length_append, pow3]
    split <;> split <;> simp only [List.length_cons, List.length_nil] <;> omega
theorem genR_len : ∀ (k : Nat) (u : Int) (c : List Int), (genR k u c).length + 1 = pow3 k
  | 0, _, _ => rfl
  | k + 1, u, c => by
    have h1 := genR_len k (u + 1) (c ++ [u])
    have h2 := genR_len k (u + 1) (c ++ [-u])
    have h3 := genR_len k (u + 1) c
    simp only [genR, List.length_append, List.length_cons, pow3]
    omega
theorem genR_nodup : ∀ (k : Nat) (u : Int) (c : List Int), 1 ≤ u → (c :: genR k u c).Nodup
  | 0, _, _, _ => by simp [genR]
  | k + 1, u, c, hu => by
    have i1 := genR_nodup k (u + 1) (c ++ [u]) (by omega)
    have i2 := genR_nodup k (u + 1) (c ++ [-u]) (by omega)
    have i3 := genR_nodup k (u + 1) c (by omega)
    have hd1 : ∀ (z : Int) (a : List Int), a ∈ (c ++ [z]) :: genR k (u + 1) (c ++ [z]) → ∃ x, a = c ++ z :: x := by
      intro z a ha
      rcases List.mem_cons.1 ha with ha | ha
      · exact ⟨[], ha⟩
      · obtain ⟨y, x, rfl, _⟩ := genR_head k (u + 1) (c ++ [z]) (by omega) a ha
        exact ⟨y :: x, by simp⟩
    have hd3 := genR_head k (u + 1) c (by omega)
    have hsame : ∀ (z y : Int) (x x' : List Int), c ++ z :: x = c ++ y :: x' → z = y := by
      intro z y x x' h
      have := List.append_cancel_left h
      injection this
    rw [List.nodup_cons] at i3 ⊢
    refine ⟨fun h => ?_, ?_⟩
    · obtain ⟨z, x, h, _⟩ := genR_head (k + 1) u c hu c h
      have := congrArg List.length h
      simp at this
    · simp only [genR]
      rw [List.nodup_append, List.nodup_append]
      refine ⟨i1, ⟨i2, i3.2, ?_⟩, ?_⟩
      · rintro a ha b hb rfl
        obtain ⟨x, h1⟩ := hd1 (-u) a ha
        obtain ⟨z, x', h2, hz⟩ := hd3 a hb
        have := hsame _ _ _ _ (h1.symm.trans h2)
        omega
      · rintro a ha b hb rfl
        obtain ⟨x, h1⟩ := hd1 u a ha
        rcases List.mem_append.1 hb with hb | hb
        · obtain ⟨x', h2⟩ := hd1 (-u) a hb
          have := hsame _ _ _ _ (h1.symm.trans h2)
          omega
        · obtain ⟨z, x', h2, hz⟩ := hd3 a hb
          have := hsame _ _ _ _ (h1.symm.trans h2)
          omega
/-! ### What is allowed stays allowed with less -/
theorem any_app {a x : List Int} {l : Int} (h : a.any (· == l) = true) : (a ++ x).any (· == l) = true := by rw [List.any_append, h, Bool.true_or]
theorem clGo_nonneg : ∀ (a c : List Int) (t : Int), 0 ≤ t → 0 ≤ clGo a c t
  | _, [], t, h => h
  | a, l :: c, t, h => by
    simp only [clGo]
    split
    · omega
    · exact clGo_nonneg a c _ (by split <;> omega)
theorem clGo_neg : ∀ (a c : List Int) (t : Int), clGo a c t < 0 → (t < 0 ∧ ∀ l ∈ c, a.any (· == l) = false ∧ a.any (· == -l) = true)
  | _, [], t, h => ⟨h, by simp⟩
  | a, l :: c, t, h => by
    simp only [clGo] at h
    cases h1 : a.any (· == l)
    · rw [h1] at h
      simp only [Bool.false_eq_true, if_false] at h
      cases h2 : a.any (· == -l)
      · rw [h2] at h
        simp only [Bool.false_eq_true, if_false] at h
        have := clGo_nonneg a c 0 (by omega)
        omega
      · rw [h2] at h
        simp only [if_true] at h
        obtain ⟨h3, h4⟩ := clGo_neg a c t h
        refine ⟨h3, fun l' hl' => ?_⟩
        rcases List.mem_cons.1 hl' with rfl | hl'
        · exact ⟨h1, h2⟩
        · exact h4 l' hl'
    · rw [h1] at h; simp at h
theorem clGo_of : ∀ (a c : List Int) (t : Int), t < 0 → (∀ l ∈ c, a.any (· == l) = false ∧ a.any (· == -l) = true) → clGo a c t < 0
  | _, [], t, h, _ => h
  | a, l :: c, t, h, hc => by
    obtain ⟨h1, h2⟩ := hc l (by simp)
    simp only [clGo]
    rw [h1, h2]
    exact clGo_of a c t h fun l' hl' => hc l' (by simp [hl'])
theorem allowB_mono {cls : List (List Int)} {W : Int} {a x : List Int} (hc : ∀ c ∈ cls, ∀ l ∈ c, l ≠ 0) (hf : Free (a ++ x)) (h : allowB cls W (a ++ x) = true) : allowB cls W a = true := by
  unfold allowB at h ⊢
  obtain ⟨h1, h2⟩ := and2_true h
  have h1' := of_decide_eq_true h1
  rw [List.length_append] at h1'
  rw [Bool.and_eq_true]
  refine ⟨decide_eq_true (by omega), ?_⟩
  rw [Bool.not_eq_true', List.any_eq_false] at h2 ⊢
  intro c hcm hcc
  obtain ⟨h3, h4⟩ := and2_true hcc
  refine h2 c hcm ?_
  rw [Bool.and_eq_true]
  refine ⟨h3, decide_eq_true ?_⟩
  obtain ⟨_, h5⟩ := clGo_neg a c (-1) (of_decide_eq_true h4)
  refine clGo_of (a ++ x) c (-1) (by omega) fun l hl => ⟨?_, any_app (h5 l hl).2⟩
  cases h6 : (a ++ x).any (· == l)
  · rfl
  · exact absurd (hf l h6 (any_app (h5 l hl).2)) (hc c hcm l hl)
/-! ### The list in order -/
def insC (c : List Int) : List (List Int) → List (List Int)
  | [] => [c]
  | x :: r => if befC x c then x :: insC c r else c :: x :: r
def sortG (l : List (List Int)) : List (List Int) := l.foldr insC []
theorem insC_perm (c : List Int) : ∀ l, (insC c l).Perm (c :: l)
  | [] => List.Perm.refl _
  | x :: r => by
    simp only [insC]
    split
    · exact ((insC_perm c r).cons x).trans (List.Perm.swap c x r)
    · exact List.Perm.refl _
theorem sortG_perm : ∀ l, (sortG l).Perm l
  | [] => List.Perm.refl _
  | c :: l => (insC_perm c _).trans ((sortG_perm l).cons c)
theorem insC_asc {c : List Int} : ∀ {l : List (List Int)}, Asc l → c ∉ l → Asc (insC c l)
  | [], _, _ => by
    intro i j p q hij hp hq
    simp only [insC] at hp hq
    have h1 := (List.getElem?_eq_some_iff.1 hq).1
    simp at h1; omega
  | x :: r, ha, hn => by
    obtain ⟨h1, h2⟩ := asc_cons ha
    simp only [insC]
    split
    · rename_i hb
      refine asc_of_cons (insC_asc h1 (fun h => hn (by simp [h]))) fun y hy => ?_
      rcases List.mem_cons.1 ((insC_perm c r).mem_iff.1 hy) with rfl | hy
      · exact hb
      · exact h2 y hy
    · rename_i hb
      have hb' : befC x c = false := by simpa using hb
      have hcx : befC c x = true := by
        cases h3 : befC c x
        · exact absurd (befC_tri h3 hb') (fun e => hn (by simp [e]))
        · rfl
      refine asc_of_cons ha fun y hy => ?_
      rcases List.mem_cons.1 hy with rfl | hy
      · exact hcx
      · exact befC_trans hcx (h2 y hy)
theorem sortG_asc : ∀ {l : List (List Int)}, l.Nodup → Asc (sortG l)
  | [], _ => fun i j p q _ hp => by simp [sortG] at hp
  | c :: l, h => by
    rw [List.nodup_cons] at h
    exact insC_asc (sortG_asc h.2) fun hc => h.1 ((sortG_perm l).mem_iff.1 hc)
theorem sort_unique {l l' : List (List Int)} (hn : l.Nodup) (hp : l'.Perm l) (hd : Desc l') : l' = sortG l := desc_unique (hp.trans (sortG_perm l).symm) hd (sortG_asc hn)
theorem Asc.desc {l : List (List Int)} (h : Asc l) : Desc l := fun i j x y hij hx hy => befC_asym (h i j x y hij hx hy)
/-- A clause put to its place. -/
theorem asc_put {l : List (List Int)} {c : List Int} {p : Nat} (ha : Asc l) (hn : c ∉ l) (h1 : ∀ i x, i < p → l[i]? = some x → befC x c = true) (h2 : ∀ i x, p ≤ i → l[i]? = some x → befC x c = false) (hp : p ≤ l.length) : Asc (l.take p ++ c :: l.drop p) := by
  have h3 : ∀ i x, p ≤ i → l[i]? = some x → befC c x = true := fun i x hi hx => by
    cases h4 : befC c x
    · exact absurd (befC_tri h4 (h2 i x hi hx)) (fun e => hn (e ▸ List.mem_of_getElem? hx))
    · rfl
  have hat : ∀ i, (l.take p ++ c :: l.drop p)[i]? = if i < p then l[i]? else if i = p then some c else l[i - 1]? := by
    intro i
    by_cases hi : i < p
    · rw [if_pos hi, List.getElem?_append_left (by rw [List.length_take]; omega), List.getElem?_take, if_pos hi]
    · rw [if_neg hi, List.getElem?_append_right (by rw [List.length_take]; omega), List.length_take, Nat.min_eq_left hp]
      by_cases he : i = p
      · subst he; rw [if_pos rfl, Nat.sub_self]; rfl
      · rw [if_neg he]
        obtain ⟨m, hm⟩ : ∃ m, i - p = m + 1 := ⟨i - p - 1, by omega⟩
        rw [hm, List.getElem?_cons_succ, List.getElem?_drop]
        congr 1; omega
  intro i j x y hij hx hy
  rw [hat] at hx hy
  by_cases hi : i < p
  · rw [if_pos hi] at hx
    by_cases hj : j < p
    · rw [if_pos hj] at hy; exact ha i j x y hij hx hy
    · rw [if_neg hj] at hy
      by_cases hj2 : j = p
      · rw [if_pos hj2] at hy; injection hy with hy; subst hy; exact h1 i x hi hx
      · rw [if_neg hj2] at hy; exact ha i (j - 1) x y (by omega) hx hy
  · rw [if_neg hi] at hx
    rw [if_neg (by omega), if_neg (by omega)] at hy
    by_cases hi2 : i = p
    · rw [if_pos hi2] at hx; injection hx with hx; subst hx; exact h3 (j - 1) y (by omega) hy
    · rw [if_neg hi2] at hx; exact ha (i - 1) (j - 1) x y (by omega) hx hy
theorem perm_put {α : Type} (l : List α) (c : α) (p : Nat) : (l.take p ++ c :: l.drop p).Perm (l ++ [c]) := by
  have h1 : (l.take p ++ c :: l.drop p).Perm (c :: (l.take p ++ l.drop p)) := List.perm_middle
  rw [List.take_append_drop] at h1
  exact h1.trans (List.perm_append_singleton c l).symm
def allP (v : Nat) (cls : List (List Int)) (W : Int) : List (List Int) := (([] : List Int) :: genR v 1 []).filter (allowB cls W)
def allG (v : Nat) (cls : List (List Int)) (W : Int) : List (List Int) := sortG (allP v cls W)
theorem allP_nodup (v : Nat) (cls : List (List Int)) (W : Int) : (allP v cls W).Nodup := (genR_nodup v 1 [] (by omega)).filter _
theorem allP_len (v : Nat) (cls : List (List Int)) (W : Int) : (allP v cls W).length ≤ pow3 v := by
  unfold allP
  refine Nat.le_trans (List.length_filter_le _ _) ?_
  have := genR_len v 1 []
  simp only [List.length_cons]; omega
theorem allP_ok {v : Nat} (hv : v ≤ 12) (cls : List (List Int)) (W : Int) : ∀ a ∈ allP v cls W, clauseOk v a = true ∧ allowB cls W a = true := by
  intro a ha
  obtain ⟨h1, h2⟩ := List.mem_filter.1 ha
  refine ⟨?_, h2⟩
  rcases List.mem_cons.1 h1 with rfl | h1
  · exact clauseOk_of hv trivial (by simp)
  · have := genR_good v 1 [] Good.nil (by omega) a h1
    exact Good.clause hv (by rwa [Int.add_comm] at this)
theorem allG_mem {v : Nat} {cls : List (List Int)} {W : Int} {a : List Int} : a ∈ allG v cls W ↔ a ∈ allP v cls W := (sortG_perm _).mem_iff
theorem allow_mono {cls : List (List Int)} {W : Int} (hc : ∀ c ∈ cls, ∀ l ∈ c, l ≠ 0) (u : Int) (c x : List Int) (hg : Good u (c ++ x)) (h : allowB cls W (c ++ x) = true) : allowB cls W c = true := allowB_mono hc hg.free h
/-! ### Rows as pairs -/
structure PRows (w : World) (lo hi : Nat) (ei : TypeId) (ps : List (Value × List Int)) : Prop where
  row : ∀ p ∈ ps, RowV w lo hi ei p.1 p.2
  apart : ps.Pairwise fun p q => ∀ k, p.1.ownBlock = some k → q.1.ownBlock ≠ some k
section
variable {w w' : World} {lo hi mid : Nat} {ei eo : TypeId} {ps qs : List (Value × List Int)}
theorem PRows.nil : PRows w lo hi ei [] := ⟨by simp, List.Pairwise.nil⟩
theorem PRows.ext (h : PRows w lo hi ei ps) (he : Ext w w') : PRows w' lo hi ei ps := ⟨fun p hp => (h.row p hp).ext he, h.apart⟩
theorem PRows.wider {hi' : Nat} (h : PRows w lo hi ei ps) (he : hi ≤ hi') : PRows w lo hi' ei ps := ⟨fun p hp => (h.row p hp).wider he, h.apart⟩
theorem PRows.lower {lo' : Nat} (h : PRows w lo hi ei ps) (he : lo' ≤ lo) : PRows w lo' hi ei ps := ⟨fun p hp => (h.row p hp).lower he, h.apart⟩
theorem PRows.one {u : Value} {xs : List Int} (h : RowV w lo hi ei u xs) : PRows w lo hi ei [(u, xs)] := ⟨fun p hp => by simp at hp; subst hp; exact h, List.pairwise_singleton _ _⟩
theorem PRows.append (h : PRows w lo mid ei ps) (k : PRows w mid hi ei qs) (h1 : lo ≤ mid) (h2 : mid ≤ hi) : PRows w lo hi ei (ps ++ qs) := by
  refine ⟨fun p hp => ?_, ?_⟩
  · rcases List.mem_append.1 hp with hp | hp
    · exact (h.row p hp).wider h2
    · exact (k.row p hp).lower h1
  · rw [List.pairwise_append]
    refine ⟨h.apart, k.apart, fun p hp q hq j hj hj2 => ?_⟩
    have := (h.row p hp).lt hj
    have := (k.row q hq).lt hj2
    omega
theorem PRows.perm (h : PRows w lo hi ei ps) (hp : qs.Perm ps) : PRows w lo hi ei qs :=
  ⟨fun p hq => h.row p (hp.mem_iff.1 hq), (hp.pairwise_iff (fun {x y} hR k h1 h2 => hR k h2 h1)).2 h.apart⟩
theorem OwnRows.ofP {A : Option Addr} {n c : Nat} (ho : Own w lo eo 1 A n c (ps.map (·.1))) (hp : PRows w lo hi ei ps) (hb : ∀ k, (Value.slice A n c).ownBlock = some k → k < hi) : OwnRows w lo hi eo ei A n c (ps.map (·.2)) (ps.map (·.1)) := by
  refine ⟨by have := ho.len; simp at this; simp; omega, ho, hb, fun i u xs hu hx => ?_, fun i j u v k hu hv h1 h2 => ?_⟩
  · rw [List.getElem?_map, Option.map_eq_some_iff] at hu hx
    obtain ⟨p, hp1, rfl⟩ := hu
    obtain ⟨q, hq1, rfl⟩ := hx
    rw [hp1] at hq1; injection hq1 with hq1; subst hq1
    exact hp.row p (List.mem_of_getElem? hp1)
  · rw [List.getElem?_map, Option.map_eq_some_iff] at hu hv
    obtain ⟨p, hp1, rfl⟩ := hu
    obtain ⟨q, hq1, rfl⟩ := hv
    obtain ⟨hi, ei⟩ := List.getElem?_eq_some_iff.1 hp1
    obtain ⟨hj, ej⟩ := List.getElem?_eq_some_iff.1 hq1
    have hpw := hp.apart
    rw [List.pairwise_iff_getElem] at hpw
    rcases Nat.lt_trichotomy i j with hlt | heq | hgt
    · exact absurd (ej ▸ h2) (hpw i j hi hj hlt k (ei ▸ h1))
    · exact heq
    · exact absurd (ei ▸ h1) (hpw j i hj hi hgt k (ej ▸ h2))
end
end Go.Proofs.Ytaigjmbhgpcalaa
