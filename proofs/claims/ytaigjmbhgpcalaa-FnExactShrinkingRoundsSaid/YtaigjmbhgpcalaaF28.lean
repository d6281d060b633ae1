/-
  Shrinking a list in rounds, in plain Lean; no condition.
-/
import Derived.Test.YtaigjmbhgpcalaaF24

namespace Go.Proofs.Ytaigjmbhgpcalaa
set_option linter.unusedSimpArgs false
set_option linter.unusedVariables false
open Go.RowKit
section
variable (K : List (List Int) → List Int → Bool) (L : List (List Int))
def inB : Nat → List Int → Bool
  | 0 => fun _ => true
  | r + 1 => fun a => inB r a && K (L.filter (inB r)) a
def leftS (r : Nat) : List (List Int) := L.filter (inB K L r)
def goneB (r : Nat) (a : List Int) : Bool := inB K L r a && !K (leftS K L r) a
def rd : Nat → List Int → Nat
  | 0 => fun _ => 0
  | r + 1 => fun a => if goneB K L r a then r + 1 else rd r a
def cntS (r : Nat) : Nat := (L.filter (goneB K L r)).length
def IsStop (r : Nat) : Prop := cntS K L r = 0 ∧ ∀ q < r, 0 < cntS K L q
noncomputable def stopN : Nat := Classical.epsilon (IsStop K L)
theorem stop_unique {r s : Nat} (h : IsStop K L r) (k : IsStop K L s) : r = s := by
  rcases Nat.lt_trichotomy r s with h1 | h1 | h1
  · have := k.2 r h1; rw [h.1] at this; omega
  · exact h1
  · have := h.2 s h1; rw [k.1] at this; omega
theorem stop_eq {r : Nat} (h : IsStop K L r) : stopN K L = r := stop_unique K L (Classical.epsilon_spec ⟨r, h⟩) h
theorem in_succ (r : Nat) (a : List Int) : inB K L (r + 1) a = (inB K L r a && K (leftS K L r) a) := rfl
theorem in_succ_gone (r : Nat) (a : List Int) : inB K L (r + 1) a = (inB K L r a && !goneB K L r a) := by
  rw [in_succ]; unfold goneB; cases inB K L r a <;> simp
theorem rd_succ (r : Nat) (a : List Int) : rd K L (r + 1) a = if goneB K L r a then r + 1 else rd K L r a := rfl
theorem rd_zero : ∀ (r : Nat) (a : List Int), rd K L r a = 0 ↔ inB K L r a = true
  | 0, _ => by simp [rd, inB]
  | r + 1, a => by
    have ih := rd_zero r a
    rw [rd_succ, in_succ_gone]
    cases hg : goneB K L r a
    · simp [ih]
    · simp
theorem filter_split {α : Type} (p q : α → Bool) : ∀ (l : List α), (l.filter p).length = (l.filter (fun a => p a && !q a)).length + (l.filter (fun a => p a && q a)).length
  | [] => rfl
  | x :: l => by
    have ih := filter_split p q l
    simp only [List.filter_cons]
    cases p x <;> cases q x <;> simp <;> omega
theorem gone_in {r : Nat} {a : List Int} (h : goneB K L r a = true) : inB K L r a = true := (and2_true h).1
theorem left_len (r : Nat) : (leftS K L r).length = (leftS K L (r + 1)).length + cntS K L r := by
  have h := filter_split (inB K L r) (goneB K L r) L
  have e1 : (fun a => inB K L r a && !goneB K L r a) = inB K L (r + 1) := by funext a; rw [in_succ_gone]
  have e2 : (fun a => inB K L r a && goneB K L r a) = goneB K L r := by
    funext a
    cases hg : goneB K L r a
    · simp
    · simp [gone_in K L hg]
  rw [e1, e2] at h
  exact h
theorem left_sum : ∀ (r : Nat), (∀ q < r, 0 < cntS K L q) → r + (leftS K L r).length ≤ L.length
  | 0, _ => by have := List.length_filter_le (inB K L 0) L; unfold leftS; omega
  | r + 1, h => by
    have ih := left_sum r (fun q hq => h q (by omega))
    have h1 := left_len K L r
    have h2 := h r (by omega)
    omega
theorem in_mono : ∀ (r q : Nat) (a : List Int), q ≤ r → inB K L r a = true → inB K L q a = true
  | 0, q, a, hq, h => by obtain rfl : q = 0 := by omega
                         exact h
  | r + 1, q, a, hq, h => by
    by_cases e : q = r + 1
    · subst e; exact h
    · rw [in_succ_gone] at h
      exact in_mono r q a (by omega) (and2_true h).1
theorem rd_le : ∀ (r : Nat) (a : List Int), rd K L r a ≤ r
  | 0, _ => by simp [rd]
  | r + 1, a => by
    have := rd_le r a
    rw [rd_succ]; split <;> omega
theorem rd_iff : ∀ (r q : Nat) (a : List Int), q < r → (rd K L r a = q + 1 ↔ goneB K L q a = true)
  | 0, q, a, h => by omega
  | r + 1, q, a, h => by
    rw [rd_succ]
    by_cases e : q = r
    · subst e
      have := rd_le K L q a
      cases hg : goneB K L q a
      · simp; omega
      · simp
    · have ih := rd_iff r q a (by omega)
      cases hg : goneB K L r a
      · simpa using ih
      · simp only [if_true]
        constructor
        · intro h; omega
        · intro hq
          have h1 := in_mono K L r (q + 1) a (by omega) (gone_in K L hg)
          rw [in_succ_gone, hq] at h1; simp at h1
/-- The numbers of those that each round takes out. -/
def cntL (r : Nat) : List Int := (List.range r).map fun q => (cntS K L q : Int)
theorem cntL_succ (r : Nat) : cntL K L (r + 1) = cntL K L r ++ [(cntS K L r : Int)] := by simp [cntL, List.range_succ]
theorem cntL_len (r : Nat) : (cntL K L r).length = r := by simp [cntL]
theorem cnt_le (r : Nat) : cntS K L r ≤ L.length := List.length_filter_le _ _
/-! One element of the inner loop. -/
theorem gone_take {i : Nat} {a : List Int} (r : Nat) (ha : Hid (L[i]? = some a)) : ((L.take (i + 1)).filter (goneB K L r)).length = ((L.take i).filter (goneB K L r)).length + (if goneB K L r a then 1 else 0) := by
  rw [take_succ_of ha, List.filter_append, List.length_append]
  cases hg : goneB K L r a <;> simp [hg]
end
/-! ### By codes -/
section
variable (K : List (List Int) → List Int → Bool) (L : List (List Int))
/-- The round in which the assignment of a code is taken out. -/
def rc (r : Nat) (c : Nat) : Nat := ((L.find? (fun a => codeOf a == c)).map (rd K L r)).getD 0
theorem find_code {v : Nat} {L : List (List Int)} (hl : ∀ b ∈ L, clauseOk v b = true) {a : List Int} (ha : a ∈ L) : L.find? (fun b => codeOf b == codeOf a) = some a := by
  cases h : L.find? (fun b => codeOf b == codeOf a) with
  | none => have := List.find?_eq_none.1 h a ha; simp at this
  | some b =>
    have h1 := List.find?_some h
    have h2 := List.mem_of_find?_eq_some h
    rw [code_inj (hl b h2) (hl a ha) (by simpa using h1)]
theorem rc_code {v : Nat} (hl : ∀ b ∈ L, clauseOk v b = true) (r : Nat) {a : List Int} (ha : a ∈ L) : rc K L r (codeOf a) = rd K L r a := by
  unfold rc; rw [find_code hl ha]; rfl
theorem rc_none (r : Nat) {c : Nat} (h : ∀ a ∈ L, codeOf a ≠ c) : rc K L r c = 0 := by
  unfold rc
  have : L.find? (fun a => codeOf a == c) = none := List.find?_eq_none.2 fun a ha => by simpa using h a ha
  rw [this]; rfl
theorem mark_left {v : Nat} (hl : ∀ b ∈ L, clauseOk v b = true) (r : Nat) {a : List Int} (ha : a ∈ L) : markB (leftS K L r) (codeOf a) = inB K L r a := by
  have hl2 : ∀ b ∈ leftS K L r, clauseOk v b = true := fun b hb => hl b (List.mem_filter.1 hb).1
  rw [mark_mem hl2 (hl a ha)]
  cases h : inB K L r a
  · rw [← Bool.not_eq_true, memC_iff]; intro hm; have := (List.mem_filter.1 hm).2; rw [h] at this; cases this
  · exact memC_iff.2 (List.mem_filter.2 ⟨ha, h⟩)
theorem mark_none (r : Nat) {c : Nat} (h : ∀ a ∈ L, codeOf a ≠ c) : markB (leftS K L r) c = false := by
  unfold markB; rw [List.any_eq_false]
  intro a ha; simpa using h a (List.mem_filter.1 ha).1
/-- The codes of those that a round takes out. -/
def goneC (r i : Nat) : List Nat := ((L.take i).filter (goneB K L r)).map codeOf
theorem goneC_mem {v : Nat} (hl : ∀ b ∈ L, clauseOk v b = true) {r : Nat} {a : List Int} (ha : a ∈ L) : codeOf a ∈ goneC K L r L.length ↔ goneB K L r a = true := by
  unfold goneC
  rw [List.take_length]
  constructor
  · intro h
    obtain ⟨b, hb, e⟩ := List.mem_map.1 h
    obtain ⟨h1, h2⟩ := List.mem_filter.1 hb
    rwa [code_inj (hl b h1) (hl a ha) e] at h2
  · intro h; exact List.mem_map.2 ⟨a, List.mem_filter.2 ⟨ha, h⟩, rfl⟩
theorem code_cases (c : Nat) : (∃ a ∈ L, codeOf a = c) ∨ ∀ a ∈ L, codeOf a ≠ c := by
  by_cases h : ∃ a ∈ L, codeOf a = c
  · exact .inl h
  · exact .inr fun a ha e => h ⟨a, ha, e⟩
theorem mark_next {v : Nat} (hl : ∀ b ∈ L, clauseOk v b = true) (r c : Nat) : markB (leftS K L (r + 1)) c = if c ∈ goneC K L r L.length then false else markB (leftS K L r) c := by
  rcases code_cases L c with ⟨a, ha, rfl⟩ | h
  · rw [mark_left K L hl _ ha, mark_left K L hl _ ha, in_succ_gone]
    by_cases hg : goneB K L r a = true
    · rw [if_pos ((goneC_mem K L hl ha).2 hg), hg]; simp
    · rw [if_neg (fun h => hg ((goneC_mem K L hl ha).1 h))]
      have : goneB K L r a = false := by simpa using hg
      rw [this]; simp
  · rw [mark_none K L _ h, mark_none K L _ h]; simp
theorem rc_next {v : Nat} (hl : ∀ b ∈ L, clauseOk v b = true) (r c : Nat) : rc K L (r + 1) c = if c ∈ goneC K L r L.length then r + 1 else rc K L r c := by
  rcases code_cases L c with ⟨a, ha, rfl⟩ | h
  · rw [rc_code K L hl _ ha, rc_code K L hl _ ha, rd_succ]
    by_cases hg : goneB K L r a = true
    · rw [if_pos ((goneC_mem K L hl ha).2 hg), if_pos hg]
    · rw [if_neg (fun h => hg ((goneC_mem K L hl ha).1 h)), if_neg hg]
  · rw [rc_none K L _ h, rc_none K L _ h, if_neg]
    intro hm
    obtain ⟨b, hb, e⟩ := List.mem_map.1 hm
    exact h b (List.mem_of_mem_take (List.mem_filter.1 hb).1) e
theorem goneC_len (r : Nat) : (goneC K L r L.length).length = cntS K L r := by unfold goneC cntS; rw [List.take_length, List.length_map]
theorem goneC_succ {i : Nat} {a : List Int} (r : Nat) (ha : Hid (L[i]? = some a)) : goneC K L r (i + 1) = goneC K L r i ++ (if goneB K L r a then [codeOf a] else []) := by
  unfold goneC
  rw [take_succ_of ha, List.filter_append, List.map_append]
  cases hg : goneB K L r a <;> simp [hg]
/-- How many codes have a round. -/
theorem cnt_codes {v : Nat} (hl : ∀ b ∈ L, clauseOk v b = true) (hn : L.Nodup) {r q : Nat} (hq : q < r) : ((List.range (pow3 v)).filter (fun c => rc K L r c == q + 1)).length = cntS K L q := by
  have h1 : ((List.range (pow3 v)).filter (fun c => rc K L r c == q + 1)).Perm ((L.filter (goneB K L q)).map codeOf) := by
    rw [List.perm_ext_iff_of_nodup]
    · intro c
      simp only [List.mem_filter, List.mem_range, List.mem_map, beq_iff_eq]
      constructor
      · rintro ⟨_, h2⟩
        rcases code_cases L c with ⟨a, ha, rfl⟩ | h
        · rw [rc_code K L hl _ ha] at h2
          exact ⟨a, ⟨ha, (rd_iff K L r q a hq).1 h2⟩, rfl⟩
        · rw [rc_none K L _ h] at h2; omega
      · rintro ⟨a, ⟨ha, hg⟩, rfl⟩
        exact ⟨(asg_code (hl a ha)).2, by rw [rc_code K L hl _ ha]; exact (rd_iff K L r q a hq).2 hg⟩
    · exact List.Pairwise.filter _ List.nodup_range
    · have h3 := hn.filter (goneB K L q)
      unfold List.Nodup at h3 ⊢
      rw [List.pairwise_map]
      refine h3.imp_of_mem ?_
      intro a b ha hb hne e
      exact hne (code_inj (hl a (List.mem_filter.1 ha).1) (hl b (List.mem_filter.1 hb).1) e)
  rw [h1.length_eq, List.length_map]; rfl
end
/-! ### Counting rounds -/
def mxR (R : Nat → Nat) : Nat → Nat
  | 0 => 0
  | c + 1 => max (mxR R c) (R c)
def cnR (R : Nat → Nat) (c q : Nat) : Nat := ((List.range c).filter (fun x => R x == q + 1)).length
def outR (R : Nat → Nat) (c : Nat) : List Int := (List.range (mxR R c)).map fun q => (cnR R c q : Int)
theorem cnR_succ (R : Nat → Nat) (c q : Nat) : cnR R (c + 1) q = cnR R c q + (if R c = q + 1 then 1 else 0) := by
  unfold cnR
  rw [List.range_succ, List.filter_append, List.length_append]
  by_cases h : R c = q + 1 <;> simp [h]
theorem mx_ge {R : Nat → Nat} : ∀ {c x : Nat}, x < c → R x ≤ mxR R c
  | c + 1, x, h => by
    by_cases e : x = c
    · subst e; simp only [mxR]; omega
    · have := mx_ge (R := R) (show x < c by omega); simp only [mxR]; omega
theorem mx_le {R : Nat → Nat} {N : Nat} : ∀ {c : Nat}, (∀ x < c, R x ≤ N) → mxR R c ≤ N
  | 0, _ => by simp [mxR]
  | c + 1, h => by
    have h1 := mx_le (R := R) (c := c) (fun x hx => h x (by omega))
    have h2 := h c (by omega)
    simp only [mxR]; omega
theorem cnR_zero {R : Nat → Nat} {c q : Nat} (h : mxR R c ≤ q) : cnR R c q = 0 := by
  unfold cnR
  rw [List.length_eq_zero_iff, List.filter_eq_nil_iff]
  intro x hx
  have := mx_ge (R := R) (List.mem_range.1 hx)
  simp; omega
/-- The list, made longer with zeros. -/
def padR (R : Nat → Nat) (c m : Nat) : List Int := (List.range m).map fun q => (cnR R c q : Int)
theorem padR_len (R : Nat → Nat) (c m : Nat) : (padR R c m).length = m := by simp [padR]
theorem padR_succ {R : Nat → Nat} {c m : Nat} (h : mxR R c ≤ m) : padR R c (m + 1) = padR R c m ++ [0] := by
  unfold padR; rw [List.range_succ, List.map_append]; simp [cnR_zero h]
theorem padR_out (R : Nat → Nat) (c : Nat) : padR R c (mxR R c) = outR R c := rfl
theorem padR_none {R : Nat → Nat} {c : Nat} (h : R c = 0) (m : Nat) : padR R (c + 1) m = padR R c m := by
  unfold padR; apply List.map_congr_left; intro q _; rw [cnR_succ, if_neg (by omega)]; simp
theorem padR_at {R : Nat → Nat} {c m : Nat} (h : R c = m + 1) {n : Nat} (hn : m < n) : padR R (c + 1) n = (padR R c n).set m ((cnR R c m : Int) + 1) := by
  apply List.ext_getElem?
  intro j
  unfold padR
  rw [List.getElem?_set, List.getElem?_map, List.getElem?_map, List.length_map, List.length_range]
  by_cases hj : m = j
  · subst hj
    rw [if_pos rfl, if_pos hn, List.getElem?_range hn]
    simp [cnR_succ, h]
  · rw [if_neg hj]
    by_cases hjn : j < n
    · rw [List.getElem?_range hjn]
      simp only [Option.map_some]
      rw [cnR_succ, if_neg (by omega), Nat.add_zero]
    · rw [List.getElem?_eq_none (by simp; omega)]; rfl
theorem padR_get (R : Nat → Nat) (c : Nat) {m n : Nat} (h : m < n) : (padR R c n)[m]? = some (cnR R c m : Int) := by
  unfold padR; rw [List.getElem?_map, List.getElem?_range h]; rfl
/-- In all: the numbers of those that each round takes out. -/
theorem outR_cnt {v : Nat} {K : List (List Int) → List Int → Bool} {L : List (List Int)} (hl : ∀ b ∈ L, clauseOk v b = true) (hn : L.Nodup) {r : Nat} (hs : ∀ q < r, 0 < cntS K L q) : outR (rc K L r) (pow3 v) = cntL K L r := by
  have hm : mxR (rc K L r) (pow3 v) = r := by
    refine Nat.le_antisymm (mx_le fun x _ => ?_) ?_
    · rcases code_cases L x with ⟨a, ha, rfl⟩ | h
      · rw [rc_code K L hl _ ha]; exact rd_le K L r a
      · rw [rc_none K L _ h]; omega
    · rcases Nat.eq_zero_or_pos r with h0 | h0
      · omega
      · have h1 := hs (r - 1) (by omega)
        rw [← cnt_codes K L hl hn (show r - 1 < r by omega)] at h1
        obtain ⟨c, hc⟩ := List.exists_mem_of_length_pos h1
        obtain ⟨h2, h3⟩ := List.mem_filter.1 hc
        have h4 : rc K L r c = r := by simp at h3; omega
        have := mx_ge (R := rc K L r) (List.mem_range.1 h2)
        omega
  unfold outR cntL
  rw [hm]
  apply List.map_congr_left
  intro q hq
  have := cnt_codes K L hl hn (List.mem_range.1 hq)
  unfold cnR; rw [this]
end Go.Proofs.Ytaigjmbhgpcalaa
