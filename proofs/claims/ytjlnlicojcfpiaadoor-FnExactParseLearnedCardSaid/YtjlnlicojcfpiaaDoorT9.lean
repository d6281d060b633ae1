/-
  Clauses and lists of clauses read back from their texts, in plain Lean; no condition.
-/
import Derived.Test.YtjlnlicojcfpiaaDoorT8
namespace Go.Proofs.YtjlnlicojcfpiaaDoor
set_option linter.unusedSimpArgs false
set_option linter.unusedVariables false
open Go.RowKit
theorem map_inj_of {α β} {f : α → β} (hf : ∀ x y, f x = f y → x = y) : ∀ {c d : List α}, c.map f = d.map f → c = d
  | [], [], _ => rfl
  | [], _ :: _, h => by simp at h
  | _ :: _, [], h => by simp at h
  | x :: c, y :: d, h => by
    rw [List.map_cons, List.map_cons] at h
    injection h with h1 h2
    rw [hf _ _ h1, map_inj_of hf h2]
theorem itoa_map_inj {c d : List Int} (h : c.map Lib.itoa = d.map Lib.itoa) : c = d := map_inj_of (fun _ _ => itoa_inj) h
theorem itoa_no32 (n : Int) : (32 : UInt8) ∉ Lib.itoa n := itoa_no n (by decide) (.inl (by decide))
theorem itoa_no59 (n : Int) : (59 : UInt8) ∉ Lib.itoa n := itoa_no n (by decide) (.inr (by decide))
theorem itoa_no110 (n : Int) : (110 : UInt8) ∉ Lib.itoa n := itoa_no n (by decide) (.inr (by decide))
theorem itoas_no {b : UInt8} (hb : ∀ n, b ∉ Lib.itoa n) (c : List Int) : ∀ p ∈ c.map Lib.itoa, b ∉ p := by
  intro p hp
  obtain ⟨x, _, rfl⟩ := List.mem_map.1 hp
  exact hb x
theorem join_no {b : UInt8} {sep : List UInt8} (hs : b ∉ sep) : ∀ (ps : List (List UInt8)), (∀ p ∈ ps, b ∉ p) → b ∉ Lib.join ps sep
  | [], _ => by rw [Lib.join_nil]; simp
  | [p], h => by rw [Lib.join_one]; exact h p (by simp)
  | p :: q :: r, h => by
    rw [join_two, List.mem_append, List.mem_append]
    rintro ((h1 | h1) | h1)
    · exact h p (by simp) h1
    · exact hs h1
    · exact join_no hs (q :: r) (fun x hx => h x (by simp [hx])) h1
theorem clauseL_words {c : List Int} (hc : c ≠ []) : clauseL c = Lib.join (c.map Lib.itoa) [32] := by unfold clauseL; rw [if_neg hc]
theorem clauseL_nil : clauseL [] = [110, 111, 110, 101] := by unfold clauseL; rw [if_pos rfl]
theorem clauseL_no59 (c : List Int) : (59 : UInt8) ∉ clauseL c := by
  by_cases hc : c = []
  · subst hc; rw [clauseL_nil]; decide
  · rw [clauseL_words hc]; exact join_no (by decide) _ (itoas_no itoa_no59 c)
theorem clauseL_none {c : List Int} (h : clauseL c = [110, 111, 110, 101]) : c = [] := by
  by_cases hc : c = []
  · exact hc
  · rw [clauseL_words hc] at h
    exact absurd (by rw [h]; simp) (join_no (b := 110) (sep := [32]) (by decide) _ (itoas_no itoa_no110 c))
theorem clauseL_inj {c d : List Int} (h : clauseL c = clauseL d) : c = d := by
  by_cases hc : c = []
  · subst hc; rw [clauseL_nil] at h; exact (clauseL_none h.symm).symm
  · by_cases hd : d = []
    · subst hd; rw [clauseL_nil] at h; exact clauseL_none h
    · rw [clauseL_words hc, clauseL_words hd] at h
      have h1 := cut_join (c.map Lib.itoa) (by simpa using hc) (itoas_no itoa_no32 c)
      rw [h, cut_join (d.map Lib.itoa) (by simpa using hd) (itoas_no itoa_no32 d)] at h1
      exact itoa_map_inj h1.symm
theorem clauseL_map_inj {c d : List (List Int)} (h : c.map clauseL = d.map clauseL) : c = d := map_inj_of (fun _ _ => clauseL_inj) h
/-! ### Clauses -/
open Classical in
noncomputable def clauseOf (v : Int) (s : List UInt8) : Option (List Int) := if h : ∃ c, clauseOk v c = true ∧ clauseL c = s then some h.choose else none
theorem clauseOf_text {v : Int} {c : List Int} (h : clauseOk v c = true) : clauseOf v (clauseL c) = some c := by
  have hx : ∃ d, clauseOk v d = true ∧ clauseL d = clauseL c := ⟨c, h, rfl⟩
  unfold clauseOf
  rw [dif_pos hx, clauseL_inj hx.choose_spec.2]
theorem clauseOf_some {v : Int} {s : List UInt8} {c : List Int} (h : clauseOf v s = some c) : clauseOk v c = true ∧ clauseL c = s := by
  unfold clauseOf at h
  split at h
  · rename_i hx
    injection h with h; subst h; exact hx.choose_spec
  · cases h
theorem clauseOf_no {v : Int} {s : List UInt8} (h : ∀ c, clauseOk v c = true → clauseL c ≠ s) : clauseOf v s = none := by
  unfold clauseOf
  rw [dif_neg]
  rintro ⟨c, h1, h2⟩; exact h c h1 h2
theorem clauseOf_yes {v : Int} {s : List UInt8} {c : List Int} (h : clauseOk v c = true) (e : clauseL c = s) : clauseOf v s = some c := by rw [← e]; exact clauseOf_text h
theorem clauseOk_nil (v : Int) : clauseOk v [] = within v 0 12 := by simp [clauseOk]
theorem clauseOf_none_yes {v : Int} (h : within v 0 12 = true) : clauseOf v [110, 111, 110, 101] = some [] := clauseOf_yes (by rw [clauseOk_nil, h]) clauseL_nil
theorem clauseOf_none_no {v : Int} (h : within v 0 12 = false) : clauseOf v [110, 111, 110, 101] = none := clauseOf_no fun c hc e => by
  have := clauseL_none e
  subst this
  rw [clauseOk_nil, h] at hc
  cases hc
theorem clauseOf_empty (v : Int) : clauseOf v [] = none := clauseOf_no fun c _ e => clauseL_ne c e
def Words (s : List UInt8) (ws : List (List UInt8)) : Prop := ∀ c : List Int, c ≠ [] → s = Lib.join (c.map Lib.itoa) [32] → ws = c.map Lib.itoa
theorem words_cut (s : List UInt8) : Words s (cutB 32 s) := fun c hc e => by
  rw [e]; exact cut_join _ (by simpa using hc) (itoas_no itoa_no32 c)
theorem words_split (s : List UInt8) : Words s (Lib.split s [32]) := fun c hc e => by
  rw [e]; exact split_join _ (by simpa using hc) (itoas_no itoa_no32 c)
theorem Words.clause {s : List UInt8} {ws : List (List UInt8)} (h : Words s ws) (hn : s ≠ [110, 111, 110, 101]) {c : List Int} (hc : clauseL c = s) : ws = c.map Lib.itoa := by
  have h0 : c ≠ [] := fun e => hn (by rw [← hc, e, clauseL_nil])
  exact h c h0 (by rw [← hc, clauseL_words h0])
theorem Words.no_word {v : Int} {s : List UInt8} {ws : List (List UInt8)} (h : Words s ws) (hn : s ≠ [110, 111, 110, 101]) {i : Nat} {t : List UInt8} (ht : ws[i]? = some t) (hno : numOf t = none) : clauseOf v s = none :=
  clauseOf_no fun c hc e => by
    have hw := h.clause hn e
    rw [hw, List.getElem?_map] at ht
    cases hx : c[i]? with
    | none => rw [hx] at ht; cases ht
    | some x =>
      rw [hx] at ht
      simp only [Option.map_some] at ht
      injection ht with ht
      subst ht
      obtain ⟨hv, hr, -⟩ := clause_facts hc
      have := hr x (List.mem_of_getElem? hx)
      rw [numOf_itoa (by omega)] at hno
      cases hno
theorem Words.no_len {v : Int} {s : List UInt8} {ws : List (List UInt8)} (h : Words s ws) (hn : s ≠ [110, 111, 110, 101]) (hl : 12 < ws.length) : clauseOf v s = none :=
  clauseOf_no fun c hc e => by
    have hw := h.clause hn e
    rw [hw, List.length_map] at hl
    have := clause_facts hc
    omega
theorem Words.no_out {v : Int} {s : List UInt8} {ws : List (List UInt8)} (h : Words s ws) (hn : s ≠ [110, 111, 110, 101]) {out : List Int} (ho : ws = out.map Lib.itoa) (hf : clauseOk v out = false) : clauseOf v s = none :=
  clauseOf_no fun c hc e => by
    have hw := h.clause hn e
    rw [ho] at hw
    rw [itoa_map_inj hw, hc] at hf
    cases hf
theorem Words.no_text {v : Int} {s : List UInt8} {ws : List (List UInt8)} (h : Words s ws) (hn : s ≠ [110, 111, 110, 101]) {out : List Int} (ho : ws = out.map Lib.itoa) (hf : clauseL out ≠ s) : clauseOf v s = none :=
  clauseOf_no fun c hc e => by
    have hw := h.clause hn e
    rw [ho] at hw
    rw [itoa_map_inj hw] at hf
    exact hf e
/-! ### Lists -/
open Classical in
noncomputable def listOf (v : Int) (s : List UInt8) : Option (List (List Int)) := if s = [] then some [] else if h : ∃ l : List (List Int), l ≠ [] ∧ l.length ≤ 60 ∧ (∀ c ∈ l, clauseOk v c = true) ∧ learnedL l = s then some h.choose else none
theorem listOf_nil (v : Int) : listOf v [] = some [] := by unfold listOf; rw [if_pos rfl]
theorem listOf_no {v : Int} {s : List UInt8} (hn : s ≠ []) (h : ∀ l : List (List Int), l ≠ [] → l.length ≤ 60 → (∀ c ∈ l, clauseOk v c = true) → learnedL l ≠ s) : listOf v s = none := by
  unfold listOf
  rw [if_neg hn, dif_neg]
  rintro ⟨l, h1, h2, h3, h4⟩; exact h l h1 h2 h3 h4
theorem clausesL_no59 (l : List (List Int)) : ∀ p ∈ l.map clauseL, (59 : UInt8) ∉ p := by
  intro p hp
  obtain ⟨x, _, rfl⟩ := List.mem_map.1 hp
  exact clauseL_no59 x
theorem learnedL_inj {l m : List (List Int)} (hl : l ≠ []) (hm : m ≠ []) (h : learnedL l = learnedL m) : l = m := by
  unfold learnedL at h
  have h1 := split_join (b := 59) (t := [32]) (l.map clauseL) (by simpa using hl) (clausesL_no59 l)
  rw [h, split_join (b := 59) (t := [32]) (m.map clauseL) (by simpa using hm) (clausesL_no59 m)] at h1
  exact clauseL_map_inj h1.symm
theorem listOf_yes {v : Int} {s : List UInt8} {l : List (List Int)} (h1 : l ≠ []) (h2 : l.length ≤ 60) (h3 : ∀ c ∈ l, clauseOk v c = true) (h4 : learnedL l = s) : listOf v s = some l := by
  have hn : s ≠ [] := fun e => by
    rw [e] at h4
    exact join_ne [59, 32] (clauses_ne l) (by simpa using h1) h4
  have hx : ∃ l : List (List Int), l ≠ [] ∧ l.length ≤ 60 ∧ (∀ c ∈ l, clauseOk v c = true) ∧ learnedL l = s := ⟨l, h1, h2, h3, h4⟩
  unfold listOf
  rw [if_neg hn, dif_pos hx]
  obtain ⟨g1, _, _, g4⟩ := hx.choose_spec
  rw [learnedL_inj g1 h1 (by rw [g4, h4])]
def Parts (s : List UInt8) (ps : List (List UInt8)) : Prop := ∀ l : List (List Int), l ≠ [] → learnedL l = s → ps = l.map clauseL
theorem parts_split (s : List UInt8) : Parts s (Lib.split s [59, 32]) := fun l hl e => by
  rw [← e]; exact split_join _ (by simpa using hl) (clausesL_no59 l)
def strip1 : List UInt8 → List UInt8
  | [] => []
  | c :: r => if c = 32 then r else c :: r
def strips : List (List UInt8) → List (List UInt8)
  | [] => []
  | p :: ps => p :: ps.map strip1
theorem cut_learned : ∀ (ps : List (List UInt8)) (p : List UInt8), (∀ q ∈ p :: ps, (59 : UInt8) ∉ q) → cutB 59 (Lib.join (p :: ps) [59, 32]) = p :: ps.map (fun q => 32 :: q)
  | [], p, h => by rw [Lib.join_one]; exact cut_one p (h p (by simp))
  | q :: r, p, h => by
    have ih := cut_learned r (32 :: q) (fun x hx => by
      rcases List.mem_cons.1 hx with rfl | hx
      · simp only [List.mem_cons, not_or]
        exact ⟨by decide, h q (by simp)⟩
      · exact h x (by simp [hx]))
    have hj : Lib.join ((32 :: q) :: r) [59, 32] = 32 :: Lib.join (q :: r) [59, 32] := by rw [Lib.join_cons, Lib.join_cons]; rfl
    rw [hj] at ih
    rw [join_two, List.append_assoc, show [59, 32] ++ Lib.join (q :: r) [59, 32] = 59 :: (32 :: Lib.join (q :: r) [59, 32]) from rfl, cut_app p (h p (by simp)), ih]
    rfl
theorem parts_strips (s : List UInt8) : Parts s (strips (cutB 59 s)) := fun l hl e => by
  cases l with
  | nil => exact absurd rfl hl
  | cons c cs =>
    rw [← e]
    unfold learnedL
    rw [List.map_cons, cut_learned _ _ (by
      intro q hq
      rw [← List.map_cons] at hq
      exact clausesL_no59 (c :: cs) q hq)]
    simp only [strips, List.map_map]
    congr 1
theorem strips_len : ∀ ps : List (List UInt8), (strips ps).length = ps.length
  | [] => rfl
  | _ :: _ => by simp [strips]
theorem strips_zero {ps : List (List UInt8)} {t : List UInt8} (h : ps[0]? = some t) : (strips ps)[0]? = some t := by
  cases ps with
  | nil => cases h
  | cons p r => exact h
theorem strips_succ {ps : List (List UInt8)} {i : Nat} {t : List UInt8} (hi : 0 < i) (h : ps[i]? = some t) : (strips ps)[i]? = some (strip1 t) := by
  cases ps with
  | nil => cases h
  | cons p r =>
    obtain ⟨k, rfl⟩ : ∃ k, i = k + 1 := ⟨i - 1, by omega⟩
    simp only [strips, List.getElem?_cons_succ, List.getElem?_map] at h ⊢
    rw [h]; rfl
theorem Parts.no_part {v : Int} {s : List UInt8} {ps : List (List UInt8)} (h : Parts s ps) (hn : s ≠ []) {i : Nat} {t : List UInt8} (ht : ps[i]? = some t) (hno : clauseOf v t = none) : listOf v s = none :=
  listOf_no hn fun l h1 h2 h3 e => by
    have hw := h l h1 e
    rw [hw, List.getElem?_map] at ht
    cases hx : l[i]? with
    | none => rw [hx] at ht; cases ht
    | some x =>
      rw [hx] at ht
      simp only [Option.map_some] at ht
      injection ht with ht
      subst ht
      rw [clauseOf_text (h3 x (List.mem_of_getElem? hx))] at hno
      cases hno
theorem Parts.no_len {v : Int} {s : List UInt8} {ps : List (List UInt8)} (h : Parts s ps) (hn : s ≠ []) (hl : 60 < ps.length) : listOf v s = none :=
  listOf_no hn fun l h1 h2 h3 e => by
    have hw := h l h1 e
    rw [hw, List.length_map] at hl
    omega
theorem Parts.no_text {v : Int} {s : List UInt8} {ps : List (List UInt8)} (h : Parts s ps) (hn : s ≠ []) {out : List (List Int)} (ho : ps = out.map clauseL) (hf : learnedL out ≠ s) : listOf v s = none :=
  listOf_no hn fun l h1 h2 h3 e => by
    have hw := h l h1 e
    rw [ho] at hw
    rw [clauseL_map_inj hw] at hf
    exact hf e
end Go.Proofs.YtjlnlicojcfpiaaDoor
