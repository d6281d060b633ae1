/-
  Reading numerals, clauses and lists of clauses back from their texts, in plain Lean; no condition.
-/
import Derived.Test.YtjlnlicojcfpiaaDoorT6
import Derived.Lib.Split
import Derived.Lib.CountLaws
import Derived.Lib.IndexLaws
namespace Go.Proofs.YtjlnlicojcfpiaaDoor
set_option linter.unusedSimpArgs false
set_option linter.unusedVariables false
open Go.RowKit
/-! ### Numerals -/
theorem digits_all (u : Nat) : ∀ b ∈ Lib.decDigits u, 48 ≤ b.toNat ∧ b.toNat ≤ 57 := by
  induction u using Nat.strongRecOn with
  | ind u ih =>
    intro b hb
    by_cases h : u < 10
    · rw [Lib.decDigits, dif_pos h] at hb
      simp only [List.mem_singleton] at hb
      subst hb
      rw [UInt8.toNat_ofNat']
      omega
    · rw [Lib.decDigits, dif_neg h] at hb
      rcases List.mem_append.1 hb with hb | hb
      · exact ih (u / 10) (by omega) b hb
      · simp only [List.mem_singleton] at hb
        subst hb
        rw [UInt8.toNat_ofNat']
        omega
theorem itoa_bytes (n : Int) : ∀ b ∈ Lib.itoa n, b = 45 ∨ (48 ≤ b.toNat ∧ b.toNat ≤ 57) := by
  intro b hb
  unfold Lib.itoa at hb
  split at hb
  · rcases List.mem_cons.1 hb with rfl | hb
    · exact .inl rfl
    · exact .inr (digits_all _ b hb)
  · exact .inr (digits_all _ b hb)
theorem itoa_no (n : Int) {c : UInt8} (hc : c ≠ 45) (h : c.toNat < 48 ∨ 57 < c.toNat) : c ∉ Lib.itoa n := by
  intro hm
  rcases itoa_bytes n c hm with h1 | h1
  · exact hc h1
  · omega
def valF (acc : Nat) (l : List UInt8) : Nat := l.foldl (fun a b => 10 * a + (b.toNat - 48)) acc
theorem val_digits (u : Nat) : valF 0 (Lib.decDigits u) = u := by
  induction u using Nat.strongRecOn with
  | ind u ih =>
    by_cases h : u < 10
    · rw [Lib.decDigits, dif_pos h]
      simp only [valF, List.foldl_cons, List.foldl_nil]
      rw [UInt8.toNat_ofNat']; omega
    · rw [Lib.decDigits, dif_neg h]
      have h1 := ih (u / 10) (by omega)
      unfold valF at h1 ⊢
      rw [List.foldl_append, h1]
      simp only [List.foldl_cons, List.foldl_nil]
      rw [UInt8.toNat_ofNat']; omega
theorem digits_head (u : Nat) : ∀ b, (Lib.decDigits u).head? = some b → b ≠ 45 := by
  intro b hb e
  have := digits_all u b (List.mem_of_mem_head? (by rw [hb]; rfl))
  subst e
  simp at this
theorem itoa_inj {m n : Int} (h : Lib.itoa m = Lib.itoa n) : m = n := by
  unfold Lib.itoa at h
  split at h <;> split at h
  · injection h with _ h
    have := congrArg (valF 0) h
    rw [val_digits, val_digits] at this; omega
  · exfalso
    exact digits_head n.toNat 45 (by rw [← h]; rfl) rfl
  · exfalso
    exact digits_head m.toNat 45 (by rw [h]; rfl) rfl
  · have := congrArg (valF 0) h
    rw [val_digits, val_digits] at this; omega
open Classical in
noncomputable def numOf (t : List UInt8) : Option Int := if h : ∃ m : Int, (-999999 ≤ m ∧ m ≤ 999999) ∧ Lib.itoa m = t then some h.choose else none
theorem numOf_itoa {m : Int} (h : -999999 ≤ m ∧ m ≤ 999999) : numOf (Lib.itoa m) = some m := by
  have hx : ∃ k : Int, (-999999 ≤ k ∧ k ≤ 999999) ∧ Lib.itoa k = Lib.itoa m := ⟨m, h, rfl⟩
  unfold numOf
  rw [dif_pos hx, itoa_inj hx.choose_spec.2]
theorem numOf_some {t : List UInt8} {m : Int} (h : numOf t = some m) : (-999999 ≤ m ∧ m ≤ 999999) ∧ Lib.itoa m = t := by
  unfold numOf at h
  split at h
  · rename_i hx
    injection h with h; subst h; exact hx.choose_spec
  · cases h
theorem numOf_none {t : List UInt8} (h : ∀ m : Int, -999999 ≤ m ∧ m ≤ 999999 → Lib.itoa m ≠ t) : numOf t = none := by
  unfold numOf
  rw [dif_neg]
  rintro ⟨m, h1, h2⟩; exact h m h1 h2
/-! ### Pieces between one byte -/
def cutB (b : UInt8) : List UInt8 → List (List UInt8)
  | [] => [[]]
  | c :: r => if c = b then [] :: cutB b r else (match cutB b r with | [] => [[c]] | p :: ps => (c :: p) :: ps)
theorem cut_ne (b : UInt8) : ∀ s, cutB b s ≠ []
  | [] => by simp [cutB]
  | c :: r => by
    simp only [cutB]
    split
    · simp
    · split <;> simp
theorem cut_app {b : UInt8} : ∀ (p : List UInt8), b ∉ p → ∀ s, cutB b (p ++ b :: s) = p :: cutB b s
  | [], _, s => by simp [cutB]
  | c :: p, h, s => by
    simp only [List.mem_cons, not_or] at h
    rw [List.cons_append]
    simp only [cutB]
    rw [if_neg (fun e => h.1 e.symm), cut_app p h.2 s]
theorem cut_one {b : UInt8} : ∀ (p : List UInt8), b ∉ p → cutB b p = [p]
  | [], _ => rfl
  | c :: p, h => by
    simp only [List.mem_cons, not_or] at h
    simp only [cutB]
    rw [if_neg (fun e => h.1 e.symm), cut_one p h.2]
theorem join_two (x y : List UInt8) (r : List (List UInt8)) (sep : List UInt8) : Lib.join (x :: y :: r) sep = x ++ sep ++ Lib.join (y :: r) sep := by
  rw [Lib.join_cons, Lib.join_cons]
  simp [Lib.joinTail]
theorem cut_join {b : UInt8} : ∀ (ps : List (List UInt8)), ps ≠ [] → (∀ p ∈ ps, b ∉ p) → cutB b (Lib.join ps [b]) = ps
  | [], h, _ => absurd rfl h
  | [p], _, h => by rw [Lib.join_one]; exact cut_one p (h p (by simp))
  | p :: q :: r, _, h => by
    rw [join_two, List.append_assoc, List.singleton_append, cut_app p (h p (by simp)), cut_join (q :: r) (by simp) (fun x hx => h x (by simp [hx]))]
theorem cut_snoc {b : UInt8} : ∀ (p : List UInt8) (done : List (List UInt8)) (cur : List UInt8), cutB b p = done ++ [cur] → ∀ c, cutB b (p ++ [c]) = if c = b then done ++ [cur, []] else done ++ [cur ++ [c]]
  | [], done, cur, h, c => by
    simp only [cutB] at h
    cases done with
    | nil =>
      simp only [List.nil_append, List.cons.injEq, and_true] at h
      subst h
      simp only [List.nil_append, cutB]
    | cons d ds => simp at h
  | x :: p, done, cur, h, c => by
    simp only [cutB] at h
    rw [List.cons_append]
    simp only [cutB]
    by_cases hx : x = b
    · rw [if_pos hx] at h ⊢
      cases done with
      | nil =>
        simp only [List.nil_append, List.cons.injEq] at h
        exact absurd h.2 (cut_ne b p)
      | cons d ds =>
        simp only [List.cons_append, List.cons.injEq] at h
        obtain ⟨rfl, h⟩ := h
        rw [cut_snoc p ds cur h c]
        by_cases hc : c = b
        · rw [if_pos hc, if_pos hc]; simp
        · rw [if_neg hc, if_neg hc]; simp
    · rw [if_neg hx] at h ⊢
      cases hp : cutB b p with
      | nil => exact absurd hp (cut_ne b p)
      | cons y ys =>
        rw [hp] at h
        simp only at h
        cases done with
        | nil =>
          simp only [List.nil_append, List.cons.injEq] at h
          obtain ⟨rfl, rfl⟩ := h
          rw [cut_snoc p [] y (by rw [hp]; rfl) c]
          by_cases hc : c = b
          · rw [if_pos hc, if_pos hc]; simp
          · rw [if_neg hc, if_neg hc]; simp
        | cons d ds =>
          simp only [List.cons_append, List.cons.injEq] at h
          obtain ⟨rfl, h⟩ := h
          rw [cut_snoc p (y :: ds) cur (by rw [hp, h]; rfl) c]
          by_cases hc : c = b
          · rw [if_pos hc, if_pos hc]; simp
          · rw [if_neg hc, if_neg hc]; simp
/-! ### Pieces between a text -/
theorem index_app {b : UInt8} {t : List UInt8} : ∀ (p : List UInt8), b ∉ p → ∀ s, Lib.index (p ++ (b :: t) ++ s) (b :: t) = (p.length : Int)
  | [], _, s => by
    rw [List.nil_append, List.cons_append]
    unfold Lib.index
    rw [if_pos]
    · rfl
    · simp [List.isPrefixOf_iff_prefix]
  | c :: p, h, s => by
    simp only [List.mem_cons, not_or] at h
    have ih := index_app (t := t) p h.2 s
    rw [List.cons_append, List.cons_append]
    unfold Lib.index
    rw [if_neg, ih, if_neg]
    · simp
    · intro e; have := beq_iff_eq.1 e; omega
    · intro e
      rw [List.isPrefixOf_iff_prefix] at e
      obtain ⟨r, hr⟩ := e
      rw [List.cons_append] at hr
      injection hr with h1 _
      exact h.1 h1
theorem index_no {b : UInt8} {t : List UInt8} : ∀ (p : List UInt8), b ∉ p → Lib.index p (b :: t) = -1
  | [], _ => rfl
  | c :: p, h => by
    simp only [List.mem_cons, not_or] at h
    unfold Lib.index
    rw [if_neg, index_no p h.2]
    · rfl
    intro e
    rw [List.isPrefixOf_iff_prefix] at e
    obtain ⟨r, hr⟩ := e
    rw [List.cons_append] at hr
    injection hr with h1 _
    exact h.1 h1
theorem split_join {b : UInt8} {t : List UInt8} : ∀ (ps : List (List UInt8)), ps ≠ [] → (∀ p ∈ ps, b ∉ p) → Lib.split (Lib.join ps (b :: t)) (b :: t) = ps
  | [], h, _ => absurd rfl h
  | [p], _, h => by
    rw [Lib.join_one]
    unfold Lib.split
    rw [Lib.count_miss (index_no p (h p (by simp)))]
    rfl
  | p :: q :: r, _, h => by
    have ih := split_join (t := t) (q :: r) (by simp) (fun x hx => h x (by simp [hx]))
    rw [join_two]
    have hi := index_app (t := t) p (h p (by simp)) (Lib.join (q :: r) (b :: t))
    unfold Lib.split at ih ⊢
    have hd : (p ++ (b :: t) ++ Lib.join (q :: r) (b :: t)).drop (p.length + (b :: t).length) = Lib.join (q :: r) (b :: t) := by
      rw [← List.length_append]; exact List.drop_left
    rw [Lib.count_hit (by simp) hi, Nat.add_comm 1, Lib.splitK, hd, if_neg (by rw [hi]; intro e; have := beq_iff_eq.1 e; omega), hi]
    simp only [Int.toNat_natCast, Nat.add_zero]
    rw [hd, ih, List.append_assoc]
    congr 1
    exact List.take_left
theorem index_parts : ∀ (s sub : List UInt8), Lib.index s sub ≠ -1 → s.take (Lib.index s sub).toNat ++ sub ++ s.drop ((Lib.index s sub).toNat + sub.length) = s
  | [], sub, h => by
    unfold Lib.index at h ⊢
    split
    · rename_i he
      have : sub = [] := by simpa using he
      subst this; rfl
    · rename_i he; rw [if_neg he] at h; exact absurd rfl h
  | c :: s, sub, h => by
    by_cases hp : sub.isPrefixOf (c :: s) = true
    · have e : Lib.index (c :: s) sub = 0 := by unfold Lib.index; rw [if_pos hp]
      rw [e]
      obtain ⟨r, hr⟩ := List.isPrefixOf_iff_prefix.1 hp
      rw [← hr]
      simp
    · have e0 : Lib.index (c :: s) sub = if Lib.index s sub == -1 then -1 else Lib.index s sub + 1 := by
        conv => lhs; unfold Lib.index
        rw [if_neg hp]
      by_cases h1 : (Lib.index s sub == -1) = true
      · rw [e0, if_pos h1] at h; exact absurd rfl h
      · rw [if_neg h1] at e0
        have hn : Lib.index s sub ≠ -1 := fun e => h1 (by rw [e]; rfl)
        have ih := index_parts s sub hn
        have hge := Lib.index_ge s sub
        obtain ⟨k, hk⟩ := int_nat (show 0 ≤ Lib.index s sub by omega)
        rw [hk] at ih e0
        rw [e0, show ((k : Int) + 1).toNat = k + 1 by omega]
        rw [Int.toNat_natCast] at ih
        rw [List.take_succ_cons, show k + 1 + sub.length = (k + sub.length) + 1 by omega, List.drop_succ_cons, List.cons_append, List.cons_append, ih]
theorem splitK_ne (sep : List UInt8) : ∀ (k : Nat) (s : List UInt8), Lib.splitK sep 0 k s ≠ []
  | 0, s => by simp [Lib.splitK]
  | k + 1, s => by simp only [Lib.splitK]; split <;> simp
theorem join_splitK (sep : List UInt8) : ∀ (k : Nat) (s : List UInt8), Lib.join (Lib.splitK sep 0 k s) sep = s
  | 0, s => by simp only [Lib.splitK]; exact Lib.join_one _ _
  | k + 1, s => by
    simp only [Lib.splitK]
    split
    · exact Lib.join_one _ _
    · rename_i h
      have hn : Lib.index s sep ≠ -1 := fun e => h (by rw [e]; rfl)
      have ih := join_splitK sep k (s.drop ((Lib.index s sep).toNat + sep.length))
      cases hq : Lib.splitK sep 0 k (s.drop ((Lib.index s sep).toNat + sep.length)) with
      | nil => exact absurd hq (splitK_ne sep k _)
      | cons y ys =>
        rw [hq] at ih
        rw [join_two, ih, Nat.add_zero]
        exact index_parts s sep hn
end Go.Proofs.YtjlnlicojcfpiaaDoor
