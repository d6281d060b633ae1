/-
  The finished tables obey their own rule; a variable by which the size is what it is.
-/
import Derived.Test.YtmpfhibncnamnaaC46
namespace Go.Proofs.Ytmpfhibncnamnaa
set_option linter.unusedSimpArgs false
set_option linter.unusedVariables false
open Go.RowKit

theorem Tab.at_put_eq {T : Tab} {N i : Nat} (h : T.Full N) (hi : i < N) (c : Int × Int × Int) : (T.put i c).at_ i = c := by
  simp only [Tab.at_, Tab.put]
  rw [getD_set_eq _ (by rw [h.sc]; exact hi), getD_set_eq _ (by rw [h.sz]; exact hi), getD_set_eq _ (by rw [h.ht]; exact hi)]
theorem gTab_high (n : Nat) (cls : List (List Int)) (m code : Nat) (hc : code < pow3 n) (hm : pow3 n ≤ code + m) : ∀ k, m + k ≤ pow3 n → (gTab n cls (m + k)).at_ code = (gTab n cls m).at_ code
  | 0, _ => rfl
  | k + 1, hk => by
    rw [← Nat.add_assoc, gTab, Tab.at_put_ne _ (by omega)]
    exact gTab_high n cls m code hc hm k (by omega)
theorem gOne_congr {T T' : Tab} {code v : Nat} (h1 : T.at_ (gNo code v) = T'.at_ (gNo code v)) (h2 : T.at_ (gYes code v) = T'.at_ (gYes code v)) : gOne T code v = gOne T' code v := by
  simp only [Tab.at_, Prod.mk.injEq] at h1 h2
  obtain ⟨a1, a2, a3⟩ := h1
  obtain ⟨b1, b2, b3⟩ := h2
  simp only [gOne, a1, a2, a3, b1, b2, b3]
theorem gSt_congr {T T' : Tab} {code : Nat} {vs : List Nat} (h : ∀ v ∈ vs, gOne T code v = gOne T' code v) : gSt T code vs = gSt T' code vs := by
  unfold gSt
  generalize (true, ((0 : Int), (0 : Int), (0 : Int))) = s
  induction vs generalizing s with
  | nil => rfl
  | cons v vs ih =>
    simp only [List.foldl_cons]
    rw [h v (by simp)]
    exact ih (fun u hu => h u (by simp [hu])) _
theorem gAll_row {n code : Nat} (cls : List (List Int)) (hc : code < pow3 n) : (gAll n cls).at_ code = gRow n cls (gAll n cls) code := by
  obtain ⟨m, hm⟩ : ∃ m, pow3 n = code + 1 + m := ⟨pow3 n - (code + 1), by omega⟩
  have hhigh : ∀ i, code < i → i < pow3 n → (gTab n cls m).at_ i = (gAll n cls).at_ i := by
    intro i h1 h2
    have := gTab_high n cls m i h2 (by omega) (code + 1) (by omega)
    rw [gAll, show pow3 n = m + (code + 1) by omega, this]
  have h1 : (gAll n cls).at_ code = (gTab n cls (m + 1)).at_ code := by
    have := gTab_high n cls (m + 1) code hc (by omega) code (by omega)
    rw [gAll, show pow3 n = m + 1 + code by omega, this]
  have hrow : gRow n cls (gTab n cls m) code = gRow n cls (gAll n cls) code := by
    unfold gRow
    split
    · rfl
    · rw [gSt_congr (T' := gAll n cls)]
      intro v hv
      have hvo := List.mem_filter.1 hv
      have hcodes := open_codes hc (mem_varsTo hvo.1) hvo.2
      exact gOne_congr (hhigh _ (by omega) (by omega)) (hhigh _ (by omega) (by omega))
  rw [h1, gTab, show pow3 n - 1 - m = code by omega, Tab.at_put_eq (gTab_full n cls m) hc, hrow]
theorem gSt_size {T : Tab} {code : Nat} : ∀ vs : List Nat, vs ≠ [] → ∃ v ∈ vs, (gSt T code vs).2.2.1 = (gOne T code v).2.1 := by
  intro vs
  induction hn : vs.length generalizing vs with
  | zero => intro h; exact absurd (List.eq_nil_of_length_eq_zero hn) h
  | succ k ih =>
    intro _
    rcases List.eq_nil_or_concat vs with rfl | ⟨us, v, rfl⟩
    · simp at hn
    · rw [List.concat_eq_append] at hn ⊢
      rw [gSt_snoc]
      simp only [gLess]
      split
      · exact ⟨v, by simp, rfl⟩
      · rename_i hf
        have hus : us ≠ [] := by
          rintro rfl
          simp [gSt] at hf
        obtain ⟨u, hu, he⟩ := ih us (by simp at hn; exact hn) hus
        exact ⟨u, by simp [hu], he⟩
/-! ### Bits out of an assignment -/
def bitsOf : List Bool → Nat
  | [] => 0
  | b :: bs => (if b then 1 else 0) + 2 * bitsOf bs
theorem bitsOf_test : ∀ (bs : List Bool) (i : Nat), (bitsOf bs).testBit i = bs.getD i false
  | [], i => by simp [bitsOf]
  | b :: bs, 0 => by
    rw [Nat.testBit_zero, bitsOf]
    cases b <;> simp <;> omega
  | b :: bs, i + 1 => by
    rw [Nat.testBit_succ, bitsOf]
    have : ((if b = true then 1 else 0) + 2 * bitsOf bs) / 2 = bitsOf bs := by split <;> omega
    rw [this, bitsOf_test bs i]; simp
theorem bitsOf_lt : ∀ bs : List Bool, bitsOf bs < 2 ^ bs.length
  | [] => by simp [bitsOf]
  | b :: bs => by
    have := bitsOf_lt bs
    simp only [bitsOf, List.length_cons, Nat.pow_succ]
    split <;> omega
theorem risesL_inj : ∀ (c : List Int) (lo : Nat), risesL lo c → ∀ x ∈ c, ∀ y ∈ c, x.natAbs = y.natAbs → x = y
  | z :: r, lo, h, x, hx, y, hy, he => by
    have hr := risesL_all r _ h.2
    simp only [List.mem_cons] at hx hy
    rcases hx with rfl | hx <;> rcases hy with rfl | hy
    · rfl
    · have := hr y hy; omega
    · have := hr x hx; omega
    · exact risesL_inj r _ h.2 x hx y hy he
theorem hasInt_mem {x : Int} {a : List Int} : hasInt x a = true ↔ x ∈ a := by
  rw [hasInt, List.any_eq_true]
  constructor
  · rintro ⟨y, hy, he⟩; rw [← eq_of_beq he]; exact hy
  · exact fun h => ⟨x, h, by simp⟩
theorem clVal_neg {a : List Int} : ∀ (c : List Int), (∀ x ∈ c, hasInt x a = false) → (∀ x ∈ c, hasInt (-x) a = true) → ∀ t, clGo a c t = t
  | [], _, _, _ => rfl
  | x :: c, h1, h2, t => by
    have e1 : a.any (· == x) = false := h1 x (by simp)
    have e2 : a.any (· == -x) = true := h2 x (by simp)
    rw [clGo, e1, e2]
    exact clVal_neg c (fun y hy => h1 y (by simp [hy])) (fun y hy => h2 y (by simp [hy])) t
/-- An assignment that leaves no variable open and makes no clause false: the cnf has a model. -/
theorem total_sat {n : Nat} {cls : List (List Int)} {a : List Int} (hr : risesL 0 a) (hcls : ∀ c ∈ cls, ∀ x ∈ c, -(n : Int) ≤ x ∧ x ≤ n ∧ x ≠ 0) (hop : openList n a = []) (hf : falseAny cls a = false) : satB n cls = true := by
  have hopen : ∀ v : Nat, 1 ≤ v → v ≤ n → (v : Int) ∈ a ∨ -(v : Int) ∈ a := by
    intro v h1 h2
    have hmem : ¬ (v : Int) ∈ openList n a := by rw [hop]; simp
    have hup : (v : Int) ∈ upFrom 1 n := by
      simp only [upFrom, List.mem_map, List.mem_range]; exact ⟨v - 1, by omega, by omega⟩
    have ho : openL a v = false := by
      cases h : openL a (v : Int)
      · rfl
      · exact absurd (List.mem_filter.2 ⟨hup, h⟩) hmem
    rw [openL_has] at ho
    rcases Bool.and_eq_false_iff.1 ho with h | h
    · exact .inl (hasInt_mem.1 (by simpa using h))
    · exact .inr (hasInt_mem.1 (by simpa using h))
  refine any_range_true (k := bitsOf ((List.range n).map fun i : Nat => hasInt ((i : Int) + 1) a)) (by have := bitsOf_lt ((List.range n).map fun i : Nat => hasInt ((i : Int) + 1) a); simpa using this) ?_
  rw [allTrue, List.all_eq_true]
  intro c hc
  have hcv : ¬ clVal c a < 0 := by
    have := List.any_eq_false.1 hf c hc
    simpa using this
  have hlit : ∃ x ∈ c, x ∈ a := by
    refine Decidable.byContradiction fun hno => hcv ?_
    have h1 : ∀ x ∈ c, hasInt x a = false := by
      intro x hx
      cases h : hasInt x a
      · rfl
      · exact absurd ⟨x, hx, hasInt_mem.1 h⟩ hno
    have h2 : ∀ x ∈ c, hasInt (-x) a = true := by
      intro x hx
      have hxr := hcls c hc x hx
      rw [hasInt_mem]
      have hna : x ∉ a := fun h => hno ⟨x, hx, h⟩
      rcases hopen x.natAbs (by omega) (by omega) with h | h
      · by_cases hp : 0 < x
        · rw [show ((x.natAbs : Nat) : Int) = x by omega] at h; exact absurd h hna
        · rwa [show ((x.natAbs : Nat) : Int) = -x by omega] at h
      · by_cases hp : 0 < x
        · rwa [show (-(x.natAbs : Int)) = -x by omega] at h
        · rw [show (-(x.natAbs : Int)) = x by omega] at h; exact absurd h hna
    rw [clVal, clVal_neg c h1 h2]; decide
  obtain ⟨x, hx, hxa⟩ := hlit
  rw [clTrue, List.any_eq_true]
  refine ⟨x, hx, ?_⟩
  have hxr := hcls c hc x hx
  have hget : ((List.range n).map fun i : Nat => hasInt ((i : Int) + 1) a).getD (x.natAbs - 1) false = hasInt ((x.natAbs : Nat) : Int) a := by
    rw [List.getD_eq_getElem?_getD, List.getElem?_map, List.getElem?_range (by omega)]
    simp only [Option.map_some, Option.getD_some]
    congr 1; omega
  rw [litTrue, bitsOf_test, hget]
  by_cases hp : 0 < x
  · rw [show ((x.natAbs : Nat) : Int) = x by omega, hasInt_mem.2 hxa]; simp [hp]
  · have hno : hasInt ((x.natAbs : Nat) : Int) a = false := by
      cases h : hasInt ((x.natAbs : Nat) : Int) a
      · rfl
      · have := risesL_inj a 0 hr _ (hasInt_mem.1 h) x hxa (by omega)
        omega
    rw [hno]; simp [hp]
end Go.Proofs.Ytmpfhibncnamnaa
