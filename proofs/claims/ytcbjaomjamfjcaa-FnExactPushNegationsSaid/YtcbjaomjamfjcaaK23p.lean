/-
  Folding, lemmas that both texts' walks share; no condition.
-/
import Derived.Test.YtcbjaomjamfjcaaK19
namespace Go.Proofs.Ytcbjaomjamfjcaa
set_option linter.unusedSimpArgs false
set_option linter.unusedVariables false
open Go.RowKit

theorem fold_ts {B : List Int} {n k : Nat} {x : Int} (hB : B.length = k) (hk : k < n) : (B ++ List.replicate (n - k) (0 : Int)).set k x = (B ++ [x]) ++ List.replicate (n - (k + 1)) 0 := by
  rw [show n - k = (n - (k + 1)) + 1 by omega, List.replicate_succ]
  simp [List.set_append, hB]
theorem moveG_kind (f : Int → Int) (k a b : Int) : ∃ q2 q3, moveG f (k, a, b) = (k, q2, q3) := by
  unfold moveG
  split
  · exact ⟨_, _, rfl⟩
  · split
    · exact ⟨_, _, rfl⟩
    · exact ⟨_, _, rfl⟩
theorem fold_succ {gs K : List Gt} {B : List Int} {k : Nat} {g q : Gt} (hP : foldTo gs k = (K, B)) (hx : Hid (gs[k]? = some g)) (hq : moveG (fun x => B.getD x.toNat 0) g = q) :
    foldTo gs (k + 1) = ((foldAt K q).2, B ++ [(foldAt K q).1]) := by
  simp only [foldTo, hP, getD_of hx, hq]
theorem fold_fit {gs K : List Gt} {B : List Int} {k : Nat} {g : Gt} (hg : GoodG gs) (hok : FoldOk K B k) (hx : Hid (gs[k]? = some g)) : FitG K (moveG (fun x => B.getD x.toNat 0) g) := by
  have hgk := hg k _ hx.out
  refine moveG_fit ⟨hgk.1, hgk.2.2⟩ (fun x hxi => ?_)
  have h1 := hgk.2.1 x hxi
  have h2 : B[x.toNat]? = some (B[x.toNat]'(by rw [hok.len]; omega)) := List.getElem?_eq_getElem _
  rw [List.getD_eq_getElem?_getD, h2]
  exact hok.rng _ (List.getElem_mem _)
theorem fold_ins {gs K : List Gt} {B : List Int} {k n : Nat} {g : Gt} (hg : GoodG gs) (hok : FoldOk K B k) (hx : Hid (gs[k]? = some g)) : ∀ x ∈ insG g, ∃ j : Nat, x = j ∧ (B ++ List.replicate (n - k) (0 : Int))[j]? = some (B.getD x.toNat 0) := by
  intro x hxi
  have h1 := (hg k _ hx.out).2.1 x hxi
  have hl := hok.len
  refine ⟨x.toNat, by omega, ?_⟩
  have h2 : B[x.toNat]? = some (B[x.toNat]'(by omega)) := List.getElem?_eq_getElem _
  rw [List.getElem?_append_left (by omega), List.getD_eq_getElem?_getD, h2]; rfl
theorem Own.capK {w : World} {base : Nat} {e : TypeId} {size : Nat} {A : Option Addr} {n c : Nat} {us : List Value} (h : Own w base e size A n c us) : n ≤ c := by
  rcases h.2 with ⟨hv, hn⟩ | ⟨g, cap, cur, hv, hb, hh, h1, h2, h3, h4⟩
  · omega
  · injection hv with e1 e2 e3
    omega
theorem Gates.take {w : World} {A : Option Addr} {n : Nat} {gs : List Gt} (h : Gates w A n gs) (m : Nat) (hm : m ≤ n) : Gates w A m (gs.take m) :=
  ⟨by have := h.len; simp; omega, by have := h.bound; omega, fun h0 => by
    obtain ⟨g, e, hc⟩ := h.reads (by omega)
    refine ⟨g, e, fun i x hx => hc i x ?_⟩
    rw [List.getElem?_take] at hx
    split at hx
    · exact hx
    · cases hx⟩
theorem foldAt_4 {K : List Gt} {a b : Int} {c1 c2 c3 : Int} (h : Hid (K[a.toNat]? = some (c1, c2, c3))) : foldAt K (4, a, b) = (if c1 = 2 then keepG K (3, 0, 0) else if c1 = 3 then keepG K (2, 0, 0) else if c1 = 4 then (c2, K) else keepG K (4, a, b)) := by
  simp only [foldAt, getD_of h, if_true]
theorem foldAt_5' {gs : List Gt} {a b : Int} : foldAt gs (5, a, b) = (if sameG gs a b 3 2 < 0 then keepG gs (5, a, b) else (sameG gs a b 3 2, gs)) := by simp [foldAt]
theorem foldAt_6' {gs : List Gt} {a b : Int} : foldAt gs (6, a, b) = (if sameG gs a b 2 3 < 0 then keepG gs (6, a, b) else (sameG gs a b 2 3, gs)) := by simp [foldAt]
theorem foldAt_no' {gs : List Gt} {k a b : Int} (h4 : k ≠ 4) (h5 : k ≠ 5) (h6 : k ≠ 6) : foldAt gs (k, a, b) = keepG gs (k, a, b) := by simp [foldAt, h4, h5, h6]
end Go.Proofs.Ytcbjaomjamfjcaa
