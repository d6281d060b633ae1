/-
  ForgetVar: helpers of the program; no condition.
-/
import Derived.Test.YtaigjmbhgpcalaaF13
import Derived.Test.YtaigjmbhgpcalaaC42
import Derived.Test.YtaigjmbhgpcalaaC14
import Derived.Test.YtaigjmbhgpcalaaF17

namespace Go.Proofs.Ytaigjmbhgpcalaa
set_option linter.unusedSimpArgs false
set_option linter.unusedVariables false
open Go.RowKit
def memOk (v W : Int) (cls : List (List Int)) (l : List (List Int)) (a : List Int) : Bool := famR v W cls l && memC l a
theorem famR_clause {v W : Int} {cls : List (List Int)} {l : List (List Int)} (h : famR v W cls l = true) : ∀ b ∈ l, clauseOk v b = true := by
  obtain ⟨h1, h2⟩ := and2_true h
  obtain ⟨u, rfl, hu⟩ := nar_nat h1
  rw [show ((u : Nat) : Int).toNat = u by omega] at h2
  exact (famA_facts (and2_true h2).1).1
theorem memOk_clause {v W : Int} {cls : List (List Int)} {l : List (List Int)} {a : List Int} (h : memOk v W cls l a = true) : clauseOk v a = true := by
  obtain ⟨h1, h2⟩ := and2_true h
  exact famR_clause h1 a (memC_iff.1 h2)
end Go.Proofs.Ytaigjmbhgpcalaa

/-
  ForgetVar on both sides; no condition.
-/
namespace Go.Proofs.Ytaigjmbhgpcalaa
set_option linter.unusedSimpArgs false
set_option linter.unusedVariables false
open Go.RowKit
theorem clause_small' {v : Int} {c : List Int} (h : clauseOk v c = true) : Small c := by
  obtain ⟨hv, hr, _⟩ := clause_facts h
  intro x hx
  have := hr x hx
  omega
def takeOk (v W : Int) (cls : List (List Int)) (l : List (List Int)) (a : List Int) (u : Int) : Bool := memOk v W cls l a && within u 1 v
def fgOk (v W : Int) (cls : List (List Int)) (l : List (List Int)) (a : List Int) (u : Int) : Bool := takeOk v W cls l a u && !openL a u
theorem famR_facts {v W : Int} {cls : List (List Int)} {l : List (List Int)} (h : famR v W cls l = true) : (∀ b ∈ l, clauseOk v b = true) ∧ Asc l := by
  obtain ⟨h1, h2⟩ := and2_true h
  obtain ⟨u, rfl, hu⟩ := nar_nat h1
  rw [show ((u : Nat) : Int).toNat = u by omega] at h2
  exact famA_facts (and2_true h2).1
theorem takeOk_no {v W : Int} {cls : List (List Int)} {l : List (List Int)} {a : List Int} {u : Int} (h : famR v W cls l = false) : takeOk v W cls l a u = false := by unfold takeOk memOk; rw [h]; rfl
end Go.Proofs.Ytaigjmbhgpcalaa

/-
  The reference's RestrictFamily; no condition.
-/
namespace Go.Proofs.Ytaigjmbhgpcalaa
set_option linter.unusedSimpArgs false
set_option linter.unusedVariables false
open Go.RowKit
def restOk (v W : Int) (cls : List (List Int)) (l : List (List Int)) (t : Int) : Bool := famR v W cls l && isLit v t
theorem asc_last {l : List (List Int)} {c : List Int} (h : Asc (l ++ [c])) : Asc l ∧ ∀ x ∈ l, befC x c = true := by
  refine ⟨fun i j p q hij hp hq => h i j p q hij ?_ ?_, fun x hx => ?_⟩
  · rw [List.getElem?_append_left (List.getElem?_eq_some_iff.1 hp).1]; exact hp
  · rw [List.getElem?_append_left (List.getElem?_eq_some_iff.1 hq).1]; exact hq
  · obtain ⟨i, hi, rfl⟩ := List.getElem_of_mem hx
    refine h i l.length _ _ hi ?_ (by simp)
    rw [List.getElem?_append_left hi, List.getElem?_eq_getElem hi]
theorem asc_take {l : List (List Int)} (h : Asc l) (i : Nat) : Asc (l.take i) := by
  intro a b p q hab hp hq
  rw [List.getElem?_take] at hp hq
  split at hp
  · split at hq
    · exact h a b p q hab hp hq
    · cases hq
  · cases hp
theorem wout_mem {a : List Int} {u x : Int} (h : x ∈ woutV a u) : x ∈ a := (List.mem_filter.1 h).1
theorem restG_mem {l : List (List Int)} {t : Int} {x : List Int} (h : x ∈ restG l t) : ∃ a ∈ l, x = woutV a (t.natAbs : Int) := by
  obtain ⟨a, ha, rfl⟩ := List.mem_map.1 h
  exact ⟨a, (List.mem_filter.1 ha).1, rfl⟩
theorem restG_small {v : Nat} {l : List (List Int)} {t : Int} (h : ∀ b ∈ l, clauseOk v b = true) : ∀ x ∈ restG l t, Small x := by
  intro x hx y hy
  obtain ⟨a, ha, rfl⟩ := restG_mem hx
  exact clause_small (h a ha) y (wout_mem hy)
theorem restG_len (l : List (List Int)) (t : Int) : (restG l t).length ≤ l.length := by
  unfold restG; rw [List.length_map]; exact List.length_filter_le _ _
theorem rowsTotal_bound : ∀ (l : List (List Int)), (∀ x ∈ l, x.length ≤ 12) → rowsTotal l ≤ 12 * l.length
  | [], _ => by simp [rowsTotal]
  | x :: l, h => by
    have := rowsTotal_bound l (fun y hy => h y (by simp [hy]))
    have := h x (by simp)
    simp only [rowsTotal, List.map_cons, List.sum_cons, List.length_cons] at *
    omega
theorem restG_size {v : Nat} {l : List (List Int)} {t : Int} (h : ∀ b ∈ l, clauseOk v b = true) (hl : l.length ≤ 729) : rowsSize (restG l t) ≤ 1099511627776 := by
  have h1 := rowsTotal_bound (restG l t) (fun x hx => by
    obtain ⟨a, ha, rfl⟩ := restG_mem hx
    have h2 : (woutV a (t.natAbs : Int)).length ≤ a.length := List.length_filter_le _ _
    have h3 := clause_facts (h a ha)
    omega)
  have h2 := restG_len l t
  unfold rowsSize
  omega
theorem Asc.rest {v : Nat} {l : List (List Int)} (h : Asc l) (hok : ∀ b ∈ l, clauseOk v b = true) (t : Int) {i : Nat} {xs : List Int} (hx : Hid (l[i]? = some xs)) (hm : hasInt t xs = true) :
    Asc (restG (l.take i) t) ∧ (∀ x ∈ restG (l.take i) t, befC x (woutV xs (t.natAbs : Int)) = true) ∧ ∀ x ∈ restG (l.take i) t, Small x := by
  have hok2 : ∀ k, ∀ b ∈ l.take k, clauseOk v b = true := fun k b hb => hok b (List.mem_of_mem_take hb)
  have h1 := restG_asc (t := t) (l.take (i + 1)) (hok2 _) (asc_take h _)
  rw [restG_take hx, hm, if_pos rfl] at h1
  exact ⟨(asc_last h1).1, (asc_last h1).2, restG_small (hok2 _)⟩
theorem RowV.ofOwn {w : World} {lo : Nat} {ei : TypeId} {B : Option Addr} {m d : Nat} {xs : List Int} (h : Own w lo ei 1 B m d (xs.map (Value.int .i64))) (hm : m ≤ 140737488355328) : RowV w lo w.heap.size ei (.slice B m d) xs := by
  have hl : m = xs.length := by have := h.len; simpa using this.symm
  subst hl
  exact ⟨B, d, rfl, h, hm, fun k hk => (h.lt k hk).2⟩
/-- A new row appended where the outer row is made anew. -/
theorem OwnRows.remade {w w' : World} {lo hi : Nat} {eo ei : TypeId} {A A' : Option Addr} {n c c' : Nat} {xss : List (List Int)} {us : List Value} {u : Value} {xs : List Int} (h : OwnRows w lo hi eo ei A n c xss us) (he : Ext w w') (hlo : lo ≤ hi) (hhi : hi ≤ w'.heap.size)
    (hr : RowV w' hi w'.heap.size ei u xs) (hown : Own w' lo eo 1 A' (n + 1) c' (us ++ [u])) : OwnRows w' lo w'.heap.size eo ei A' (n + 1) c' (xss ++ [xs]) (us ++ [u]) := by
  have hul := h.ulen
  have hxl := h.len
  refine ⟨by simp; omega, hown, fun k hk => (hown.lt k hk).2, ?_, ?_⟩
  · intro j v ys hv hy
    by_cases hj : j < n
    · rw [List.getElem?_append_left (by omega)] at hv hy
      exact ((h.inner j v ys hv hy).ext he).wider hhi
    · have hj' : j = n := by
        have h1 := (List.getElem?_eq_some_iff.1 hv).1
        simp at h1; omega
      subst hj'
      rw [List.getElem?_append_right (by omega)] at hv hy
      simp [hul] at hv
      simp [← hxl] at hy
      subst hv; subst hy
      exact hr.lower hlo
  · have hlast : ∀ j v, (us ++ [u])[j]? = some v → (j < n ∧ us[j]? = some v) ∨ (j = n ∧ v = u) := by
      intro j v hv
      by_cases hj : j < n
      · rw [List.getElem?_append_left (by omega)] at hv; exact .inl ⟨hj, hv⟩
      · have hj' : j = n := by
          have h1 := (List.getElem?_eq_some_iff.1 hv).1
          simp at h1; omega
        subst hj'
        rw [List.getElem?_append_right (by omega)] at hv
        simp [hul] at hv
        exact .inr ⟨rfl, hv.symm⟩
    intro a b x v k hx hv hku hkv
    rcases hlast a x hx with ⟨ha, hx'⟩ | ⟨rfl, rfl⟩ <;> rcases hlast b v hv with ⟨hb, hv'⟩ | ⟨rfl, rfl⟩
    · exact h.apart a b x v k hx' hv' hku hkv
    · have h1 := h.ulow hx' hku
      have h2 := (hr.lt hkv).1
      omega
    · have h1 := h.ulow hv' hkv
      have h2 := (hr.lt hku).1
      omega
    · rfl
theorem OwnRows.slices {w : World} {lo hi : Nat} {eo ei : TypeId} {A : Option Addr} {n c : Nat} {xss : List (List Int)} {us : List Value} (h : OwnRows w lo hi eo ei A n c xss us) : ∀ z ∈ us, ∃ B m d, z = .slice B m d := by
  intro z hz
  obtain ⟨i, hi, rfl⟩ := List.getElem_of_mem hz
  have hul := h.ulen
  have hxl := h.len
  obtain ⟨B, d, e, _⟩ := h.inner i _ _ (List.getElem?_eq_getElem hi) (List.getElem?_eq_getElem (by omega))
  exact ⟨B, _, d, e⟩
theorem lit_small {v : Nat} {t : Int} (hv : v ≤ 6) (h : isLit v t = true) : -12 ≤ t ∧ t ≤ 12 := by
  have := isLit_true (v := (v : Int)) (by unfold within; simp; omega) h
  omega
end Go.Proofs.Ytaigjmbhgpcalaa
