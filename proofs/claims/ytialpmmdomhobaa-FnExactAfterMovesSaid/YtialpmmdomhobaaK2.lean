/-
  The laws' helpers over []Gate: the size, the copy, the marks.
-/
import Derived.Test.YtialpmmdomhobaaK1
namespace Go.Proofs.Ytialpmmdomhobaa
set_option linter.unusedSimpArgs false
set_option linter.unusedVariables false
open Go.RowKit

theorem touch_setF (w : World) {lo hi : Nat} {p : Addr} (u : Value) (h : lo ≤ p.block ∧ p.block < hi) : Touch lo hi w (w.setCell p u) :=
  ⟨rfl, rfl, rfl, by simp [World.setCell], fun k _ hk => Below.heap_setCell _ _ _ _ (fun e => by subst e; omega)⟩
theorem addr_add_add (a : Addr) (i j : Nat) : (a.add i).add j = a.add (i + j) := by
  unfold Addr.add
  by_cases hi : i = 0
  · subst hi; simp
  · by_cases hj : j = 0
    · subst hj; simp [hi]
    · simp [hi, hj]; omega
theorem Own.int_atS {w : World} {base : Nat} {e : TypeId} {sz g n c : Nat} {xs : List Int} (h : Own w base e sz (some ⟨g, 0, none⟩) n c (xs.map (Value.int .i64))) {q : Nat} (hq : q < n * sz) :
    ∃ x, Hid (xs[q]? = some x) ∧ w.cell? ⟨g, q, none⟩ = some (.int .i64 x) ∧ w.frozen? ⟨g, q, none⟩ = false := by
  have hl : xs.length = n * sz := by have := h.len; simpa using this
  exact ⟨_, List.getElem?_eq_getElem (by omega), h.cell (get_map_int (List.getElem?_eq_getElem (by omega))), h.frozen q⟩
/-- An argument: n elements of sz ints each, at whatever address, read as one list. -/
structure FlatA (sz : Nat) (w : World) (A : Option Addr) (n : Nat) (ys : List Int) : Prop where
  len : ys.length = n * sz
  bound : n ≤ 9223372036854775807
  reads : Reads w A (ys.map (Value.int .i64))
theorem FlatA.ext {sz : Nat} {w w' : World} {A : Option Addr} {n : Nat} {ys : List Int} (h : FlatA sz w A n ys) (he : Ext w w') : FlatA sz w' A n ys := ⟨h.len, h.bound, h.reads.ext he⟩
theorem FlatA.cell3 {w : World} {A : Option Addr} {n : Nat} {ys : List Int} (h : FlatA 3 w A n ys) {i : Nat} (hi : i < n) :
    ∃ ad x y z, A = some ad ∧ Hid (ys[i * 3]? = some x ∧ ys[i * 3 + 1]? = some y ∧ ys[i * 3 + 2]? = some z) ∧ w.cell? (ad.add (i * 3)) = some (.int .i64 x) ∧ w.cell? ⟨(ad.add (i * 3)).block, (ad.add (i * 3)).off + 1, none⟩ = some (.int .i64 y) ∧ w.cell? ⟨(ad.add (i * 3)).block, (ad.add (i * 3)).off + 2, none⟩ = some (.int .i64 z) := by
  have hl := h.len
  have h0 := List.getElem?_eq_getElem (show i * 3 < ys.length by omega)
  have h1 := List.getElem?_eq_getElem (show i * 3 + 1 < ys.length by omega)
  have h2 := List.getElem?_eq_getElem (show i * 3 + 2 < ys.length by omega)
  obtain ⟨ad, e, hc⟩ := h.reads (by intro hh; have := congrArg List.length hh; simp at this; subst this; simp at hl; omega)
  refine ⟨ad, _, _, _, e, ⟨h0, h1, h2⟩, hc _ _ (get_map_int h0), ?_, ?_⟩
  · show w.cell? ((ad.add (i * 3)).add 1) = _; rw [addr_add_add]; exact hc _ _ (get_map_int h1)
  · show w.cell? ((ad.add (i * 3)).add 2) = _; rw [addr_add_add]; exact hc _ _ (get_map_int h2)
theorem FlatA.fold {sz : Nat} {w : World} {A : Option Addr} {n : Nat} {ys : List Int} (h : FlatA sz w A n ys) (hn : n ≤ 1099511627776) (g : Nat) (hA : A = some ⟨g, 0, none⟩) : Flat sz w A n ys :=
  ⟨h.len, hn, fun h0 => ⟨g, hA, fun j u hu => by
    obtain ⟨ad, e, hc⟩ := h.reads (by intro hh; have := congrArg List.length hh; simp at this; subst this; simp at hu)
    rw [hA] at e
    injection e with e
    have := hc j _ (get_map_int hu)
    rw [← e] at this
    have hadd : (⟨g, 0, none⟩ : Addr).add j = ⟨g, j, none⟩ := by unfold Addr.add; split <;> simp_all
    rwa [hadd] at this⟩⟩
theorem toList_made3 (z : Value) (m : Nat) : (madeCells #[z, z, z] m).toList = List.replicate m z := by
  apply List.ext_getElem
  · simp [madeCells]
  · intro i h1 h2
    simp only [madeCells, Array.toList_map, List.getElem_map, List.getElem_replicate]
    have hlt : (Array.range m).toList[i]'(by simpa [madeCells] using h1) % 3 < 3 := Nat.mod_lt _ (by omega)
    generalize (Array.range m).toList[i]'(by simpa [madeCells] using h1) % 3 = r at hlt
    have : r = 0 ∨ r = 1 ∨ r = 2 := by omega
    show #[z, z, z][r]! = z
    rcases this with rfl | rfl | rfl <;> rfl
theorem toList_made2 (z : Value) (m : Nat) : (madeCells #[z, z] m).toList = List.replicate m z := by
  apply List.ext_getElem
  · simp [madeCells]
  · intro i h1 h2
    simp only [madeCells, Array.toList_map, List.getElem_map, List.getElem_replicate]
    have hlt : (Array.range m).toList[i]'(by simpa [madeCells] using h1) % 2 < 2 := Nat.mod_lt _ (by omega)
    generalize (Array.range m).toList[i]'(by simpa [madeCells] using h1) % 2 = r at hlt
    have : r = 0 ∨ r = 1 := by omega
    show #[z, z][r]! = z
    rcases this with rfl | rfl <;> rfl
section
variable {P : Program}
/-- make of structs: as the run spells it. -/
theorem makeS_eq (t e : TypeId) (ht : P.underlying t = some (.slice e)) (z : Value) (sz bytes : Nat) (hinfo : (P.info? e).map (fun i => (i.zero, i.size, i.bytes)) = some (some z, sz, bytes))
    (n : Nat) (h63 : n ≤ 140737488355328) (hb : bytes * n ≤ 281474976710656) (w : World) :
    (Instr.makeSlice t (.int .i64 (n : Int)) (.int .i64 (n : Int))).run P w = .ok (.slice (some ⟨w.heap.size, 0, none⟩) n n) (w.alloc (.cells (madeCells z.cells (n * sz)) e)) := by
  obtain ⟨i, hi, hz, hsize, hby⟩ := info_parts hinfo
  have hb' : (i.bytes : Int) * (n : Int) ≤ 281474976710656 := by
    have h : ((i.bytes * n : Nat) : Int) ≤ 281474976710656 := by rw [hby]; omega
    rwa [Int.natCast_mul] at h
  have hr := run_make (P := P) w t e i z ht hi hz .i64 .i64 n n (by omega) (by omega) hb' (by omega)
  simp only [Int.toNat_natCast, hsize] at hr
  exact hr
end
theorem take_set3 {α} (ys : List α) (p : Nat) (x y z : α) (h : p + 2 < ys.length) : (((ys.set p x).set (p + 1) y).set (p + 2) z).take (p + 3) = ys.take p ++ [x, y, z] := by
  rw [take_set_succ _ _ _ (by simpa using h), take_set_succ _ _ _ (by simp; omega), take_set_succ _ _ _ (by omega)]
  simp
theorem take_three {α} {xs : List α} {p : Nat} {x y z : α} (h : Hid (xs[p]? = some x ∧ xs[p + 1]? = some y ∧ xs[p + 2]? = some z)) : xs.take (p + 3) = xs.take p ++ [x, y, z] := by
  obtain ⟨h0, h1, h2⟩ := h.out
  rw [take_succ_of (i := p + 2) (hide h2), take_succ_of (i := p + 1) (hide h1), take_succ_of (hide h0)]
  simp

end Go.Proofs.Ytialpmmdomhobaa
