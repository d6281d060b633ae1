/-
  Contracts of library functions at this program, written by a tool of the kit; no condition.
-/
import Derived.Ground.Names2Prog
import Derived.Shelf.Slices.Clone
import Derived.Shelf.Slices.Delete
import Derived.Shelf.Slices.Cells
import Derived.Shelf.Slices.Empties
import Derived.Test.YtaigjmbhgpcalaaProg
import Derived.Test.YtaigjmbhgpcalaaF4
import Derived.Test.YtaigjmbhgpcalaaC40

namespace Go.Proofs
set_option linter.unusedSimpArgs false
set_option linter.unusedVariables false
open Go.Shelf
def Try.laysNm223_ren : Go.Shelf.Ren := ⟨fun | 23 => 99 | n => n, fun | 22 => 35 | 3 => 3 | 4 => 4 | 0 => 0 | n => n, fun | n => n⟩
theorem Try.laysNm223 : Go.Proofs.Lays2.n23 Try.prog Try.laysNm223_ren := {
  mixed := by kernel_rfl
  f23 := Try.func99.trans (congrArg some (by kernel_rfl))
  t0 := Try.underlying0
  a0 := Try.isAgg0
  z0 := Try.sizeOf0
  v0 := Try.zeroValue0
  t3 := Try.underlying3
  a3 := Try.isAgg3
  z3 := Try.sizeOf3
  v3 := Try.zeroValue3
  t4 := Try.underlying4
  a4 := Try.isAgg4
  z4 := Try.sizeOf4
  v4 := Try.zeroValue4
  t22 := Try.underlying35
  a22 := Try.isAgg35
  z22 := Try.sizeOf35
  v22 := Try.zeroValue35
  i3 := by kernel_rfl }
open Go.RowKit Go.Lib Go.Sort in
theorem Try.slices_Delete_int_cells (b off n c i j : Nat) (zs : List Int) (w : World) (hz : n ≤ zs.length) (hcap : n ≤ c) (hm : c ≤ 9223372036854775807) (hij : i ≤ j) (hj : j ≤ n) (hc : ∀ j, j < zs.length → w.cell? ⟨b, off + j, none⟩ = some (.int .i64 (zs.getD j 0))) (hf : ∀ j, j < n → w.frozen? ⟨b, off + j, none⟩ = false) :
    Calls Try.prog 99 #[.slice (some ⟨b, off, none⟩) n c, .int .i64 i, .int .i64 j] w fun e w' => e = .returned (.slice (some ⟨b, off, none⟩) (n - (j - i)) c) ∧ ∃ q, w' = (w.drewN q).setCells b off (((zs.take n).take i ++ (zs.take n).drop j ++ List.replicate (j - i) 0).map (Value.int .i64)) := Any.slices_Delete_int_cells Try.laysNm223 b off n c i j zs w hz hcap hm hij hj hc hf
end Go.Proofs

/-
  The program's copy of a list, and a list without one place; no condition.
-/
namespace Go.Proofs.Ytaigjmbhgpcalaa
set_option linter.unusedSimpArgs false
set_option linter.unusedVariables false
open Go.RowKit
theorem Own.capMax {w : World} {base : Nat} {e : TypeId} {size : Nat} {A : Option Addr} {n c : Nat} {us : List Value} (h : Own w base e size A n c us) : c ≤ 9223372036854775807 := by
  rcases h.2 with ⟨hv, hn⟩ | ⟨g, cap, cur, hv, hb, hh, h1, h2, h3, h4⟩
  · injection hv with e1 e2 e3; omega
  · injection hv with e1 e2 e3; unfold maxLen at h2; omega
theorem Own.setAll {base : Nat} {e : TypeId} {g n c : Nat} : ∀ (vs : List Value) (j : Nat) (w : World) (us : List Value), Own w base e 1 (some ⟨g, 0, none⟩) n c us → ∃ us', Own (w.setCells g j vs) base e 1 (some ⟨g, 0, none⟩) n c us' ∧ us'.take j = us.take j ∧ ∀ i v, vs[i]? = some v → j + i < n → us'[j + i]? = some v
  | [], _, w, us, h => ⟨us, h, rfl, fun i v hv => by simp at hv⟩
  | v :: vs, j, w, us, h => by
    obtain ⟨us', h1, h2, h3⟩ := Own.setAll vs (j + 1) _ _ (h.store j v)
    have hul : us.length = n := by have := h.len; omega
    refine ⟨us', h1, ?_, ?_⟩
    · have h4 := congrArg (List.take j) h2
      rw [List.take_take, List.take_take, show min j (j + 1) = j by omega] at h4
      rw [h4, List.take_set_of_le (Nat.le_refl _)]
    · intro i u hu hi
      cases i with
      | zero =>
        simp at hu
        subst hu
        have h4 := congrArg (fun l => l[j]?) h2
        simp only [List.getElem?_take, Nat.lt_succ_self, if_true] at h4
        rw [Nat.add_zero, h4, List.getElem?_set_self (by omega)]
      | succ i =>
        have := h3 i u (by simpa using hu) (by omega)
        rw [show j + (i + 1) = j + 1 + i by omega]; exact this
set_option maxRecDepth 100000 in
set_option maxHeartbeats 800000 in
theorem Clone_int_c (A : Option Addr) (n c : Nat) (xs : List Int) (w : World) (h : Ints w A n xs) (hn : n ≤ 1048576) :
    Calls Try.prog 45 #[.slice A n c] w fun e w' => ∃ A' c', e = .returned (.slice A' n c') ∧ Own w' w.heap.size 3 1 A' n c' (xs.map (Value.int .i64)) ∧ Ext w w' := by
  have HL := hide h.len
  have h0 : Own (w.alloc (.cells #[] 3)) w.heap.size 3 1 (some ⟨w.heap.size, 0, none⟩) 0 0 [] := Own.arr #[] 0 [] (Nat.le_refl _) (by decide) rfl rfl
  have hnil := fun W => Go.Lib.run_eql_slice_nil (P := Try.prog) W 35 3 A n c 0 0 Try.underlying35
  cases A with
  | none =>
    have hn0 : n = 0 := by
      rcases Nat.eq_zero_or_pos n with h1 | h1
      · exact h1
      · obtain ⟨ad', y, e, -, -⟩ := h.at_ h1; cases e
    subst hn0
    have hx0 : xs = [] := List.eq_nil_of_length_eq_zero HL.out.symm
    subst hx0
    clear h0 HL
    go_enter Try.func45, Try.ntmps45
    go_wp2_with fail
    go_ret
    exact ⟨_, _, rfl, Own.nil _ _ _ _, Ext.refl _⟩
  | some ad =>
    have HF := hide ((h.ext ((Ext.refl w).alloc (.cells #[] 3))).cells)
    go_enter Try.func45, Try.ntmps45
    go_wp2_with (at_builtin; refine wpList_appA rfl _ _ _ 3 rfl Try.underlying35 _ 1 8 info_int rfl (by decide) rfl h0 ad n c (xs.map (Value.int .i64)) rfl (by simpa using HL.out.symm) HF.out (one_cells _) (by omega) (by omega) (by simp) ?_; intro A' c' w' ho' hg'; rw [Nat.zero_add] at ho'; try rw [Nat.zero_add])
    go_ret
    exact ⟨_, _, by first | rfl | simp, by simpa using ho', Ext.own (by (repeat (first | with_reducible exact Ext.refl _ | with_reducible assumption | ((with_reducible refine Ext.setCell ?_ ?_ _); rotate_left; focus (first | omega | (simp <;> omega))) | with_reducible refine Ext.alloc ?_ _ | with_reducible refine Ext.drewN ?_ _ | with_reducible refine Ext.drew ?_ | with_reducible refine Ext.trans ?_ (by with_reducible assumption)))) h0 hg'⟩
set_option maxRecDepth 100000 in
set_option maxHeartbeats 800000 in
theorem without_c (A : Option Addr) (n d : Nat) (xs : List Int) (k : Nat) (w : World) (h : Ints w A n xs) (hk : k < n) (hn : n ≤ 1000) :
    Calls Try.prog 83 #[.slice A n d, .int .i64 k] w fun e w' => ∃ X z, e = .returned (.slice X (n - 1) z) ∧ Ints w' X (n - 1) (xs.eraseIdx k) ∧ Ext w w' := by
  have HC := hide (Clone_int_c A n d xs w h (by omega))
  have HL := hide h.len
  have hw1 : IntKind.i64.wrap ((k : Int) + 1) = (k : Int) + 1 := IntWalk.i64_in _ (by omega)
  go_enter Try.func83, Try.ntmps83
  go_wp2_with fail
  refine HC.out.mono ?_
  rintro e w1 ⟨A', c', rfl, ho, he1⟩
  obtain ⟨g, rfl⟩ : ∃ g, A' = some ⟨g, 0, none⟩ := by
    rcases ho.2 with ⟨hv, hn0⟩ | ⟨g, cap, cur, hv, _⟩
    · omega
    · injection hv with e1 e2 e3; exact ⟨g, e1⟩
  have hcap := ho.cap
  have hlt := ho.lt g rfl
  have hD := Try.slices_Delete_int_cells g 0 n c' k (k + 1) xs w1 (by rw [HL.out]; exact Nat.le_refl _) hcap ho.capMax (by omega) (by omega) (fun j hj => by
      have := ho.cell (get_map_int (List.getElem?_eq_getElem hj)); rw [Nat.zero_add, this, List.getD_eq_getElem?_getD, List.getElem?_eq_getElem hj]; rfl) (fun j hj => by rw [Nat.zero_add]; exact ho.frozen j)
  rw [show (((k + 1 : Nat) : Nat) : Int) = (k : Int) + 1 by omega] at hD
  have HD := hide hD
  have HO := hide ho
  clear hD ho
  go_wp2_with fail
  refine HD.out.mono ?_
  rintro e w2 ⟨rfl, q, hw2⟩
  have hI : Ints w2 (some ⟨g, 0, none⟩) (n - 1) (xs.eraseIdx k) := by
    rw [hw2]
    obtain ⟨us', o2, -, hu⟩ := Own.setAll (((xs.take n).take k ++ (xs.take n).drop (k + 1) ++ List.replicate (k + 1 - k) 0).map (Value.int .i64)) 0 _ _ (HO.out.ext ((Ext.refl w1).drewN q))
    have hxn : xs.take n = xs := List.take_of_length_le (by rw [HL.out]; exact Nat.le_refl _)
    have hul : us'.length = n := by have := o2.len; omega
    have hcut := o2.cut (m := n - 1) (by omega)
    have hus : us'.take (n - 1) = (xs.eraseIdx k).map (Value.int .i64) := by
      rw [List.eraseIdx_eq_take_drop_succ]
      refine List.ext_getElem? fun i => ?_
      rw [List.getElem?_take]
      split
      · rename_i hi
        have hlen : (xs.take k ++ xs.drop (k + 1)).length = n - 1 := by have := HL.out; simp; omega
        have hv := List.getElem?_eq_getElem (l := (xs.take k ++ xs.drop (k + 1)).map (Value.int .i64)) (i := i) (by rw [List.length_map]; omega)
        rw [hv]
        have := hu i _ (by rw [hxn, List.map_append, List.getElem?_append_left (by rw [List.length_map]; omega)]; exact hv) (by omega)
        rw [Nat.zero_add] at this
        exact this
      · rename_i hi
        rw [List.getElem?_eq_none]
        rw [List.length_map]
        have := HL.out
        simp; omega
    rw [hus] at hcut
    exact hcut.ints (by omega)
  have hE : Ext w w2 := by
    rw [hw2]
    exact Ext.touched he1 ((((Ext.refl w1).drewN q).touch w.heap.size w1.heap.size).trans (touch_setCells (lo := w.heap.size) (hi := w1.heap.size) hlt _ _ _)) (Nat.le_refl _)
  clear hw2
  go_wp2_with fail
  go_ret
  exact ⟨_, c', rfl, hI, hE⟩
end Go.Proofs.Ytaigjmbhgpcalaa
