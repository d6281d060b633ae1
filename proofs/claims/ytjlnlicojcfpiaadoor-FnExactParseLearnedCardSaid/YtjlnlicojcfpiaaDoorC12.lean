/-
  Boxes of the call's own, and the functions that make a dag.
-/
import Derived.Test.YtjlnlicojcfpiaaDoorC11
namespace Go.Proofs.YtjlnlicojcfpiaaDoor
set_option linter.unusedSimpArgs false
set_option linter.unusedVariables false
open Go.RowKit

/-- Block b, of type t, holds the cells cs. -/
def BoxAt (w : World) (b : Nat) (t : TypeId) (cs : Array Value) : Prop := w.heap[b]? = some (.cells cs t (0, 0))
theorem BoxAt.cell {w : World} {b : Nat} {t : TypeId} {cs : Array Value} (h : BoxAt w b t cs) (j : Nat) (u : Value) (hu : cs[j]? = some u) : w.cell? ⟨b, j, none⟩ = some u := by
  have h' : w.heap[b]? = some (.cells cs t (0, 0)) := h
  simp [World.cell?, h', hu]
theorem BoxAt.frozen {w : World} {b : Nat} {t : TypeId} {cs : Array Value} (h : BoxAt w b t cs) (j : Nat) : w.frozen? ⟨b, j, none⟩ = false := by
  have h' : w.heap[b]? = some (.cells cs t (0, 0)) := h
  simp [World.frozen?, h']
theorem BoxAt.lt {w : World} {b : Nat} {t : TypeId} {cs : Array Value} (h : BoxAt w b t cs) : b < w.heap.size := (Array.getElem?_eq_some_iff.1 h).1
theorem BoxAt.ext {w w' : World} {b : Nat} {t : TypeId} {cs : Array Value} (h : BoxAt w b t cs) (he : Ext w w') : BoxAt w' b t cs := (he.block b h.lt).trans h
theorem BoxAt.made (w : World) (cs : Array Value) (t : TypeId) : BoxAt (w.alloc (.cells cs t)) w.heap.size t cs := heap_alloc_new w _
theorem BoxAt.set {w : World} {b : Nat} {t : TypeId} {cs : Array Value} (h : BoxAt w b t cs) (j : Nat) (u : Value) : BoxAt (w.setCell ⟨b, j, none⟩ u) b t (cs.setIfInBounds j u) := by
  have h' : w.heap[b]? = some (.cells cs t (0, 0)) := h
  simp [BoxAt, World.setCell, Array.getElem?_modify, h']
theorem BoxAt.setOther {w : World} {b : Nat} {t : TypeId} {cs : Array Value} (h : BoxAt w b t cs) {p : Addr} (hp : b ≠ p.block) (u : Value) : BoxAt (w.setCell p u) b t cs :=
  (Below.heap_setCell w p u b hp).trans h
theorem BoxAt.ne {w : World} {b : Nat} {t : TypeId} {cs : Array Value} (h : BoxAt w b t cs) {base : Nat} {e : TypeId} {size : Nat} {A : Option Addr} {n c : Nat} {us : List Value} (ho : Own w base e size A n c us) (hne : t ≠ e) :
    (Value.slice A n c).ownBlock ≠ some b := fun hk => by
  obtain ⟨ds, h1⟩ := ho.block_type hk
  have h' : w.heap[b]? = some (.cells cs t (0, 0)) := h
  rw [h'] at h1
  simp at h1
  exact hne h1.2
theorem BoxAt.grown {w w' : World} {b : Nat} {t : TypeId} {cs : Array Value} (h : BoxAt w b t cs) {base : Nat} {e : TypeId} {size : Nat} {A : Option Addr} {n c : Nat} {us : List Value} (ho : Own w base e size A n c us) (hne : t ≠ e)
    (hg : w.grownBy w' (Value.slice A n c).ownBlock) : BoxAt w' b t cs := (hg.block b h.lt (fun e => h.ne ho hne e.symm)).trans h
theorem OwnRows.storeBox {w : World} {lo hi : Nat} {eo ei : TypeId} {A : Option Addr} {n c : Nat} {xss : List (List Int)} {us : List Value} (h : OwnRows w lo hi eo ei A n c xss us) {b : Nat} {t : TypeId} {cs : Array Value} (hb : BoxAt w b t cs)
    (h1 : t ≠ eo) (h2 : t ≠ ei) (j : Nat) (u : Value) : OwnRows (w.setCell ⟨b, j, none⟩ u) lo hi eo ei A n c xss us := by
  have hg : w.grownBy (w.setCell ⟨b, j, none⟩ u) (some b) := ⟨rfl, rfl, rfl, by simp [World.setCell], fun k _ hk => Below.heap_setCell _ _ _ _ (fun e => hk (by rw [e]))⟩
  refine ⟨h.len, h.outer.kept hg (.inr (hb.ne h.outer h1)), h.below, fun i v xs hv hx => ?_, h.apart⟩
  refine (h.inner i v xs hv hx).kept hg (.inr ?_)
  obtain ⟨B, d, rfl, ho, _, _⟩ := h.inner i v xs hv hx
  exact hb.ne ho h2
theorem OwnRows.lit1 {w : World} {lo hi : Nat} {eo ei : TypeId} {u : Value} {xs : List Int} (h : RowV w lo hi ei u xs) (hlo : lo ≤ w.heap.size) (hh : hi ≤ w.heap.size) :
    OwnRows (w.alloc (.cells #[u] eo)) lo (w.heap.size + 1) eo ei (some ⟨w.heap.size, 0, none⟩) 1 1 [xs] [u] := by
  refine ⟨rfl, Own.arr #[u] 1 [u] hlo (by decide) rfl rfl, fun k hk => ?_, fun i v ys hv hy => ?_, fun i j v v' k hv hv' _ _ => ?_⟩
  · simp [Value.ownBlock] at hk; omega
  · cases i with
    | zero => simp at hv hy; subst hv; subst hy; exact (h.ext ((Ext.refl w).alloc _)).wider (by omega)
    | succ i => simp at hv
  · have := (List.getElem?_eq_some_iff.1 hv).1
    have := (List.getElem?_eq_some_iff.1 hv').1
    simp at *
    omega
theorem OwnRows.lit0 {w : World} {lo : Nat} {eo ei : TypeId} (hlo : lo ≤ w.heap.size) :
    OwnRows (w.alloc (.cells #[] eo)) lo (w.heap.size + 1) eo ei (some ⟨w.heap.size, 0, none⟩) 0 0 [] [] :=
  ⟨rfl, Own.arr #[] 0 [] hlo (by decide) rfl rfl, fun k hk => by simp [Value.ownBlock] at hk; omega, fun i v ys hv => by simp at hv, fun i j v v' k hv => by simp at hv⟩
theorem RowV.lit {w : World} {ei : TypeId} (cs : Array Value) (n : Nat) (xs : List Int) (hn : n = xs.length) (hcs : cs.toList = xs.map (Value.int .i64)) (hb : xs.length ≤ 140737488355328) :
    RowV (w.alloc (.cells cs ei)) w.heap.size (w.heap.size + 1) ei (.slice (some ⟨w.heap.size, 0, none⟩) n n) xs := by
  subst hn
  exact ⟨_, _, rfl, Own.arr cs _ _ (Nat.le_refl _) (by simp only [maxLen]; omega) (by simp) hcs, hb, fun k hk => by simp [Value.ownBlock] at hk; omega⟩

/-- The path's rows. -/
def pathRows (n : Nat) : List (List Int) := (List.range n).map fun x : Nat => if x = 0 then [] else [(x : Int) - 1]
theorem pathRows_length (n : Nat) : (pathRows n).length = n := by simp [pathRows]
theorem pathRows_succ (x : Nat) (h : 0 < x) : pathRows (x + 1) = pathRows x ++ [[(x : Int) - 1]] := by
  have hx : x ≠ 0 := by omega
  simp [pathRows, List.range_succ, hx]
theorem pathRows_get {n x : Nat} (h : x < n) (hx : 0 < x) : (pathRows n)[x]? = some [(x : Int) - 1] := by
  have hx' : x ≠ 0 := by omega
  simp [pathRows, h, hx']

end Go.Proofs.YtjlnlicojcfpiaaDoor
