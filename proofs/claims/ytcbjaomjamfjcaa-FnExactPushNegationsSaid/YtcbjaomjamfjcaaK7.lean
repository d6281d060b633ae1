/-
  Two circuits joined: both texts return the same.
-/
import Derived.Test.YtcbjaomjamfjcaaK6
import Derived.Lib.SliceRun
namespace Go.Proofs.Ytcbjaomjamfjcaa
set_option linter.unusedSimpArgs false
set_option linter.unusedVariables false
open Go.RowKit

section
variable {P : Program}
/-- append of a slice that lies in memory. -/
theorem wpList_appS {w0 : World} {ops : Array Oper} {rest : List Oper} {o : Oper} {a : Act} {Q : Exit → Act → World → Prop} (hgd : o.guard = none) (s x : Operand) (t e : TypeId)
    (ho : o.op = .call { callee := .builtin .append, args := #[s, x], argTypes := #[t, t] }) (ht : P.underlying t = some (.slice e))
    (z : Value) (size bytes : Nat) (hinfo : (P.info? e).map (fun i => (i.zero, i.size, i.bytes)) = some (some z, size, bytes)) (hzs : z.cells.size = size) (hsz : 0 < size)
    {base : Nat} {A : Option Addr} {n c : Nat} {us : List Value} (hs : a.eval s = .slice A n c) (hown : Own w0 base e size A n c us)
    (B m cx : Nat) (news : List Value) (hx : a.eval x = .slice (some ⟨B, 0, none⟩) m cx) (hl : news.length = m * size) (hcell : ∀ j u, news[j]? = some u → w0.cell? ⟨B, j, none⟩ = some u) (h1 : ∀ u ∈ news, u.oneCell' = true)
    (h63 : n + m ≤ 140737488355328) (hbytes : (n + m) * bytes ≤ 140737488355328) (hbase : base ≤ w0.heap.size)
    (h : ∀ A' c' w', Own w' base e size A' (n + m) c' (us ++ news) → w0.grownBy w' (Value.slice A n c).ownBlock → wpList P ops Q rest (a.put o.dst (.slice A' (n + m) c')) w') :
    wpList P ops Q (o :: rest) a w0 := by
  obtain ⟨i, hi, hz, hsize, hby⟩ := info_parts hinfo
  refine wpList_append_own_at w0 hgd s x t ho base e i z size bytes ht hi hz hsize hby hzs hsz _ n us hs hown ⟨B, 0, none⟩ m cx news hx hl
    (fun j u hu => ?_) h1 (by simp only [maxLen]; omega) hbytes hbase ?_
  · have hadd : (⟨B, 0, none⟩ : Addr).add j = ⟨B, j, none⟩ := by unfold Addr.add; split <;> simp_all
    rw [hadd]
    exact hcell j u hu
  · intro v' w' h2 h3 _ h5
    have hv : ∃ A' c', v' = .slice A' (n + m) c' := by
      rcases h2.2 with ⟨rfl, h0⟩ | ⟨g, cap, cur, rfl, _⟩
      · exact ⟨none, 0, by rw [h0]⟩
      · exact ⟨_, _, rfl⟩
    obtain ⟨A', c', rfl⟩ := hv
    exact h A' c' w' h2 h3
end
theorem fl_cell {w : World} {A : Option Addr} {n : Nat} {gs : List Gt} (h : Flat 3 w A n (fl gs)) {g : Nat} (hA : A = some ⟨g, 0, none⟩) (j : Nat) (u : Value) (hu : ((fl gs).map (Value.int .i64))[j]? = some u) : w.cell? ⟨g, j, none⟩ = some u := by
  rw [List.getElem?_map] at hu
  cases hx : (fl gs)[j]? with
  | none => rw [hx] at hu; cases hu
  | some x =>
    rw [hx] at hu
    simp at hu
    subst hu
    have hl := h.len
    have hjl := (List.getElem?_eq_some_iff.1 hx).1
    obtain ⟨g', e, hc⟩ := h.reads (by omega)
    rw [hA] at e
    injection e with e
    injection e with e
    subst e
    exact hc j x hx
theorem one_cells (xs : List Int) : ∀ u ∈ xs.map (Value.int .i64), u.oneCell' = true := by
  intro u hu
  obtain ⟨x, _, rfl⟩ := List.mem_map.1 hu
  rfl
set_option maxRecDepth 100000 in
set_option maxHeartbeats 800000 in
theorem Clone_gates_c (g n c : Nat) (gs : List Gt) (w : World) (h : Flat 3 w (some ⟨g, 0, none⟩) n (fl gs)) (hn : n ≤ 1048576) :
    Calls Try.prog 70 #[.slice (some ⟨g, 0, none⟩) n c] w fun e w' => ∃ A' c', e = .returned (.slice A' n c') ∧ Own w' w.heap.size 86 3 A' n c' ((fl gs).map (Value.int .i64)) ∧ Ext w w' := by
  have hlen := h.len
  have hfl := fun o => fl_cell (h.ext ((Ext.refl w).alloc o)) rfl
  have HL := hide hlen
  have HF := hide hfl
  clear hlen hfl
  have h0 : Own (w.alloc (.cells #[] 86)) w.heap.size 86 3 (some ⟨w.heap.size, 0, none⟩) 0 0 [] := Own.arr #[] 0 [] (Nat.le_refl _) (by decide) rfl rfl
  have hnil := fun W => Go.Lib.run_eql_slice_nil (P := Try.prog) W 24 86 (some ⟨g, 0, none⟩) n c 0 0 Try.underlying24
  go_enter Try.func70, Try.ntmps70
  go_wp2_with (at_builtin; refine wpList_appS rfl _ _ _ 86 rfl Try.underlying24 _ 3 24 info_gate rfl (by decide) rfl h0 g n c ((fl gs).map (Value.int .i64)) rfl (by simpa using HL.out) (HF.out _) (one_cells _) (by omega) (by omega) (by simp) ?_; intro A' c' w' ho' hg'; rw [Nat.zero_add] at ho'; try rw [Nat.zero_add])
  go_ret
  exact ⟨_, _, by first | rfl | simp, by simpa using ho', Ext.own (by (repeat (first | with_reducible exact Ext.refl _ | with_reducible assumption | ((with_reducible refine Ext.setCell ?_ ?_ _); rotate_left; focus (first | omega | (simp <;> omega))) | with_reducible refine Ext.alloc ?_ _ | with_reducible refine Ext.drewN ?_ _ | with_reducible refine Ext.drew ?_ | with_reducible refine Ext.trans ?_ (by with_reducible assumption)))) h0 hg'⟩
end Go.Proofs.Ytcbjaomjamfjcaa
