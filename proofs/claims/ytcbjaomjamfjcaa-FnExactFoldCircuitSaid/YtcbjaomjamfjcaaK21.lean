/-
  Folding: the program's pair; no condition. (Under way.)
-/
import Derived.Test.YtcbjaomjamfjcaaK20
namespace Go.Proofs.Ytcbjaomjamfjcaa
set_option linter.unusedSimpArgs false
set_option linter.unusedVariables false
open Go.RowKit

theorem sameG_eq {gs : List Gt} {i j : Nat} {k1 a1 b1 k2 a2 b2 zero unit : Int} (hx : gs[i]? = some (k1, a1, b1)) (hy : gs[j]? = some (k2, a2, b2)) :
    sameG gs (i : Int) (j : Int) zero unit = if k1 = zero then (i : Int) else if k2 = zero then (j : Int) else if k1 = unit ∨ (i : Int) = j then (j : Int) else if k2 = unit then (i : Int) else -1 := by
  unfold sameG
  simp only [Int.toNat_natCast, List.getD_eq_getElem?_getD, hx, hy, Option.getD_some]
/-- What pair and keep leave. -/
def Folded (w w' : World) (X base : Nat) (A : Option Addr) (n c : Nat) (gs : List Gt) : Prop :=
  ∃ A' n' c', Folder w' X base A' n' c' gs ∧ ∃ wm, w.grownBy wm (Value.slice A n c).ownBlock ∧ wm.grownBy w' (some X)
theorem Folded.same {w w' : World} {X base : Nat} {A : Option Addr} {n c : Nat} {gs : List Gt} (h : Folder w X base A n c gs) (he : Ext w w') : Folded w w' X base A n c gs :=
  ⟨_, _, _, h.ext he, _, he.grownBy _, (Ext.refl _).grownBy _⟩
theorem Folded.after {w w1 w' : World} {X base : Nat} {A : Option Addr} {n c : Nat} {gs : List Gt} (he : Ext w w1) (h : Folded w1 w' X base A n c gs) : Folded w w' X base A n c gs :=
  let ⟨A', n', c', hf, wm, h1, h2⟩ := h; ⟨A', n', c', hf, wm, (he.grownBy _).trans h1, h2⟩
set_option maxRecDepth 100000 in
set_option maxHeartbeats 3200000 in
theorem pair_o (X base : Nat) (A : Option Addr) (n c : Nat) (kd a b zero unit : Int) (gs : List Gt) (w : World) (h : Folder w X base A n c gs) (hn : n ≤ 200) (hbase : base ≤ w.heap.size) (ha : 0 ≤ a ∧ a < gs.length) (hb : 0 ≤ b ∧ b < gs.length) :
    Calls Try.prog 160 #[.pointer (some ⟨X, 0, none⟩), .agg #[.int .i64 kd, .int .i64 a, .int .i64 b], .int .i64 zero, .int .i64 unit] w fun e w' =>
      e = .returned (.int .i64 (if sameG gs a b zero unit < 0 then (keepG gs (kd, a, b)).1 else sameG gs a b zero unit)) ∧ Folded w w' X base A n c (if sameG gs a b zero unit < 0 then (keepG gs (kd, a, b)).2 else gs) := by
  have HK := hide (fun W (E : Ext w W) => keep_o X base A n c kd a b gs W (h.ext E) hn (Nat.le_trans hbase E.size))
  have HF := hide h
  have hl := h.len
  obtain ⟨W1, hW1⟩ : ∃ W1, W1 = w.alloc (.cells #[.int .i64 kd, .int .i64 a, .int .i64 b] 86) := ⟨_, rfl⟩
  have eW : Ext w W1 := by rw [hW1]; exact (Ext.refl _).alloc _
  have hbx : BoxAt W1 w.heap.size 86 #[.int .i64 kd, .int .i64 a, .int .i64 b] := by rw [hW1]; exact BoxAt.made w _ _
  obtain ⟨i, rfl⟩ := int_nat ha.1
  obtain ⟨j, rfl⟩ := int_nat hb.1
  have k0 : W1.cell? ⟨w.heap.size, 0, none⟩ = some (.int .i64 kd) := hbx.cell 0 _ rfl
  have k1' : W1.cell? ⟨w.heap.size, 1, none⟩ = some (.int .i64 (i : Int)) := hbx.cell 1 _ rfl
  have k2' : W1.cell? ⟨w.heap.size, 2, none⟩ = some (.int .i64 (j : Int)) := hbx.cell 2 _ rfl
  have k3 : W1.cell? ⟨X, 0, none⟩ = some (.slice A n c) := eW.cell (h.box.cell 0 _ rfl)
  obtain ⟨g, k1, a1, b1, rfl, hx, c0, -, -⟩ := (h.gates hn).at_ (i := i) (by omega)
  obtain ⟨g', k2, a2, b2, hg', hy, d0, -, -⟩ := (h.gates hn).at_ (i := j) (by omega)
  obtain rfl : g = g' := by simpa using hg'
  have c0' := eW.cell c0
  have d0' := eW.cell d0
  have hu := sameG_eq (zero := zero) (unit := unit) hx.out hy.out
  rw [hu]
  have hi : i < n := by omega
  have hj : j < n := by omega
  clear hu hx hy ha hb hl c0 d0 h hg' hbx
  have eD : Ext w W1.drew := eW.drew
  by_cases h1 : k1 = zero
  · subst h1
    simp only [if_true]
    rw [if_neg (by omega), if_neg (by omega)]
    go_enter Try.func160, Try.ntmps160
    go_wp2_with fail
    rw [← hW1]
    clear hW1
    go_quiet (fail)
    go_wp2_with fail
    go_ret
    exact ⟨rfl, Folded.same HF.out (eW.drewN _)⟩
  rw [if_neg h1]
  have h1' : (k1 == zero) = false := by simpa using h1
  by_cases h2 : k2 = zero
  · subst h2
    simp only [if_true]
    rw [if_neg (by omega), if_neg (by omega)]
    go_enter Try.func160, Try.ntmps160
    go_wp2_with fail
    rw [← hW1]
    clear hW1
    go_quiet (fail)
    go_wp2_with fail
    go_ret
    exact ⟨rfl, Folded.same HF.out (eW.drewN _)⟩
  rw [if_neg h2]
  have h2' : (k2 == zero) = false := by simpa using h2
  by_cases h3 : k1 = unit
  · subst h3
    simp only [true_or, if_true]
    rw [if_neg (by omega), if_neg (by omega)]
    go_enter Try.func160, Try.ntmps160
    go_wp2_with fail
    rw [← hW1]
    clear hW1
    go_quiet (fail)
    go_wp2_with fail
    go_ret
    exact ⟨rfl, Folded.same HF.out (eW.drewN _)⟩
  have h3' : (k1 == unit) = false := by simpa using h3
  by_cases h5 : k2 = unit
  · subst h5
    have hv : (if (k1 = k2 ∨ (i : Int) = j) then (j : Int) else if k2 = k2 then (i : Int) else -1) = i := by
      by_cases h4 : (i : Int) = j
      · rw [if_pos (.inr h4)]; exact h4.symm
      · rw [if_neg (by rintro (hh | hh); exact h3 hh; exact h4 hh), if_pos rfl]
    rw [hv]
    clear hv
    rw [if_neg (by omega), if_neg (by omega)]
    go_enter Try.func160, Try.ntmps160
    go_wp2_with fail
    rw [← hW1]
    clear hW1
    go_quiet (fail)
    go_wp2_with fail
    go_ret
    exact ⟨rfl, Folded.same HF.out (eW.drewN _)⟩
  have h5' : (k2 == unit) = false := by simpa using h5
  by_cases h4 : i = j
  · subst h4
    simp only [or_true, if_true]
    rw [if_neg (by omega), if_neg (by omega)]
    go_enter Try.func160, Try.ntmps160
    go_wp2_with fail
    rw [← hW1]
    clear hW1
    go_quiet (fail)
    go_wp2_with fail
    go_ret
    exact ⟨rfl, Folded.same HF.out (eW.drewN _)⟩
  have h4' : ((i : Int) == (j : Int)) = false := by simp; omega
  rw [if_neg (show ¬ (k1 = unit ∨ (i : Int) = j) by rintro (hh | hh); exact h3 hh; omega), if_neg h5]
  rw [if_pos (by omega), if_pos (by omega)]
  go_enter Try.func160, Try.ntmps160
  go_wp2_with fail
  rw [← hW1]
  clear hW1
  go_quiet (fail)
  have k0'' := (Ext.refl W1).drew.cell k0
  have k1'' := (Ext.refl W1).drew.cell k1'
  have k2'' := (Ext.refl W1).drew.cell k2'
  go_wp2_with fail
  (with_reducible refine (HK.out _ (eW.drewN _)).mono ?_)
  rintro e w3 ⟨rfl, hF⟩
  have HFF := hide (Folded.after (eW.drewN _) hF)
  clear hF
  go_wp2_with fail
  go_ret
  exact ⟨rfl, HFF.out⟩
end Go.Proofs.Ytcbjaomjamfjcaa
