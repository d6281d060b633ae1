/-
  Folding: the reference's keep; no condition.
-/
import Derived.Test.YtcbjaomjamfjcaaK18
namespace Go.Proofs.Ytcbjaomjamfjcaa
set_option linter.unusedSimpArgs false
set_option linter.unusedVariables false
open Go.RowKit

theorem keepG_hit {gs : List Gt} {g : Gt} {i : Nat} (h : idxOf (· == g) gs 0 = (i : Int)) : keepG gs g = ((i : Int), gs) := by
  unfold keepG; rw [h, if_neg (by omega)]
theorem keepG_miss {gs : List Gt} {g : Gt} (h : idxOf (· == g) gs 0 = -1) : keepG gs g = ((gs.length : Int), gs ++ [g]) := by
  unfold keepG; rw [h, if_pos (by omega)]
set_option maxHeartbeats 1600000 in
theorem l6Keep_o (base : Nat) (A : Option Addr) (n c : Nat) (x y z : Int) (gs : List Gt) (w : World) (ho : Own w base 86 3 A n c ((fl gs).map (Value.int .i64))) (hn : n ≤ 200) (HL : Hid (gs.length = n)) (hbase : base ≤ w.heap.size) :
    Calls Try.prog 133 #[.slice A n c, .agg #[.int .i64 x, .int .i64 y, .int .i64 z]] w fun e w' =>
      ∃ A' n' c', e = .returned (.tuple #[.int .i64 (keepG gs (x, y, z)).1, .slice A' n' c']) ∧ Hid ((keepG gs (x, y, z)).2.length = n') ∧ Own w' base 86 3 A' n' c' ((fl (keepG gs (x, y, z)).2).map (Value.int .i64)) ∧ w.grownBy w' (Value.slice A n c).ownBlock := by
  have h : Gates w A n gs := (ObF.of (e := 86) (sz := 3) ho (by omega)).gates
  have HB := hide (BoxAt.made w #[.int .i64 x, .int .i64 y, .int .i64 z] 86)
  have HO := hide ho
  have HG := hide h
  clear ho h
  go_enter Try.func133, Try.ntmps133
  go_wp2_with fail
  refine wp_loopF 27 _ rfl rfl [0, 3, 21, 22, 23, 24, 25, 26] rfl (fun fr wr => Ext w wr ∧ BoxAt wr w.heap.size 86 #[.int .i64 x, .int .i64 y, .int .i64 z] ∧ ∃ i : Nat, i ≤ n ∧ (fr 6) = .int .i64 (i : Int) ∧ Hid (idxOf (· == (x, y, z)) (gs.drop i) i = idxOf (· == (x, y, z)) gs 0)) (fun fr wr => n - (intOf (fr 6)).toNat) ?_ ?_
  · (exact ⟨by (repeat (first | with_reducible exact Ext.refl _ | with_reducible assumption | ((with_reducible refine Ext.setCell ?_ ?_ _); rotate_left; focus (first | omega | (simp <;> omega))) | with_reducible refine Ext.alloc ?_ _ | with_reducible refine Ext.drewN ?_ _ | with_reducible refine Ext.drew ?_ | with_reducible refine Ext.trans ?_ (by with_reducible assumption))), HB.out, 0, Nat.zero_le _, rfl, rfl⟩)
  intro ks fr wr hkept hrel; (try dsimp only at hrel)
  change Code.wp _ _ _ ⟨#[ks 0, fr 1, fr 2, ks 3, fr 4, fr 5, fr 6, fr 7, fr 8, fr 9, fr 10, fr 11, fr 12, fr 13, fr 14, fr 15, fr 16, fr 17, fr 18, fr 19, fr 20, ks 21, ks 22, ks 23, ks 24, ks 25, ks 26], []⟩ wr
  simp only [KeptV, List.getD_cons_zero, List.getD_cons_succ] at hkept; obtain ⟨hk0, hk3, hk21, hk22, hk23, hk24, hk25, hk26, -⟩ := hkept
  generalize ks 0 = k0 at hk0 ⊢; subst hk0
  generalize ks 3 = k3 at hk3 ⊢; subst hk3
  generalize ks 21 = k21 at hk21 ⊢; subst hk21
  generalize ks 22 = k22 at hk22 ⊢; subst hk22
  generalize ks 23 = k23 at hk23 ⊢; subst hk23
  generalize ks 24 = k24 at hk24 ⊢; subst hk24
  generalize ks 25 = k25 at hk25 ⊢; subst hk25
  generalize ks 26 = k26 at hk26 ⊢; subst hk26
  generalize fr 6 = s6 at hrel ⊢
  clear HB
  obtain ⟨he, hb, i, hi, hs1, hq⟩ := hrel
  subst hs1
  by_cases hlt : i < n
  · obtain ⟨g, k, a, b, rfl, hx, c0, c1, c2⟩ := (HG.out.ext he).at_ hlt
    have d0 : wr.cell? ⟨w.heap.size, 0, none⟩ = some (.int .i64 x) := hb.cell 0 _ rfl
    have d1 : wr.cell? ⟨w.heap.size, 1, none⟩ = some (.int .i64 y) := hb.cell 1 _ rfl
    have d2 : wr.cell? ⟨w.heap.size, 2, none⟩ = some (.int .i64 z) := hb.cell 2 _ rfl
    have hd := hide (idxOf_drop (p := (· == (x, y, z))) hx.out)
    have HE := hide he
    have HBx := hide hb
    by_cases hxy : (k, a, b) = (x, y, z)
    · obtain ⟨rfl, rfl, rfl⟩ : k = x ∧ a = y ∧ b = z := by simpa using hxy
      have hq' := hide (keepG_hit (gs := gs) (g := (k, a, b)) (i := i) (by rw [← hq.out, hd.out]; simp))
      clear hd hq hx hxy he hb
      go_wp2_with fail
      go_quiet (fail)
      go_wp2_with fail
      go_ret2
      exact ⟨_, _, _, by rw [hq'.out]; rfl, by rw [hq'.out]; exact HL, by rw [hq'.out]; exact HO.out.ext (HE.out.drewN _), (HE.out.drewN _).grownBy _⟩
    · have hq' : Hid (idxOf (· == (x, y, z)) (gs.drop (i + 1)) (i + 1) = idxOf (· == (x, y, z)) gs 0) := hide (by rw [← hq.out, hd.out]; simp [hxy])
      have HR : ∀ W, (binOp .eql 86 (.agg #[.int .i64 k, .int .i64 a, .int .i64 b]) (.agg #[.int .i64 x, .int .i64 y, .int .i64 z])).run Try.prog W = .ok (.bool false) W := fun W => by
        have h1 := gate_eq_run (k, a, b) (x, y, z) W
        rwa [show ((k, a, b) == (x, y, z)) = false from by rw [beq_eq_false_iff_ne]; exact hxy] at h1
      clear hd hq hx hxy he hb
      go_wp2_with fail
      go_quiet (fail)
      go_wp2_with fail
      exact ⟨⟨(by (repeat (first | exact trivial | refine ⟨rfl, ?_⟩))), HE.out.drewN _, HBx.out.ext ((Ext.refl _).drewN _), i + 1, by omega, by go_num, hq'⟩, (by simp [intOf] <;> omega)⟩
  · obtain rfl : i = n := by omega
    have hq' := hide (keepG_miss (gs := gs) (g := (x, y, z)) (by rw [← hq.out, List.drop_eq_nil_of_le (by rw [HL.out]; exact Nat.le_refl _)]; rfl))
    have d0 : wr.cell? ⟨w.heap.size, 0, none⟩ = some (.int .i64 x) := hb.cell 0 _ rfl
    have d1 : wr.cell? ⟨w.heap.size, 1, none⟩ = some (.int .i64 y) := hb.cell 1 _ rfl
    have d2 : wr.cell? ⟨w.heap.size, 2, none⟩ = some (.int .i64 z) := hb.cell 2 _ rfl
    have ox := HO.out.ext he
    have HE := hide he
    have hz := he.size
    clear hq hb he
    go_wp2_with (at_builtin; refine wpList_app rfl _ _ _ _ rfl Try.underlying24 _ 3 24 info_gate rfl (by decide) rfl ox 1 [.int .i64 x, .int .i64 y, .int .i64 z] (by first | rfl | simp [go_sem]) rfl ?_ ?_ ?_ ?_ ?_; (intro u hu; simp at hu; first | (subst hu; rfl) | (rcases hu with rfl | rfl <;> rfl) | (rcases hu with rfl | rfl | rfl <;> rfl) | (rcases hu with rfl | rfl | rfl | rfl <;> rfl) | (rcases hu with rfl | rfl | rfl | rfl | rfl <;> rfl) | (rcases hu with rfl | rfl | rfl | rfl | rfl | rfl <;> rfl)); omega; omega; (first | omega | (simp; omega)); intro A' c' w' ho' hg' hb')
    have HO2 := hide (gate_snoc ho')
    have HG2 := hide ((HE.out.grownBy (Value.slice A i c).ownBlock).trans hg')
    clear ho' hg' hb' ox
    go_ret2
    exact ⟨_, _, _, by rw [hq'.out, HL.out]; rfl, by rw [hq'.out]; simp [Hid, HL.out], by rw [hq'.out]; exact HO2.out, HG2.out⟩
end Go.Proofs.Ytcbjaomjamfjcaa
