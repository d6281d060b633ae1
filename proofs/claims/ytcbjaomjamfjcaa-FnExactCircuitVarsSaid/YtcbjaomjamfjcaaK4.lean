/-
  The values of a circuit's gates: both texts reckon the same list.
-/
import Derived.Test.YtcbjaomjamfjcaaK3
import Derived.Test.YtcbjaomjamfjcaaC8
namespace Go.Proofs.Ytcbjaomjamfjcaa
set_option linter.unusedSimpArgs false
set_option linter.unusedVariables false
open Go.RowKit

theorem info_bool : (Try.prog.info? 4).map (fun i => (i.zero, i.size, i.bytes)) = some (some (.bool false), 1, 1) := by kernel_rfl
theorem get_map_bool {xs : List Bool} {i : Nat} {x : Bool} (hx : xs[i]? = some x) : (xs.map Value.bool)[i]? = some (.bool x) := by rw [List.getElem?_map, hx]; rfl
theorem set_map_bool (xs : List Bool) (i : Nat) (x : Bool) : (xs.map Value.bool).set i (.bool x) = (xs.set i x).map Value.bool := by rw [List.map_set]
theorem gets_bool {xs : List Bool} {p : Nat} (h : p < xs.length) : ∃ x, xs.getD p false = x ∧ xs[p]? = some x := ⟨_, rfl, by rw [List.getD_eq_getElem?_getD, List.getElem?_eq_getElem h]; rfl⟩
theorem gvals_next {bt : Nat} {gs : List Gt} {i : Nat} {g : Gt} (hx : Hid (gs[i]? = some g)) : gvals bt gs (i + 1) = gvals bt gs i ++ [gval bt (gvals bt gs i) g] := by simp only [gvals, getD_of hx]
theorem set_front {α} (xs : List α) (z v : α) (m : Nat) : (xs ++ List.replicate (m + 1) z).set xs.length v = (xs ++ [v]) ++ List.replicate m z := by
  rw [List.set_append_right _ _ (Nat.le_refl _)]; simp [List.replicate_succ]
set_option maxRecDepth 100000 in
set_option maxHeartbeats 3200000 in
theorem l6Values_c (A : Option Addr) (n c bt : Nat) (gs : List Gt) (w : World) (h : Gates w A n gs) (hg : GoodG gs) (hn : n ≤ 200) (hb : bt ≤ 4096) :
    Calls Try.prog 75 #[.slice A n c, .int .i64 bt] w fun e w' => ∃ A' c', e = .returned (.slice A' n c') ∧ Own w' w.heap.size 4 1 A' n c' ((gvals bt gs n).map Value.bool) ∧ Ext w w' := by
  have HG := hide hg
  clear hg
  go_enter Try.func75, Try.ntmps75
  go_wp2_with fail
  refine wp_loopF 74 _ rfl rfl [0, 1, 73] rfl (fun fr wr => Ext w wr ∧ ∃ i : Nat, i ≤ n ∧ (fr 6) = .int .i64 i ∧ ∃ B c', (fr 5) = .slice B i c' ∧ Own wr w.heap.size 4 1 B i c' ((gvals bt gs i).map Value.bool)) (fun fr wr => n - (intOf (fr 6)).toNat) ?_ ?_
  · (exact ⟨by (repeat (first | with_reducible exact Ext.refl _ | with_reducible assumption | ((with_reducible refine Ext.setCell ?_ ?_ _); rotate_left; focus (first | omega | (simp <;> omega))) | with_reducible refine Ext.alloc ?_ _ | with_reducible refine Ext.drewN ?_ _ | with_reducible refine Ext.drew ?_ | with_reducible refine Ext.trans ?_ (by with_reducible assumption))), 0, by omega, rfl, _, _, rfl, Own.arr #[] 0 [] (Nat.le_refl _) (by decide) rfl rfl⟩)
  intro ks fr wr hkept hrel; (try dsimp only at hrel)
  change Code.wp _ _ _ ⟨#[ks 0, ks 1, fr 2, fr 3, fr 4, fr 5, fr 6, fr 7, fr 8, fr 9, fr 10, fr 11, fr 12, fr 13, fr 14, fr 15, fr 16, fr 17, fr 18, fr 19, fr 20, fr 21, fr 22, fr 23, fr 24, fr 25, fr 26, fr 27, fr 28, fr 29, fr 30, fr 31, fr 32, fr 33, fr 34, fr 35, fr 36, fr 37, fr 38, fr 39, fr 40, fr 41, fr 42, fr 43, fr 44, fr 45, fr 46, fr 47, fr 48, fr 49, fr 50, fr 51, fr 52, fr 53, fr 54, fr 55, fr 56, fr 57, fr 58, fr 59, fr 60, fr 61, fr 62, fr 63, fr 64, fr 65, fr 66, fr 67, fr 68, fr 69, fr 70, fr 71, fr 72, ks 73], []⟩ wr
  simp only [KeptV, List.getD_cons_zero, List.getD_cons_succ] at hkept; obtain ⟨hk0, hk1, hk73, -⟩ := hkept
  generalize ks 0 = k0 at hk0 ⊢; subst hk0
  generalize ks 1 = k1 at hk1 ⊢; subst hk1
  generalize ks 73 = k73 at hk73 ⊢; subst hk73
  generalize fr 5 = s5 at hrel ⊢
  generalize fr 6 = s6 at hrel ⊢
  obtain ⟨he, i, hi, hs1, B, c', hs2, ho⟩ := hrel
  subst hs1; subst hs2
  by_cases hlt : i < n
  · obtain ⟨g, k, a, b, rfl, hx, c0, c1, c2⟩ := (h.ext he).at_ hlt
    have hgood := HG.out i _ hx.out
    have HN := hide (gvals_next (bt := bt) hx)
    have HL := hide (gvals_length bt gs i)
    have hsz := he.size
    rcases gate_kinds k with rfl | rfl | rfl | rfl | rfl | rfl | hk
    · have h1 := hgood.2.2 rfl
      dsimp only at h1
      obtain ⟨m, rfl⟩ : ∃ m : Nat, a = (m : Int) + 1 := ⟨(a - 1).toNat, by omega⟩
      obtain ⟨V, hV⟩ : ∃ V, gval bt (gvals bt gs i) (1, (m : Int) + 1, b) = V := ⟨_, rfl⟩
      have hbe : (bits .and .i64 ((bt : Int) / 2 ^ m) 1 == 1) = V := by rw [← hV, bit_eq bt m (by omega)]; simp [gval]
      rw [hV] at HN
      clear hV hgood hx
      go_wp2_with (at_builtin; refine wpList_app rfl _ _ _ _ rfl Try.underlying31 _ 1 1 info_bool rfl (by decide) rfl (ho.alloc _) 1 [.bool V] (by first | rfl | simp [go_sem]) rfl ?_ ?_ ?_ ?_ ?_; (intro u hu; simp at hu; first | (subst hu; rfl) | (rcases hu with rfl | rfl <;> rfl) | (rcases hu with rfl | rfl | rfl <;> rfl) | (rcases hu with rfl | rfl | rfl | rfl <;> rfl) | (rcases hu with rfl | rfl | rfl | rfl | rfl <;> rfl) | (rcases hu with rfl | rfl | rfl | rfl | rfl | rfl <;> rfl)); omega; omega; (first | omega | (simp; omega)); intro A' c' w' ho' hg' hb')
      exact ⟨⟨(by (repeat (first | exact trivial | refine ⟨rfl, ?_⟩))), Ext.own (by (repeat (first | with_reducible exact Ext.refl _ | with_reducible assumption | ((with_reducible refine Ext.setCell ?_ ?_ _); rotate_left; focus (first | omega | (simp <;> omega))) | with_reducible refine Ext.alloc ?_ _ | with_reducible refine Ext.drewN ?_ _ | with_reducible refine Ext.drew ?_ | with_reducible refine Ext.trans ?_ (by with_reducible assumption)))) (ho.alloc _) hg', i + 1, by omega, by go_num, _, _, rfl, by rw [HN.out]; simpa using ho'⟩, (by simp [intOf] <;> omega)⟩
    · have hV : gval bt (gvals bt gs i) (2, a, b) = true := by simp [gval]
      rw [hV] at HN
      clear hV hgood hx
      go_wp2_with (at_builtin; refine wpList_app rfl _ _ _ _ rfl Try.underlying31 _ 1 1 info_bool rfl (by decide) rfl (ho.alloc _) 1 [.bool true] (by first | rfl | simp [go_sem]) rfl ?_ ?_ ?_ ?_ ?_; (intro u hu; simp at hu; first | (subst hu; rfl) | (rcases hu with rfl | rfl <;> rfl) | (rcases hu with rfl | rfl | rfl <;> rfl) | (rcases hu with rfl | rfl | rfl | rfl <;> rfl) | (rcases hu with rfl | rfl | rfl | rfl | rfl <;> rfl) | (rcases hu with rfl | rfl | rfl | rfl | rfl | rfl <;> rfl)); omega; omega; (first | omega | (simp; omega)); intro A' c' w' ho' hg' hb')
      exact ⟨⟨(by (repeat (first | exact trivial | refine ⟨rfl, ?_⟩))), Ext.own (by (repeat (first | with_reducible exact Ext.refl _ | with_reducible assumption | ((with_reducible refine Ext.setCell ?_ ?_ _); rotate_left; focus (first | omega | (simp <;> omega))) | with_reducible refine Ext.alloc ?_ _ | with_reducible refine Ext.drewN ?_ _ | with_reducible refine Ext.drew ?_ | with_reducible refine Ext.trans ?_ (by with_reducible assumption)))) (ho.alloc _) hg', i + 1, by omega, by go_num, _, _, rfl, by rw [HN.out]; simpa using ho'⟩, (by simp [intOf] <;> omega)⟩
    · have hV : gval bt (gvals bt gs i) (3, a, b) = false := by simp [gval]
      rw [hV] at HN
      clear hV hgood hx
      go_wp2_with (at_builtin; refine wpList_app rfl _ _ _ _ rfl Try.underlying31 _ 1 1 info_bool rfl (by decide) rfl (ho.alloc _) 1 [.bool false] (by first | rfl | simp [go_sem]) rfl ?_ ?_ ?_ ?_ ?_; (intro u hu; simp at hu; first | (subst hu; rfl) | (rcases hu with rfl | rfl <;> rfl) | (rcases hu with rfl | rfl | rfl <;> rfl) | (rcases hu with rfl | rfl | rfl | rfl <;> rfl) | (rcases hu with rfl | rfl | rfl | rfl | rfl <;> rfl) | (rcases hu with rfl | rfl | rfl | rfl | rfl | rfl <;> rfl)); omega; omega; (first | omega | (simp; omega)); intro A' c' w' ho' hg' hb')
      exact ⟨⟨(by (repeat (first | exact trivial | refine ⟨rfl, ?_⟩))), Ext.own (by (repeat (first | with_reducible exact Ext.refl _ | with_reducible assumption | ((with_reducible refine Ext.setCell ?_ ?_ _); rotate_left; focus (first | omega | (simp <;> omega))) | with_reducible refine Ext.alloc ?_ _ | with_reducible refine Ext.drewN ?_ _ | with_reducible refine Ext.drew ?_ | with_reducible refine Ext.trans ?_ (by with_reducible assumption)))) (ho.alloc _) hg', i + 1, by omega, by go_num, _, _, rfl, by rw [HN.out]; simpa using ho'⟩, (by simp [intOf] <;> omega)⟩
    · have h1 := hgood.2.1 a (by simp [insG])
      obtain ⟨p, rfl⟩ : ∃ p : Nat, a = (p : Int) := ⟨a.toNat, by omega⟩
      obtain ⟨gB, rfl, hgB1, hgB2⟩ := ho.form (by omega)
      obtain ⟨x, hxd, hxg⟩ := gets_bool (xs := gvals bt gs i) (p := p) (by rw [HL.out]; omega)
      have cx := ho.cell (get_map_bool hxg)
      have hV : gval bt (gvals bt gs i) (4, (p : Int), b) = (!x) := by simp [gval, ← hxd]
      rw [hV] at HN
      clear hV hgood hx hxd hxg
      cases x
      · go_wp2_with (at_builtin; refine wpList_app rfl _ _ _ _ rfl Try.underlying31 _ 1 1 info_bool rfl (by decide) rfl (ho.alloc _) 1 [.bool true] (by first | rfl | simp [go_sem]) rfl ?_ ?_ ?_ ?_ ?_; (intro u hu; simp at hu; first | (subst hu; rfl) | (rcases hu with rfl | rfl <;> rfl) | (rcases hu with rfl | rfl | rfl <;> rfl) | (rcases hu with rfl | rfl | rfl | rfl <;> rfl) | (rcases hu with rfl | rfl | rfl | rfl | rfl <;> rfl) | (rcases hu with rfl | rfl | rfl | rfl | rfl | rfl <;> rfl)); omega; omega; (first | omega | (simp; omega)); intro A' c' w' ho' hg' hb')
        exact ⟨⟨(by (repeat (first | exact trivial | refine ⟨rfl, ?_⟩))), Ext.own (by (repeat (first | with_reducible exact Ext.refl _ | with_reducible assumption | ((with_reducible refine Ext.setCell ?_ ?_ _); rotate_left; focus (first | omega | (simp <;> omega))) | with_reducible refine Ext.alloc ?_ _ | with_reducible refine Ext.drewN ?_ _ | with_reducible refine Ext.drew ?_ | with_reducible refine Ext.trans ?_ (by with_reducible assumption)))) (ho.alloc _) hg', i + 1, by omega, by go_num, _, _, rfl, by rw [HN.out]; simpa using ho'⟩, (by simp [intOf] <;> omega)⟩
      · go_wp2_with (at_builtin; refine wpList_app rfl _ _ _ _ rfl Try.underlying31 _ 1 1 info_bool rfl (by decide) rfl (ho.alloc _) 1 [.bool false] (by first | rfl | simp [go_sem]) rfl ?_ ?_ ?_ ?_ ?_; (intro u hu; simp at hu; first | (subst hu; rfl) | (rcases hu with rfl | rfl <;> rfl) | (rcases hu with rfl | rfl | rfl <;> rfl) | (rcases hu with rfl | rfl | rfl | rfl <;> rfl) | (rcases hu with rfl | rfl | rfl | rfl | rfl <;> rfl) | (rcases hu with rfl | rfl | rfl | rfl | rfl | rfl <;> rfl)); omega; omega; (first | omega | (simp; omega)); intro A' c' w' ho' hg' hb')
        exact ⟨⟨(by (repeat (first | exact trivial | refine ⟨rfl, ?_⟩))), Ext.own (by (repeat (first | with_reducible exact Ext.refl _ | with_reducible assumption | ((with_reducible refine Ext.setCell ?_ ?_ _); rotate_left; focus (first | omega | (simp <;> omega))) | with_reducible refine Ext.alloc ?_ _ | with_reducible refine Ext.drewN ?_ _ | with_reducible refine Ext.drew ?_ | with_reducible refine Ext.trans ?_ (by with_reducible assumption)))) (ho.alloc _) hg', i + 1, by omega, by go_num, _, _, rfl, by rw [HN.out]; simpa using ho'⟩, (by simp [intOf] <;> omega)⟩
    · have h1 := hgood.2.1 a (by simp [insG])
      have h2 := hgood.2.1 b (by simp [insG])
      obtain ⟨p, rfl⟩ : ∃ p : Nat, a = (p : Int) := ⟨a.toNat, by omega⟩
      obtain ⟨q, rfl⟩ : ∃ q : Nat, b = (q : Int) := ⟨b.toNat, by omega⟩
      obtain ⟨gB, rfl, hgB1, hgB2⟩ := ho.form (by omega)
      obtain ⟨x, hxd, hxg⟩ := gets_bool (xs := gvals bt gs i) (p := p) (by rw [HL.out]; omega)
      have cx := ho.cell (get_map_bool hxg)
      obtain ⟨y, hyd, hyg⟩ := gets_bool (xs := gvals bt gs i) (p := q) (by rw [HL.out]; omega)
      have cy := ho.cell (get_map_bool hyg)
      have hV : gval bt (gvals bt gs i) (5, (p : Int), (q : Int)) = (x && y) := by simp [gval, ← hxd, ← hyd]
      rw [hV] at HN
      clear hV hgood hx hxd hxg hyd hyg
      cases x <;> cases y
      · go_wp2_with (at_builtin; refine wpList_app rfl _ _ _ _ rfl Try.underlying31 _ 1 1 info_bool rfl (by decide) rfl (ho.alloc _) 1 [.bool false] (by first | rfl | simp [go_sem]) rfl ?_ ?_ ?_ ?_ ?_; (intro u hu; simp at hu; first | (subst hu; rfl) | (rcases hu with rfl | rfl <;> rfl) | (rcases hu with rfl | rfl | rfl <;> rfl) | (rcases hu with rfl | rfl | rfl | rfl <;> rfl) | (rcases hu with rfl | rfl | rfl | rfl | rfl <;> rfl) | (rcases hu with rfl | rfl | rfl | rfl | rfl | rfl <;> rfl)); omega; omega; (first | omega | (simp; omega)); intro A' c' w' ho' hg' hb')
        exact ⟨⟨(by (repeat (first | exact trivial | refine ⟨rfl, ?_⟩))), Ext.own (by (repeat (first | with_reducible exact Ext.refl _ | with_reducible assumption | ((with_reducible refine Ext.setCell ?_ ?_ _); rotate_left; focus (first | omega | (simp <;> omega))) | with_reducible refine Ext.alloc ?_ _ | with_reducible refine Ext.drewN ?_ _ | with_reducible refine Ext.drew ?_ | with_reducible refine Ext.trans ?_ (by with_reducible assumption)))) (ho.alloc _) hg', i + 1, by omega, by go_num, _, _, rfl, by rw [HN.out]; simpa using ho'⟩, (by simp [intOf] <;> omega)⟩
      · go_wp2_with (at_builtin; refine wpList_app rfl _ _ _ _ rfl Try.underlying31 _ 1 1 info_bool rfl (by decide) rfl (ho.alloc _) 1 [.bool false] (by first | rfl | simp [go_sem]) rfl ?_ ?_ ?_ ?_ ?_; (intro u hu; simp at hu; first | (subst hu; rfl) | (rcases hu with rfl | rfl <;> rfl) | (rcases hu with rfl | rfl | rfl <;> rfl) | (rcases hu with rfl | rfl | rfl | rfl <;> rfl) | (rcases hu with rfl | rfl | rfl | rfl | rfl <;> rfl) | (rcases hu with rfl | rfl | rfl | rfl | rfl | rfl <;> rfl)); omega; omega; (first | omega | (simp; omega)); intro A' c' w' ho' hg' hb')
        exact ⟨⟨(by (repeat (first | exact trivial | refine ⟨rfl, ?_⟩))), Ext.own (by (repeat (first | with_reducible exact Ext.refl _ | with_reducible assumption | ((with_reducible refine Ext.setCell ?_ ?_ _); rotate_left; focus (first | omega | (simp <;> omega))) | with_reducible refine Ext.alloc ?_ _ | with_reducible refine Ext.drewN ?_ _ | with_reducible refine Ext.drew ?_ | with_reducible refine Ext.trans ?_ (by with_reducible assumption)))) (ho.alloc _) hg', i + 1, by omega, by go_num, _, _, rfl, by rw [HN.out]; simpa using ho'⟩, (by simp [intOf] <;> omega)⟩
      · go_wp2_with (at_builtin; refine wpList_app rfl _ _ _ _ rfl Try.underlying31 _ 1 1 info_bool rfl (by decide) rfl (ho.alloc _) 1 [.bool false] (by first | rfl | simp [go_sem]) rfl ?_ ?_ ?_ ?_ ?_; (intro u hu; simp at hu; first | (subst hu; rfl) | (rcases hu with rfl | rfl <;> rfl) | (rcases hu with rfl | rfl | rfl <;> rfl) | (rcases hu with rfl | rfl | rfl | rfl <;> rfl) | (rcases hu with rfl | rfl | rfl | rfl | rfl <;> rfl) | (rcases hu with rfl | rfl | rfl | rfl | rfl | rfl <;> rfl)); omega; omega; (first | omega | (simp; omega)); intro A' c' w' ho' hg' hb')
        exact ⟨⟨(by (repeat (first | exact trivial | refine ⟨rfl, ?_⟩))), Ext.own (by (repeat (first | with_reducible exact Ext.refl _ | with_reducible assumption | ((with_reducible refine Ext.setCell ?_ ?_ _); rotate_left; focus (first | omega | (simp <;> omega))) | with_reducible refine Ext.alloc ?_ _ | with_reducible refine Ext.drewN ?_ _ | with_reducible refine Ext.drew ?_ | with_reducible refine Ext.trans ?_ (by with_reducible assumption)))) (ho.alloc _) hg', i + 1, by omega, by go_num, _, _, rfl, by rw [HN.out]; simpa using ho'⟩, (by simp [intOf] <;> omega)⟩
      · go_wp2_with (at_builtin; refine wpList_app rfl _ _ _ _ rfl Try.underlying31 _ 1 1 info_bool rfl (by decide) rfl (ho.alloc _) 1 [.bool true] (by first | rfl | simp [go_sem]) rfl ?_ ?_ ?_ ?_ ?_; (intro u hu; simp at hu; first | (subst hu; rfl) | (rcases hu with rfl | rfl <;> rfl) | (rcases hu with rfl | rfl | rfl <;> rfl) | (rcases hu with rfl | rfl | rfl | rfl <;> rfl) | (rcases hu with rfl | rfl | rfl | rfl | rfl <;> rfl) | (rcases hu with rfl | rfl | rfl | rfl | rfl | rfl <;> rfl)); omega; omega; (first | omega | (simp; omega)); intro A' c' w' ho' hg' hb')
        exact ⟨⟨(by (repeat (first | exact trivial | refine ⟨rfl, ?_⟩))), Ext.own (by (repeat (first | with_reducible exact Ext.refl _ | with_reducible assumption | ((with_reducible refine Ext.setCell ?_ ?_ _); rotate_left; focus (first | omega | (simp <;> omega))) | with_reducible refine Ext.alloc ?_ _ | with_reducible refine Ext.drewN ?_ _ | with_reducible refine Ext.drew ?_ | with_reducible refine Ext.trans ?_ (by with_reducible assumption)))) (ho.alloc _) hg', i + 1, by omega, by go_num, _, _, rfl, by rw [HN.out]; simpa using ho'⟩, (by simp [intOf] <;> omega)⟩
    · have h1 := hgood.2.1 a (by simp [insG])
      have h2 := hgood.2.1 b (by simp [insG])
      obtain ⟨p, rfl⟩ : ∃ p : Nat, a = (p : Int) := ⟨a.toNat, by omega⟩
      obtain ⟨q, rfl⟩ : ∃ q : Nat, b = (q : Int) := ⟨b.toNat, by omega⟩
      obtain ⟨gB, rfl, hgB1, hgB2⟩ := ho.form (by omega)
      obtain ⟨x, hxd, hxg⟩ := gets_bool (xs := gvals bt gs i) (p := p) (by rw [HL.out]; omega)
      have cx := ho.cell (get_map_bool hxg)
      obtain ⟨y, hyd, hyg⟩ := gets_bool (xs := gvals bt gs i) (p := q) (by rw [HL.out]; omega)
      have cy := ho.cell (get_map_bool hyg)
      have hV : gval bt (gvals bt gs i) (6, (p : Int), (q : Int)) = (x || y) := by simp [gval, ← hxd, ← hyd]
      rw [hV] at HN
      clear hV hgood hx hxd hxg hyd hyg
      cases x <;> cases y
      · go_wp2_with (at_builtin; refine wpList_app rfl _ _ _ _ rfl Try.underlying31 _ 1 1 info_bool rfl (by decide) rfl (ho.alloc _) 1 [.bool false] (by first | rfl | simp [go_sem]) rfl ?_ ?_ ?_ ?_ ?_; (intro u hu; simp at hu; first | (subst hu; rfl) | (rcases hu with rfl | rfl <;> rfl) | (rcases hu with rfl | rfl | rfl <;> rfl) | (rcases hu with rfl | rfl | rfl | rfl <;> rfl) | (rcases hu with rfl | rfl | rfl | rfl | rfl <;> rfl) | (rcases hu with rfl | rfl | rfl | rfl | rfl | rfl <;> rfl)); omega; omega; (first | omega | (simp; omega)); intro A' c' w' ho' hg' hb')
        exact ⟨⟨(by (repeat (first | exact trivial | refine ⟨rfl, ?_⟩))), Ext.own (by (repeat (first | with_reducible exact Ext.refl _ | with_reducible assumption | ((with_reducible refine Ext.setCell ?_ ?_ _); rotate_left; focus (first | omega | (simp <;> omega))) | with_reducible refine Ext.alloc ?_ _ | with_reducible refine Ext.drewN ?_ _ | with_reducible refine Ext.drew ?_ | with_reducible refine Ext.trans ?_ (by with_reducible assumption)))) (ho.alloc _) hg', i + 1, by omega, by go_num, _, _, rfl, by rw [HN.out]; simpa using ho'⟩, (by simp [intOf] <;> omega)⟩
      · go_wp2_with (at_builtin; refine wpList_app rfl _ _ _ _ rfl Try.underlying31 _ 1 1 info_bool rfl (by decide) rfl (ho.alloc _) 1 [.bool true] (by first | rfl | simp [go_sem]) rfl ?_ ?_ ?_ ?_ ?_; (intro u hu; simp at hu; first | (subst hu; rfl) | (rcases hu with rfl | rfl <;> rfl) | (rcases hu with rfl | rfl | rfl <;> rfl) | (rcases hu with rfl | rfl | rfl | rfl <;> rfl) | (rcases hu with rfl | rfl | rfl | rfl | rfl <;> rfl) | (rcases hu with rfl | rfl | rfl | rfl | rfl | rfl <;> rfl)); omega; omega; (first | omega | (simp; omega)); intro A' c' w' ho' hg' hb')
        exact ⟨⟨(by (repeat (first | exact trivial | refine ⟨rfl, ?_⟩))), Ext.own (by (repeat (first | with_reducible exact Ext.refl _ | with_reducible assumption | ((with_reducible refine Ext.setCell ?_ ?_ _); rotate_left; focus (first | omega | (simp <;> omega))) | with_reducible refine Ext.alloc ?_ _ | with_reducible refine Ext.drewN ?_ _ | with_reducible refine Ext.drew ?_ | with_reducible refine Ext.trans ?_ (by with_reducible assumption)))) (ho.alloc _) hg', i + 1, by omega, by go_num, _, _, rfl, by rw [HN.out]; simpa using ho'⟩, (by simp [intOf] <;> omega)⟩
      · go_wp2_with (at_builtin; refine wpList_app rfl _ _ _ _ rfl Try.underlying31 _ 1 1 info_bool rfl (by decide) rfl (ho.alloc _) 1 [.bool true] (by first | rfl | simp [go_sem]) rfl ?_ ?_ ?_ ?_ ?_; (intro u hu; simp at hu; first | (subst hu; rfl) | (rcases hu with rfl | rfl <;> rfl) | (rcases hu with rfl | rfl | rfl <;> rfl) | (rcases hu with rfl | rfl | rfl | rfl <;> rfl) | (rcases hu with rfl | rfl | rfl | rfl | rfl <;> rfl) | (rcases hu with rfl | rfl | rfl | rfl | rfl | rfl <;> rfl)); omega; omega; (first | omega | (simp; omega)); intro A' c' w' ho' hg' hb')
        exact ⟨⟨(by (repeat (first | exact trivial | refine ⟨rfl, ?_⟩))), Ext.own (by (repeat (first | with_reducible exact Ext.refl _ | with_reducible assumption | ((with_reducible refine Ext.setCell ?_ ?_ _); rotate_left; focus (first | omega | (simp <;> omega))) | with_reducible refine Ext.alloc ?_ _ | with_reducible refine Ext.drewN ?_ _ | with_reducible refine Ext.drew ?_ | with_reducible refine Ext.trans ?_ (by with_reducible assumption)))) (ho.alloc _) hg', i + 1, by omega, by go_num, _, _, rfl, by rw [HN.out]; simpa using ho'⟩, (by simp [intOf] <;> omega)⟩
      · go_wp2_with (at_builtin; refine wpList_app rfl _ _ _ _ rfl Try.underlying31 _ 1 1 info_bool rfl (by decide) rfl (ho.alloc _) 1 [.bool true] (by first | rfl | simp [go_sem]) rfl ?_ ?_ ?_ ?_ ?_; (intro u hu; simp at hu; first | (subst hu; rfl) | (rcases hu with rfl | rfl <;> rfl) | (rcases hu with rfl | rfl | rfl <;> rfl) | (rcases hu with rfl | rfl | rfl | rfl <;> rfl) | (rcases hu with rfl | rfl | rfl | rfl | rfl <;> rfl) | (rcases hu with rfl | rfl | rfl | rfl | rfl | rfl <;> rfl)); omega; omega; (first | omega | (simp; omega)); intro A' c' w' ho' hg' hb')
        exact ⟨⟨(by (repeat (first | exact trivial | refine ⟨rfl, ?_⟩))), Ext.own (by (repeat (first | with_reducible exact Ext.refl _ | with_reducible assumption | ((with_reducible refine Ext.setCell ?_ ?_ _); rotate_left; focus (first | omega | (simp <;> omega))) | with_reducible refine Ext.alloc ?_ _ | with_reducible refine Ext.drewN ?_ _ | with_reducible refine Ext.drew ?_ | with_reducible refine Ext.trans ?_ (by with_reducible assumption)))) (ho.alloc _) hg', i + 1, by omega, by go_num, _, _, rfl, by rw [HN.out]; simpa using ho'⟩, (by simp [intOf] <;> omega)⟩
    · exact absurd hgood.1 (by dsimp only; omega)
  · obtain rfl : i = n := by omega
    go_wp2
    go_ret
    exact ⟨_, _, rfl, ho, he⟩
theorem Own.frontSet {w : World} {base g n c : Nat} {e : TypeId} {xs ys : List Bool} {m : Nat} (h : Own w base e 1 (some ⟨g, 0, none⟩) n c ((xs ++ List.replicate (m + 1) false).map Value.bool)) (v : Bool) (j : Nat) (hy : Hid (ys = xs ++ [v])) (hj : Hid (xs.length = j)) :
    Own (w.setCell ⟨g, j, none⟩ (.bool v)) base e 1 (some ⟨g, 0, none⟩) n c ((ys ++ List.replicate m false).map Value.bool) := by
  have h1 := h.store j (.bool v)
  rw [set_map_bool, ← hj.out, set_front, ← hy.out, hj.out] at h1
  exact h1
theorem Own.frontSkip {w : World} {base g n c : Nat} {e : TypeId} {xs ys : List Bool} {m : Nat} (h : Own w base e 1 (some ⟨g, 0, none⟩) n c ((xs ++ List.replicate (m + 1) false).map Value.bool)) (hy : Hid (ys = xs ++ [false])) :
    Own w base e 1 (some ⟨g, 0, none⟩) n c ((ys ++ List.replicate m false).map Value.bool) := by
  have h1 := hy.out
  rw [h1, List.append_assoc]
  simpa [List.replicate_succ] using h
theorem get_front {xs : List Bool} {p : Nat} {x : Bool} {ys : List Bool} (h : xs[p]? = some x) : (xs ++ ys)[p]? = some x := by
  rw [List.getElem?_append_left (List.getElem?_eq_some_iff.1 h).1, h]
theorem get_mid {xs : List Bool} {i m : Nat} (h : xs.length = i) : (xs ++ List.replicate (m + 1) false)[i]? = some false := by
  subst h; simp [List.replicate_succ]
set_option maxRecDepth 100000 in
set_option maxHeartbeats 3200000 in
theorem gateValues_c (A : Option Addr) (n c bt : Nat) (gs : List Gt) (w : World) (h : Gates w A n gs) (hg : GoodG gs) (hn : n ≤ 200) (hb : bt ≤ 4096) :
    Calls Try.prog 77 #[.slice A n c, .int .i64 bt] w fun e w' => ∃ A' c', e = .returned (.slice A' n c') ∧ Own w' w.heap.size 4 1 A' n c' ((gvals bt gs n).map Value.bool) ∧ Ext w w' := by
  have HG := hide hg
  clear hg
  have hmk := fun W => make_eq (P := Try.prog) 31 4 Try.underlying31 _ 1 info_bool rfl n (by omega) (by omega) W
  go_enter Try.func77, Try.ntmps77
  go_wp2_with fail
  clear hmk
  refine wp_loopF 84 _ rfl rfl [1, 5, 11, 12, 83] rfl (fun fr wr => Ext w wr ∧ ∃ i m : Nat, Hid (i + m = n) ∧ (fr 13) = .int .i64 i ∧ Own wr w.heap.size 4 1 (some ⟨w.heap.size, 0, none⟩) n n ((gvals bt gs i ++ List.replicate m false).map Value.bool)) (fun fr wr => n - (intOf (fr 13)).toNat) ?_ ?_
  · (exact ⟨by (repeat (first | with_reducible exact Ext.refl _ | with_reducible assumption | ((with_reducible refine Ext.setCell ?_ ?_ _); rotate_left; focus (first | omega | (simp <;> omega))) | with_reducible refine Ext.alloc ?_ _ | with_reducible refine Ext.drewN ?_ _ | with_reducible refine Ext.drew ?_ | with_reducible refine Ext.trans ?_ (by with_reducible assumption))), 0, n, by simp [Hid], rfl, by simpa [gvals] using Own.made _ n (Nat.le_refl _) (by simp only [maxLen]; omega)⟩)
  intro ks fr wr hkept hrel; (try dsimp only at hrel)
  change Code.wp _ _ _ ⟨#[fr 0, ks 1, fr 2, fr 3, fr 4, ks 5, fr 6, fr 7, fr 8, fr 9, fr 10, ks 11, ks 12, fr 13, fr 14, fr 15, fr 16, fr 17, fr 18, fr 19, fr 20, fr 21, fr 22, fr 23, fr 24, fr 25, fr 26, fr 27, fr 28, fr 29, fr 30, fr 31, fr 32, fr 33, fr 34, fr 35, fr 36, fr 37, fr 38, fr 39, fr 40, fr 41, fr 42, fr 43, fr 44, fr 45, fr 46, fr 47, fr 48, fr 49, fr 50, fr 51, fr 52, fr 53, fr 54, fr 55, fr 56, fr 57, fr 58, fr 59, fr 60, fr 61, fr 62, fr 63, fr 64, fr 65, fr 66, fr 67, fr 68, fr 69, fr 70, fr 71, fr 72, fr 73, fr 74, fr 75, fr 76, fr 77, fr 78, fr 79, fr 80, fr 81, fr 82, ks 83], []⟩ wr
  simp only [KeptV, List.getD_cons_zero, List.getD_cons_succ] at hkept; obtain ⟨hk1, hk5, hk11, hk12, hk83, -⟩ := hkept
  generalize ks 1 = k1 at hk1 ⊢; subst hk1
  generalize ks 5 = k5 at hk5 ⊢; subst hk5
  generalize ks 11 = k11 at hk11 ⊢; subst hk11
  generalize ks 12 = k12 at hk12 ⊢; subst hk12
  generalize ks 83 = k83 at hk83 ⊢; subst hk83
  generalize fr 13 = s13 at hrel ⊢
  obtain ⟨he, i, m, hm, hs1, ho⟩ := hrel
  subst hs1
  cases m with
  | zero =>
    obtain rfl : i = n := hm.out
    go_wp2
    go_ret
    exact ⟨_, _, rfl, by simpa using ho, he⟩
  | succ m =>
    have hlt : i < n := by have := hm.out; omega
    have hm2 : Hid (i + 1 + m = n) := hide (by have := hm.out; omega)
    obtain ⟨g, k, a, b, rfl, hx, c0, c1, c2⟩ := (h.ext he).at_ hlt
    have hgood := HG.out i _ hx.out
    have HN := hide (gvals_next (bt := bt) hx)
    have HL := hide (gvals_length bt gs i)
    have hsz := he.size
    have d0 := ho.cell (get_map_bool (get_mid (m := m) HL.out))
    have f0 := ho.frozen i
    have hbl : w.heap.size < wr.heap.size := World.block_lt_of_cell? _ _ d0
    rcases gate_kinds k with rfl | rfl | rfl | rfl | rfl | rfl | hk
    · have h1 := hgood.2.2 rfl
      dsimp only at h1
      obtain ⟨q, rfl⟩ : ∃ q : Nat, a = (q : Int) + 1 := ⟨(a - 1).toNat, by omega⟩
      obtain ⟨V, hV⟩ : ∃ V, gval bt (gvals bt gs i) (1, (q : Int) + 1, b) = V := ⟨_, rfl⟩
      have hbe : (bits .and .i64 ((bt : Int) / 2 ^ q) 1 == 1) = V := by rw [← hV, bit_eq bt q (by omega)]; simp [gval]
      rw [hV] at HN
      clear hV hgood hx
      go_wp2_with fail
      exact ⟨⟨(by (repeat (first | exact trivial | refine ⟨rfl, ?_⟩))), (he.setCell (Nat.le_refl _) _).alloc _, i + 1, m, hm2, by go_num, (ho.frontSet V i HN HL).alloc _⟩, (by simp [intOf] <;> omega)⟩
    · have hV : gval bt (gvals bt gs i) (2, a, b) = true := by simp [gval]
      rw [hV] at HN
      clear hV hgood hx
      go_wp2_with fail
      exact ⟨⟨(by (repeat (first | exact trivial | refine ⟨rfl, ?_⟩))), (he.setCell (Nat.le_refl _) _).alloc _, i + 1, m, hm2, by go_num, (ho.frontSet true i HN HL).alloc _⟩, (by simp [intOf] <;> omega)⟩
    · have hV : gval bt (gvals bt gs i) (3, a, b) = false := by simp [gval]
      rw [hV] at HN
      clear hV hgood hx
      go_wp2_with fail
      exact ⟨⟨(by (repeat (first | exact trivial | refine ⟨rfl, ?_⟩))), he.alloc _, i + 1, m, hm2, by go_num, (ho.alloc _).frontSkip HN⟩, (by simp [intOf] <;> omega)⟩
    · have h1 := hgood.2.1 a (by simp [insG])
      obtain ⟨p, rfl⟩ : ∃ p : Nat, a = (p : Int) := ⟨a.toNat, by omega⟩
      obtain ⟨x, hxd, hxg⟩ := gets_bool (xs := gvals bt gs i) (p := p) (by rw [HL.out]; omega)
      have cx := ho.cell (get_map_bool (get_front hxg))
      have hV : gval bt (gvals bt gs i) (4, (p : Int), b) = (!x) := by simp [gval, ← hxd]
      rw [hV] at HN
      clear hV hgood hx hxd hxg
      cases x
      · go_wp2_with fail
        exact ⟨⟨(by (repeat (first | exact trivial | refine ⟨rfl, ?_⟩))), (he.setCell (Nat.le_refl _) _).alloc _, i + 1, m, hm2, by go_num, (ho.frontSet true i HN HL).alloc _⟩, (by simp [intOf] <;> omega)⟩
      · go_wp2_with fail
        exact ⟨⟨(by (repeat (first | exact trivial | refine ⟨rfl, ?_⟩))), (he.setCell (Nat.le_refl _) _).alloc _, i + 1, m, hm2, by go_num, (ho.frontSet false i HN HL).alloc _⟩, (by simp [intOf] <;> omega)⟩
    · have h1 := hgood.2.1 a (by simp [insG])
      have h2 := hgood.2.1 b (by simp [insG])
      obtain ⟨p, rfl⟩ : ∃ p : Nat, a = (p : Int) := ⟨a.toNat, by omega⟩
      obtain ⟨q, rfl⟩ : ∃ q : Nat, b = (q : Int) := ⟨b.toNat, by omega⟩
      obtain ⟨x, hxd, hxg⟩ := gets_bool (xs := gvals bt gs i) (p := p) (by rw [HL.out]; omega)
      have cx := ho.cell (get_map_bool (get_front hxg))
      obtain ⟨y, hyd, hyg⟩ := gets_bool (xs := gvals bt gs i) (p := q) (by rw [HL.out]; omega)
      have cy := ho.cell (get_map_bool (get_front hyg))
      have hV : gval bt (gvals bt gs i) (5, (p : Int), (q : Int)) = (x && y) := by simp [gval, ← hxd, ← hyd]
      rw [hV] at HN
      clear hV hgood hx hxd hxg hyd hyg
      cases x <;> cases y
      · go_wp2_with fail
        exact ⟨⟨(by (repeat (first | exact trivial | refine ⟨rfl, ?_⟩))), (he.setCell (Nat.le_refl _) _).alloc _, i + 1, m, hm2, by go_num, (ho.frontSet false i HN HL).alloc _⟩, (by simp [intOf] <;> omega)⟩
      · go_wp2_with fail
        exact ⟨⟨(by (repeat (first | exact trivial | refine ⟨rfl, ?_⟩))), (he.setCell (Nat.le_refl _) _).alloc _, i + 1, m, hm2, by go_num, (ho.frontSet false i HN HL).alloc _⟩, (by simp [intOf] <;> omega)⟩
      · go_wp2_with fail
        exact ⟨⟨(by (repeat (first | exact trivial | refine ⟨rfl, ?_⟩))), (he.setCell (Nat.le_refl _) _).alloc _, i + 1, m, hm2, by go_num, (ho.frontSet false i HN HL).alloc _⟩, (by simp [intOf] <;> omega)⟩
      · go_wp2_with fail
        exact ⟨⟨(by (repeat (first | exact trivial | refine ⟨rfl, ?_⟩))), (he.setCell (Nat.le_refl _) _).alloc _, i + 1, m, hm2, by go_num, (ho.frontSet true i HN HL).alloc _⟩, (by simp [intOf] <;> omega)⟩
    · have h1 := hgood.2.1 a (by simp [insG])
      have h2 := hgood.2.1 b (by simp [insG])
      obtain ⟨p, rfl⟩ : ∃ p : Nat, a = (p : Int) := ⟨a.toNat, by omega⟩
      obtain ⟨q, rfl⟩ : ∃ q : Nat, b = (q : Int) := ⟨b.toNat, by omega⟩
      obtain ⟨x, hxd, hxg⟩ := gets_bool (xs := gvals bt gs i) (p := p) (by rw [HL.out]; omega)
      have cx := ho.cell (get_map_bool (get_front hxg))
      obtain ⟨y, hyd, hyg⟩ := gets_bool (xs := gvals bt gs i) (p := q) (by rw [HL.out]; omega)
      have cy := ho.cell (get_map_bool (get_front hyg))
      have hV : gval bt (gvals bt gs i) (6, (p : Int), (q : Int)) = (x || y) := by simp [gval, ← hxd, ← hyd]
      rw [hV] at HN
      clear hV hgood hx hxd hxg hyd hyg
      cases x <;> cases y
      · go_wp2_with fail
        exact ⟨⟨(by (repeat (first | exact trivial | refine ⟨rfl, ?_⟩))), (he.setCell (Nat.le_refl _) _).alloc _, i + 1, m, hm2, by go_num, (ho.frontSet false i HN HL).alloc _⟩, (by simp [intOf] <;> omega)⟩
      · go_wp2_with fail
        exact ⟨⟨(by (repeat (first | exact trivial | refine ⟨rfl, ?_⟩))), (he.setCell (Nat.le_refl _) _).alloc _, i + 1, m, hm2, by go_num, (ho.frontSet true i HN HL).alloc _⟩, (by simp [intOf] <;> omega)⟩
      · go_wp2_with fail
        exact ⟨⟨(by (repeat (first | exact trivial | refine ⟨rfl, ?_⟩))), (he.setCell (Nat.le_refl _) _).alloc _, i + 1, m, hm2, by go_num, (ho.frontSet true i HN HL).alloc _⟩, (by simp [intOf] <;> omega)⟩
      · go_wp2_with fail
        exact ⟨⟨(by (repeat (first | exact trivial | refine ⟨rfl, ?_⟩))), (he.setCell (Nat.le_refl _) _).alloc _, i + 1, m, hm2, by go_num, (ho.frontSet true i HN HL).alloc _⟩, (by simp [intOf] <;> omega)⟩
    · exact absurd hgood.1 (by dsimp only; omega)
end Go.Proofs.Ytcbjaomjamfjcaa
