/-
  slices.Reverse at ints of the call's own.
-/
import Derived.Test.YtcbjaomjamfjcaaK11
namespace Go.Proofs.Ytcbjaomjamfjcaa
set_option linter.unusedSimpArgs false
set_option linter.unusedVariables false
open Go.RowKit

/-- xs with its first i and last i places exchanged. -/
def revTo (xs : List Int) (i : Nat) : List Int := xs.mapIdx fun k x => if k < i ∨ xs.length ≤ k + i then xs.getD (xs.length - 1 - k) 0 else x
theorem revTo_length (xs : List Int) (i : Nat) : (revTo xs i).length = xs.length := by simp [revTo]
theorem revTo_zero (xs : List Int) : revTo xs 0 = xs := by
  unfold revTo
  apply List.ext_getElem
  · simp
  · intro k h1 h2
    simp at h1
    rw [List.getElem_mapIdx, if_neg (by omega)]
theorem revTo_get {xs : List Int} {i k : Nat} {x : Int} (hx : xs[k]? = some x) (h : i ≤ k ∧ k + i < xs.length) : (revTo xs i)[k]? = some x := by
  obtain ⟨hk, rfl⟩ := List.getElem?_eq_some_iff.1 hx
  unfold revTo
  rw [List.getElem?_mapIdx, hx]
  simp only [Option.map_some]
  rw [if_neg (by omega)]
theorem revTo_all {xs : List Int} {i : Nat} (h : xs.length ≤ 2 * i + 1) : revTo xs i = xs.reverse := by
  unfold revTo
  apply List.ext_getElem
  · simp
  · intro k h1 h2
    simp at h1
    rw [List.getElem_mapIdx, List.getElem_reverse]
    split
    · rw [List.getD_eq_getElem?_getD, List.getElem?_eq_getElem (by omega)]; rfl
    · congr 1; omega
theorem revTo_succ {xs : List Int} {i : Nat} {a b : Int} (h : 2 * i + 1 < xs.length) (ha : xs[i]? = some a) (hb : xs[xs.length - 1 - i]? = some b) :
    revTo xs (i + 1) = ((revTo xs i).set i b).set (xs.length - 1 - i) a := by
  apply List.ext_getElem?
  intro k
  rw [List.getElem?_set, List.getElem?_set]
  simp only [List.length_set, revTo_length]
  unfold revTo
  simp only [List.getElem?_mapIdx]
  by_cases h1 : xs.length - 1 - i = k
  · subst h1
    rw [if_pos rfl, if_pos (by omega), hb]
    simp only [Option.map_some]
    rw [if_pos (by omega), show xs.length - 1 - (xs.length - 1 - i) = i by omega, List.getD_eq_getElem?_getD, ha]
    rfl
  · rw [if_neg h1]
    by_cases h2 : i = k
    · subst h2
      rw [if_pos rfl, if_pos (by omega), ha]
      simp only [Option.map_some]
      rw [if_pos (by omega), List.getD_eq_getElem?_getD, hb]
      rfl
    · rw [if_neg h2]
      cases hx : xs[k]? with
      | none => rfl
      | some x =>
        have hk := (List.getElem?_eq_some_iff.1 hx).1
        simp only [Option.map_some]
        congr 1
        by_cases h3 : k < i ∨ xs.length ≤ k + i
        · rw [if_pos h3, if_pos (by omega)]
        · rw [if_neg h3, if_neg (by omega)]
set_option maxRecDepth 100000 in
set_option maxHeartbeats 1600000 in
theorem Reverse_c (A : Option Addr) (n c base : Nat) (xs : List Int) (w : World) (h : Own w base 3 1 A n c (xs.map (Value.int .i64))) (hn : n ≤ 1000) :
    Calls Try.prog 126 #[.slice A n c] w fun e w' => (∃ v, e = .returned v) ∧ Own w' base 3 1 A n c (xs.reverse.map (Value.int .i64)) ∧ w.grownBy w' (Value.slice A n c).ownBlock := by
  have hxl : Hid (xs.length = n) := hide (by have := h.len; simpa using this)
  have HZ := hide (revTo_zero xs)
  go_enter Try.func126, Try.ntmps126
  go_wp2_with fail
  refine wp_loopF 28 _ rfl rfl [0] rfl (fun fr wr => w.grownBy wr (Value.slice A n c).ownBlock ∧ ∃ i : Nat, 2 * i ≤ n + 1 ∧ (fr 2) = .int .i64 i ∧ (fr 3) = .int .i64 ((n : Int) - 1 - i) ∧ Own wr base 3 1 A n c ((revTo xs i).map (Value.int .i64))) (fun fr wr => n - (intOf (fr 2)).toNat) ?_ ?_
  · (exact ⟨World.grownBy.refl _ _, 0, by omega, rfl, by first | rfl | (simp; done) | go_num, by rw [HZ.out]; exact h⟩)
  intro ks fr wr hkept hrel; (try dsimp only at hrel)
  change Code.wp _ _ _ ⟨#[ks 0, fr 1, fr 2, fr 3, fr 4, fr 5, fr 6, fr 7, fr 8, fr 9, fr 10, fr 11, fr 12, fr 13, fr 14, fr 15, fr 16, fr 17, fr 18, fr 19, fr 20, fr 21, fr 22, fr 23, fr 24, fr 25, fr 26, fr 27], []⟩ wr
  simp only [KeptV, List.getD_cons_zero, List.getD_cons_succ] at hkept; obtain ⟨hk0, -⟩ := hkept
  generalize ks 0 = k0 at hk0 ⊢; subst hk0
  generalize fr 2 = s2 at hrel ⊢
  generalize fr 3 = s3 at hrel ⊢
  clear h
  obtain ⟨hg, i, hi, hs1, hs2, ho⟩ := hrel
  subst hs1; subst hs2
  by_cases hlt : 2 * i + 1 < n
  · obtain ⟨g, rfl, hg1, hg2⟩ := ho.form (by omega)
    obtain ⟨a, ha⟩ : ∃ a, xs[i]? = some a := ⟨_, List.getElem?_eq_getElem (by rw [hxl.out]; omega)⟩
    obtain ⟨b, hb⟩ : ∃ b, xs[n - 1 - i]? = some b := ⟨_, List.getElem?_eq_getElem (by rw [hxl.out]; omega)⟩
    have c0 := ho.cell (get_map_int (revTo_get ha (by rw [hxl.out]; omega)))
    have c1 := ho.cell (get_map_int (revTo_get hb (by rw [hxl.out]; omega)))
    have f0 := ho.frozen i
    have f1 := ho.frozen (n - 1 - i)
    have HS := hide (revTo_succ (xs := xs) (i := i) (a := a) (b := b) (by rw [hxl.out]; omega) ha (by rw [hxl.out]; exact hb))
    rw [hxl.out] at HS
    clear ha hb
    obtain ⟨j, hj⟩ : ∃ j : Nat, n = i + j + 1 ∧ i < j := ⟨n - 1 - i, by omega⟩
    obtain ⟨rfl, hij⟩ := hj
    have hj2 : i + j + 1 - 1 - i = j := by omega
    rw [hj2] at c1 f1 HS
    have hjc : (((i + j + 1 : Nat) : Int) - 1 - (i : Int)) = (j : Int) := by omega
    rw [hjc]
    clear hj2 hjc
    have hne : i ≠ j := by omega
    have ho1 := (ho.store i (.int .i64 b)).store j (.int .i64 a)
    have ho2 := (ho.store j (.int .i64 a)).store i (.int .i64 b)
    rw [set_map_int, set_map_int] at ho1 ho2
    rw [← HS.out] at ho1
    rw [List.set_comm _ _ (by omega), ← HS.out] at ho2
    have hg3 := (hg.trans (World.ownsRow.stored ho i (.int .i64 b)).2).trans (World.ownsRow.stored (ho.store i (.int .i64 b)) j (.int .i64 a)).2
    have hg4 := (hg.trans (World.ownsRow.stored ho j (.int .i64 a)).2).trans (World.ownsRow.stored (ho.store j (.int .i64 a)) i (.int .i64 b)).2
    have H1 := hide ho1
    have H2 := hide ho2
    have H3 := hide hg3
    have H4 := hide hg4
    clear ho ho1 ho2 hg hg3 hg4 HS
    go_wp2_with fail
    go_region
    all_goals
      go_wp2_with fail
      first
        | exact ⟨⟨(by (repeat (first | exact trivial | refine ⟨rfl, ?_⟩))), H3.out.trans ((Ext.refl _).drew.grownBy _), i + 1, by omega, by go_num, by first | rfl | (congr 1; omega) | (simp; omega), H1.out.ext ((Ext.refl _).drew)⟩, (by simp [intOf] <;> omega)⟩
        | exact ⟨⟨(by (repeat (first | exact trivial | refine ⟨rfl, ?_⟩))), H4.out.trans ((Ext.refl _).drew.grownBy _), i + 1, by omega, by go_num, by first | rfl | (congr 1; omega) | (simp; omega), H2.out.ext ((Ext.refl _).drew)⟩, (by simp [intOf] <;> omega)⟩
  · have hr : revTo xs i = xs.reverse := revTo_all (by rw [hxl.out]; omega)
    rw [hr] at ho
    have hle : (n : Int) - 1 - i ≤ i := by omega
    have HO := hide ho
    have HG := hide hg
    clear ho hg hr
    go_wp2_with fail
    go_end0
    exact ⟨⟨_, rfl⟩, HO.out, HG.out⟩
end Go.Proofs.Ytcbjaomjamfjcaa
