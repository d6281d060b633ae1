/-
  HolePlane: what the reference's and the program's functions compute.
-/
import Derived.Test.YtdlmemngclhlkaaC3
namespace Go.Proofs.Ytdlmemngclhlkaa
open Go.RowKit

/-- The coefficients after k of the places are set. -/
def holeCells (n j : Nat) : Nat → List Int
  | 0 => List.replicate (n * (n + 1)) 0
  | k + 1 => (holeCells n j k).set (k * n + j - 1) (-1)
theorem holeCells_length (n j k : Nat) : (holeCells n j k).length = n * (n + 1) := by
  induction k with
  | zero => simp [holeCells]
  | succ k ih => simp [holeCells, ih]
def holeOk (n j m : Int) : Bool := within n 1 3 && within j 1 n && within m 2 (n + 1)
def holeOf (n j m : Int) : List Int × Int := if holeOk n j m then (holeCells n.toNat j.toNat m.toNat, -1) else ([], 0)
theorem hole_arith {n j m : Nat} (hn : 1 ≤ n ∧ n ≤ 3) (hj : 1 ≤ j ∧ j ≤ n) (hm : 2 ≤ m ∧ m ≤ n + 1) (k : Nat) (hk : k < m) :
    ∃ q : Nat, (k : Int) * n + j - 1 = q ∧ q < n * (n + 1) ∧ q = k * n + j - 1 ∧ k * n ≤ 12 := by
  have h1 : k * n ≤ n * n := Nat.mul_le_mul_right n (by omega)
  have h2 : n * (n + 1) = n * n + n := by rw [Nat.mul_add]; omega
  have h3 : n * n ≤ 3 * 3 := Nat.mul_le_mul hn.2 hn.2
  refine ⟨k * n + j - 1, ?_, by omega, rfl, by omega⟩
  rw [Int.natCast_sub (by omega), Int.natCast_add, Int.natCast_mul]
  rfl
/-- What stays in the two boxes beside the row that is written. -/
structure HolePre (w wr : World) (S : Nat) (bd : Int) : Prop where
  ext : Ext w wr
  size : w.heap.size + 1 + 1 < wr.heap.size
  c0 : wr.cell? ⟨w.heap.size + 1 + 1, 0, none⟩ = some (.slice (some ⟨w.heap.size + 1, 0, none⟩) S S)
  c1 : wr.cell? ⟨w.heap.size + 1 + 1, 1, none⟩ = some (.int .i64 bd)
  d0 : wr.cell? ⟨w.heap.size, 0, none⟩ = some (.slice none 0 0)
  d1 : wr.cell? ⟨w.heap.size, 1, none⟩ = some (.int .i64 0)
  f0 : wr.frozen? ⟨w.heap.size, 0, none⟩ = false
  f1 : wr.frozen? ⟨w.heap.size, 1, none⟩ = false
theorem holePre_start (w : World) (S : Nat) {e1 e2 e3 : TypeId} {cs : Array Value} {bd : Int} : HolePre w (((w.alloc (.cells #[.slice none 0 0, .int .i64 0] e1)).alloc (.cells cs e2)).alloc (.cells #[.slice (some ⟨w.heap.size + 1, 0, none⟩) S S, .int .i64 bd] e3)) S bd :=
  ⟨by (repeat (first | exact Ext.refl _ | with_reducible assumption | refine Ext.setCell ?_ (by first | omega | (simp <;> omega)) _ | refine Ext.drewN ?_ _ | refine Ext.drew ?_ | refine Ext.alloc ?_ _ | refine Ext.trans ?_ (by with_reducible assumption))), by simp, by simp [go_sem], by simp [go_sem], by simp [go_sem], by simp [go_sem], by simp [go_sem], by simp [go_sem]⟩
theorem hole_start (w : World) (S a b : Nat) (hS : S = a * (a + 1)) {e1 e3 : TypeId} {c1 c3 : Array Value} (hb : S ≤ 140737488355328 := by omega) :
    Own (((w.alloc (.cells c1 e1)).alloc (.cells (madeCells #[.int .i64 0] S) 3)).alloc (.cells c3 e3)) w.heap.size 3 1 (some ⟨w.heap.size + 1, 0, none⟩) S S ((holeCells a b 0).map (Value.int .i64)) := by
  refine Own.alloc (Own.arr_at _ S _ ?_ ?_ hb ?_ ?_) _
  · simp
  · simp
  · simp [holeCells, hS]
  · rw [toList_madeCells_one]; simp [holeCells, hS]
theorem holePre_store {w wr : World} {S : Nat} {bd : Int} (h : HolePre w wr S bd) (q : Nat) (u : Value) : HolePre w (wr.setCell ⟨w.heap.size + 1, q, none⟩ u) S bd := by
  obtain ⟨he, hz, k0, k1, k2, k3, k4, k5⟩ := h
  exact ⟨he.setCell (by simp) _, by simpa [World.setCell] using hz, by simp [go_sem, *], by simp [go_sem, *], by simp [go_sem, *], by simp [go_sem, *], by simp [go_sem, *], by simp [go_sem, *]⟩
theorem HolePre.drew {w wr : World} {S : Nat} {bd : Int} (h : HolePre w wr S bd) : HolePre w wr.drew S bd :=
  ⟨h.ext.drew, h.size, h.c0, h.c1, h.d0, h.d1, h.f0, h.f1⟩
theorem Own.drew {w : World} {base : Nat} {e : TypeId} {size : Nat} {A : Option Addr} {n c : Nat} {us : List Value} (h : Own w base e size A n c us) : Own w.drew base e size A n c us := h.ext (Ext.refl _).drew
set_option maxHeartbeats 800000 in
theorem impl_HolePlane_c (n j m : Int) (w : World) :
    Calls Try.prog 20 #[.int .i64 n, .int .i64 j, .int .i64 m] w fun e w' =>
      ∃ A N c, e = .returned (.tuple #[.agg #[.slice A N c, .int .i64 (holeOf n j m).2], .bool (holeOk n j m)]) ∧ Own w' w.heap.size 3 1 A N c ((holeOf n j m).1.map (Value.int .i64)) ∧ N ≤ 100 ∧ Ext w w' := by
  cases hp : holeOk n j m
  · have hF : holeOf n j m = ([], 0) := by simp [holeOf, hp]
    rw [hF]
    have HF := hide hF
    clear hF
    rcases and3_false hp with h1 | ⟨h1, h2⟩ | ⟨h1, h2, h3⟩ <;> clear hp
    · go_enter Try.func20, Try.ntmps20
      go_wp2_with (first | (go_at_call 56; refine (holesOk_c _ _).mono ?_; rintro e w' ⟨rfl, rfl⟩) | (go_at_call 57; refine (within_c _ _ _ _).mono ?_; rintro e w' ⟨rfl, rfl⟩))
      refine bodyPost_ret (v := .tuple #[.agg #[.slice none 0 0, .int .i64 0], .bool false]) (by simp [results, Try.results20, go_sem, *]) rfl ⟨_, _, _, rfl, Own.nil _ _ _ _, by omega, by (repeat (first | exact Ext.refl _ | with_reducible assumption | refine Ext.setCell ?_ (by first | omega | (simp <;> omega)) _ | refine Ext.drewN ?_ _ | refine Ext.drew ?_ | refine Ext.alloc ?_ _ | refine Ext.trans ?_ (by with_reducible assumption)))⟩
    · have h1' := within_true h1
      go_enter Try.func20, Try.ntmps20
      go_wp2_with (first | (go_at_call 56; refine (holesOk_c _ _).mono ?_; rintro e w' ⟨rfl, rfl⟩) | (go_at_call 57; refine (within_c _ _ _ _).mono ?_; rintro e w' ⟨rfl, rfl⟩))
      refine bodyPost_ret (v := .tuple #[.agg #[.slice none 0 0, .int .i64 0], .bool false]) (by simp [results, Try.results20, go_sem, *]) rfl ⟨_, _, _, rfl, Own.nil _ _ _ _, by omega, by (repeat (first | exact Ext.refl _ | with_reducible assumption | refine Ext.setCell ?_ (by first | omega | (simp <;> omega)) _ | refine Ext.drewN ?_ _ | refine Ext.drew ?_ | refine Ext.alloc ?_ _ | refine Ext.trans ?_ (by with_reducible assumption)))⟩
    · have h1' := within_true h1
      go_enter Try.func20, Try.ntmps20
      go_wp2_with (first | (go_at_call 56; refine (holesOk_c _ _).mono ?_; rintro e w' ⟨rfl, rfl⟩) | (go_at_call 57; refine (within_c _ _ _ _).mono ?_; rintro e w' ⟨rfl, rfl⟩))
      refine bodyPost_ret (v := .tuple #[.agg #[.slice none 0 0, .int .i64 0], .bool false]) (by simp [results, Try.results20, go_sem, *]) rfl ⟨_, _, _, rfl, Own.nil _ _ _ _, by omega, by (repeat (first | exact Ext.refl _ | with_reducible assumption | refine Ext.setCell ?_ (by first | omega | (simp <;> omega)) _ | refine Ext.drewN ?_ _ | refine Ext.drew ?_ | refine Ext.alloc ?_ _ | refine Ext.trans ?_ (by with_reducible assumption)))⟩
  · have hF : holeOf n j m = (holeCells n.toNat j.toNat m.toNat, -1) := by simp [holeOf, hp]
    rw [hF]
    have HF := hide hF
    clear hF
    obtain ⟨h1, h2, h3⟩ := and3_true hp
    clear hp
    have h1' := within_true h1
    have h2' := within_true h2
    have h3' := within_true h3
    obtain ⟨a, rfl⟩ := int_nat (show 0 ≤ n by omega)
    obtain ⟨b, rfl⟩ := int_nat (show 0 ≤ j by omega)
    obtain ⟨u, rfl⟩ := int_nat (show 0 ≤ m by omega)
    simp only [Int.toNat_natCast]
    obtain ⟨S, hS, hSI, hS12⟩ : ∃ S : Nat, Hid (S = a * (a + 1)) ∧ (a : Int) * ((a : Int) + 1) = S ∧ S ≤ 12 := by
      refine ⟨a * (a + 1), rfl, by simp, ?_⟩
      have : a * (a + 1) ≤ 3 * 4 := Nat.mul_le_mul (by omega) (by omega)
      omega
    have hmk := fun W => make_eq (P := Try.prog) 27 3 Try.underlying27 _ 8 info_int rfl S (by omega) (by omega) W
    go_enter Try.func20, Try.ntmps20
    go_wp2_with (first | (go_at_call 56; refine (holesOk_c _ _).mono ?_; rintro e w' ⟨rfl, rfl⟩) | (go_at_call 57; refine (within_c _ _ _ _).mono ?_; rintro e w' ⟨rfl, rfl⟩))
    clear hmk
    have HS1 := hide hS12
    refine wp_loop (fun acT wr => ∃ s0 s1 s2 s3 s4 s5 s6 s7 s8 s9 s10 s11 s12 s13 s14 s15 s16 s17 s18 s19 s20 s21 s22 s23 s24 s25 s26 s27 s28 s29 s30 s31 s32 s33 s34 s35 s36 s37 s38 s39 s40 s41 s42 s43 s44 s45 s46 s47 : Value, (s0 = .int .i64 a ∧ s1 = .int .i64 b ∧ s6 = .pointer (some ⟨w.heap.size, 0, none⟩) ∧ s8 = .pointer (some ⟨w.heap.size + 1 + 1, 0, none⟩) ∧ s33 = .int .i64 u ∧ (HolePre w wr S (-1) ∧ ∃ k : Nat, k ≤ u ∧ s34 = .int .i64 (k : Int) ∧ Own wr w.heap.size 3 1 (some ⟨w.heap.size + 1, 0, none⟩) S S ((holeCells a b k).map (Value.int .i64)))) ∧ acT = ⟨#[s0, s1, s2, s3, s4, s5, s6, s7, s8, s9, s10, s11, s12, s13, s14, s15, s16, s17, s18, s19, s20, s21, s22, s23, s24, s25, s26, s27, s28, s29, s30, s31, s32, s33, s34, s35, s36, s37, s38, s39, s40, s41, s42, s43, s44, s45, s46, s47], []⟩) (fun acT wr => (fun (s34 : Value) (wr : World) => u - (intOf s34).toNat) (acT.tmps.getD 34 undef) wr) ?_ ?_
    · (refine ⟨_, _, _, _, _, _, _, _, _, _, _, _, _, _, _, _, _, _, _, _, _, _, _, _, _, _, _, _, _, _, _, _, _, _, _, _, _, _, _, _, _, _, _, _, _, _, _, _, ⟨rfl, rfl, rfl, rfl, rfl, ?_⟩, rfl⟩; exact ⟨holePre_start w S, 0, Nat.zero_le _, rfl, hole_start w S a b hS.out⟩)
    intro _ wr hinv; obtain ⟨s0, s1, s2, s3, s4, s5, s6, s7, s8, s9, s10, s11, s12, s13, s14, s15, s16, s17, s18, s19, s20, s21, s22, s23, s24, s25, s26, s27, s28, s29, s30, s31, s32, s33, s34, s35, s36, s37, s38, s39, s40, s41, s42, s43, s44, s45, s46, s47, ⟨rfl, rfl, rfl, rfl, rfl, hrel⟩, rfl⟩ := hinv; (try dsimp only)
    obtain ⟨hpre, k, hk, rfl, ho⟩ := hrel
    obtain ⟨he, hz, k0, k1, k2, k3, k4, k5⟩ := hpre
    by_cases hlt : k < u
    · obtain ⟨q, hq, hqS, hqe, hkn⟩ := hole_arith (show 1 ≤ a ∧ a ≤ 3 by omega) (show 1 ≤ b ∧ b ≤ a by omega) (show 2 ≤ u ∧ u ≤ a + 1 by omega) k hlt
      rw [← hS.out] at hqS
      have hprod : 0 ≤ (k : Int) * (a : Int) ∧ (k : Int) * (a : Int) ≤ 12 := by
        have : ((k * a : Nat) : Int) = (k : Int) * (a : Int) := by simp
        omega
      obtain ⟨x0, _, hcell, hfz⟩ := ho.int_at hqS
      have HQ := hide hqe
      clear hqe hkn
      go_wp2
      have ho' := ho.setInt q (-1)
      rw [HQ.out] at ho' ⊢
      refine ⟨⟨(by first | trivial | rfl), (by first | trivial | rfl), (by first | trivial | rfl), (by first | trivial | rfl), (by first | trivial | rfl), holePre_store ⟨he, hz, k0, k1, k2, k3, k4, k5⟩ _ _, k + 1, by omega, by go_num, ho'⟩, (by simp [intOf] <;> omega)⟩
    · obtain rfl : k = u := by omega
      go_wp2
      refine bodyPost_ret (v := .tuple #[.agg #[.slice (some ⟨w.heap.size + 1, 0, none⟩) S S, .int .i64 (-1)], .bool true]) (by simp [results, Try.results20, go_sem, *]) rfl ⟨_, _, _, rfl, ?_, by omega, ?_⟩
      · refine Own.storeOther (Own.storeOther ho _ ?_) _ ?_ <;> simp [Value.ownBlock]
      · refine Ext.setCell (Ext.setCell he ?_ _) ?_ _ <;> simp
set_option maxHeartbeats 800000 in
theorem spec_HolePlane_c (n j m : Int) (w : World) :
    Calls Try.prog 19 #[.int .i64 n, .int .i64 j, .int .i64 m] w fun e w' =>
      ∃ A N c, e = .returned (.tuple #[.agg #[.slice A N c, .int .i64 (holeOf n j m).2], .bool (holeOk n j m)]) ∧ Own w' w.heap.size 3 1 A N c ((holeOf n j m).1.map (Value.int .i64)) ∧ N ≤ 100 ∧ Ext w w' := by
  cases hp : holeOk n j m
  · have hF : holeOf n j m = ([], 0) := by simp [holeOf, hp]
    rw [hF]
    have HF := hide hF
    clear hF
    rcases and3_false hp with h1 | ⟨h1, h2⟩ | ⟨h1, h2, h3⟩ <;> clear hp
    · go_enter Try.func19, Try.ntmps19
      go_wp2_with (first | (go_at_call 53; refine (l17Holes_c _ _).mono ?_; rintro e w' ⟨rfl, rfl⟩) | (go_at_call 54; refine (l1In_c _ _ _ _).mono ?_; rintro e w' ⟨rfl, rfl⟩))
      refine bodyPost_ret (v := .tuple #[.agg #[.slice none 0 0, .int .i64 0], .bool false]) (by simp [results, Try.results19, go_sem, *]) rfl ⟨_, _, _, rfl, Own.nil _ _ _ _, by omega, by (repeat (first | exact Ext.refl _ | with_reducible assumption | refine Ext.setCell ?_ (by first | omega | (simp <;> omega)) _ | refine Ext.drewN ?_ _ | refine Ext.drew ?_ | refine Ext.alloc ?_ _ | refine Ext.trans ?_ (by with_reducible assumption)))⟩
    · have h1' := within_true h1
      go_enter Try.func19, Try.ntmps19
      go_wp2_with (first | (go_at_call 53; refine (l17Holes_c _ _).mono ?_; rintro e w' ⟨rfl, rfl⟩) | (go_at_call 54; refine (l1In_c _ _ _ _).mono ?_; rintro e w' ⟨rfl, rfl⟩))
      refine bodyPost_ret (v := .tuple #[.agg #[.slice none 0 0, .int .i64 0], .bool false]) (by simp [results, Try.results19, go_sem, *]) rfl ⟨_, _, _, rfl, Own.nil _ _ _ _, by omega, by (repeat (first | exact Ext.refl _ | with_reducible assumption | refine Ext.setCell ?_ (by first | omega | (simp <;> omega)) _ | refine Ext.drewN ?_ _ | refine Ext.drew ?_ | refine Ext.alloc ?_ _ | refine Ext.trans ?_ (by with_reducible assumption)))⟩
    · have h1' := within_true h1
      go_enter Try.func19, Try.ntmps19
      go_wp2_with (first | (go_at_call 53; refine (l17Holes_c _ _).mono ?_; rintro e w' ⟨rfl, rfl⟩) | (go_at_call 54; refine (l1In_c _ _ _ _).mono ?_; rintro e w' ⟨rfl, rfl⟩))
      refine bodyPost_ret (v := .tuple #[.agg #[.slice none 0 0, .int .i64 0], .bool false]) (by simp [results, Try.results19, go_sem, *]) rfl ⟨_, _, _, rfl, Own.nil _ _ _ _, by omega, by (repeat (first | exact Ext.refl _ | with_reducible assumption | refine Ext.setCell ?_ (by first | omega | (simp <;> omega)) _ | refine Ext.drewN ?_ _ | refine Ext.drew ?_ | refine Ext.alloc ?_ _ | refine Ext.trans ?_ (by with_reducible assumption)))⟩
  · have hF : holeOf n j m = (holeCells n.toNat j.toNat m.toNat, -1) := by simp [holeOf, hp]
    rw [hF]
    have HF := hide hF
    clear hF
    obtain ⟨h1, h2, h3⟩ := and3_true hp
    clear hp
    have h1' := within_true h1
    have h2' := within_true h2
    have h3' := within_true h3
    obtain ⟨a, rfl⟩ := int_nat (show 0 ≤ n by omega)
    obtain ⟨b, rfl⟩ := int_nat (show 0 ≤ j by omega)
    obtain ⟨u, rfl⟩ := int_nat (show 0 ≤ m by omega)
    simp only [Int.toNat_natCast]
    obtain ⟨S, hS, hSI, hS12⟩ : ∃ S : Nat, Hid (S = a * (a + 1)) ∧ (a : Int) * ((a : Int) + 1) = S ∧ S ≤ 12 := by
      refine ⟨a * (a + 1), rfl, by simp, ?_⟩
      have : a * (a + 1) ≤ 3 * 4 := Nat.mul_le_mul (by omega) (by omega)
      omega
    have hmk := fun W => make_eq (P := Try.prog) 27 3 Try.underlying27 _ 8 info_int rfl S (by omega) (by omega) W
    go_enter Try.func19, Try.ntmps19
    go_wp2_with (first | (go_at_call 53; refine (l17Holes_c _ _).mono ?_; rintro e w' ⟨rfl, rfl⟩) | (go_at_call 54; refine (l1In_c _ _ _ _).mono ?_; rintro e w' ⟨rfl, rfl⟩))
    clear hmk
    have HS1 := hide hS12
    refine wp_loop (fun acT wr => ∃ s0 s1 s2 s3 s4 s5 s6 s7 s8 s9 s10 s11 s12 s13 s14 s15 s16 s17 s18 s19 s20 s21 s22 s23 s24 s25 s26 s27 s28 s29 s30 s31 s32 s33 s34 s35 s36 s37 s38 s39 s40 s41 s42 s43 s44 s45 s46 : Value, (s0 = .int .i64 a ∧ s1 = .int .i64 b ∧ s2 = .int .i64 u ∧ s6 = .pointer (some ⟨w.heap.size, 0, none⟩) ∧ s8 = .pointer (some ⟨w.heap.size + 1 + 1, 0, none⟩) ∧ (HolePre w wr S (-1) ∧ ∃ k : Nat, k ≤ u ∧ s9 = .int .i64 ((k : Int) + 1) ∧ Own wr w.heap.size 3 1 (some ⟨w.heap.size + 1, 0, none⟩) S S ((holeCells a b k).map (Value.int .i64)))) ∧ acT = ⟨#[s0, s1, s2, s3, s4, s5, s6, s7, s8, s9, s10, s11, s12, s13, s14, s15, s16, s17, s18, s19, s20, s21, s22, s23, s24, s25, s26, s27, s28, s29, s30, s31, s32, s33, s34, s35, s36, s37, s38, s39, s40, s41, s42, s43, s44, s45, s46], []⟩) (fun acT wr => (fun (s9 : Value) (wr : World) => u + 1 - (intOf s9).toNat) (acT.tmps.getD 9 undef) wr) ?_ ?_
    · (refine ⟨_, _, _, _, _, _, _, _, _, _, _, _, _, _, _, _, _, _, _, _, _, _, _, _, _, _, _, _, _, _, _, _, _, _, _, _, _, _, _, _, _, _, _, _, _, _, _, ⟨rfl, rfl, rfl, rfl, rfl, ?_⟩, rfl⟩; exact ⟨holePre_start w S, 0, Nat.zero_le _, rfl, hole_start w S a b hS.out⟩)
    intro _ wr hinv; obtain ⟨s0, s1, s2, s3, s4, s5, s6, s7, s8, s9, s10, s11, s12, s13, s14, s15, s16, s17, s18, s19, s20, s21, s22, s23, s24, s25, s26, s27, s28, s29, s30, s31, s32, s33, s34, s35, s36, s37, s38, s39, s40, s41, s42, s43, s44, s45, s46, ⟨rfl, rfl, rfl, rfl, rfl, hrel⟩, rfl⟩ := hinv; (try dsimp only)
    obtain ⟨hpre, k, hk, rfl, ho⟩ := hrel
    obtain ⟨he, hz, k0, k1, k2, k3, k4, k5⟩ := hpre
    by_cases hlt : k < u
    · obtain ⟨q, hq, hqS, hqe, hkn⟩ := hole_arith (show 1 ≤ a ∧ a ≤ 3 by omega) (show 1 ≤ b ∧ b ≤ a by omega) (show 2 ≤ u ∧ u ≤ a + 1 by omega) k hlt
      rw [← hS.out] at hqS
      have hprod : 0 ≤ (k : Int) * (a : Int) ∧ (k : Int) * (a : Int) ≤ 12 := by
        have : ((k * a : Nat) : Int) = (k : Int) * (a : Int) := by simp
        omega
      have hcall : ∀ W, Calls Try.prog 55 #[.int .i64 a, .int .i64 ((k : Int) + 1), .int .i64 b] W fun e w' => e = .returned (.int .i64 ((k : Int) * a + b)) ∧ W = w' := by
        intro W
        have := l17Var_c a ((k : Int) + 1) b W (by omega) (by omega) (by omega)
        rwa [show ((k : Int) + 1 - 1) = k by omega] at this
      have HC := hide hcall
      obtain ⟨x0, _, hcell, hfz⟩ := ho.int_at hqS
      have HQ := hide hqe
      clear hqe hkn hcall
      have hw1 : IntKind.i64.wrap (q : Int) = (q : Int) := IntWalk.i64_in _ (by omega)
      have hqi : (q : Int) < (S : Int) := by omega
      go_wp2
      go_region_held3 (fun w' => w'.cell? ⟨w.heap.size + 1 + 1, 0, none⟩ = some (.slice (some ⟨w.heap.size + 1, 0, none⟩) S S)) (simp [go_sem, *]) (first | (go_at_call 55; refine (HC.out _).mono ?_; rintro e w' ⟨rfl, rfl⟩))
      go_wp2
      have ho' := ho.setInt q (-1)
      rw [HQ.out] at ho' ⊢
      refine ⟨⟨(by first | trivial | rfl), (by first | trivial | rfl), (by first | trivial | rfl), (by first | trivial | rfl), (by first | trivial | rfl), ?_, k + 1, by omega, by go_num, ho'.drew⟩, (by simp [intOf] <;> omega)⟩
      exact (holePre_store ⟨he, hz, k0, k1, k2, k3, k4, k5⟩ _ _).drew
    · obtain rfl : k = u := by omega
      go_wp2
      refine bodyPost_ret (v := .tuple #[.agg #[.slice (some ⟨w.heap.size + 1, 0, none⟩) S S, .int .i64 (-1)], .bool true]) (by simp [results, Try.results19, go_sem, *]) rfl ⟨_, _, _, rfl, ?_, by omega, ?_⟩
      · refine Own.storeOther (Own.storeOther ho _ ?_) _ ?_ <;> simp [Value.ownBlock]
      · refine Ext.setCell (Ext.setCell he ?_ _) ?_ _ <;> simp
end Go.Proofs.Ytdlmemngclhlkaa
