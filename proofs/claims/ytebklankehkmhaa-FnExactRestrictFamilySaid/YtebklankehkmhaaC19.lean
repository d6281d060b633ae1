/-
  The functions that give sums, multiples and quotients of inequalities.
-/
import Derived.Test.YtebklankehkmhaaC18
namespace Go.Proofs.Ytebklankehkmhaa
set_option linter.unusedSimpArgs false
set_option linter.unusedVariables false
open Go.RowKit

/-- Divided by a positive number, rounded up. -/
def upDiv (a k : Int) : Int := if 0 < a then (a + k - 1) / k else -((-a) / k)
theorem tdiv_neg' (a k : Int) (ha : a ≤ 0) : a.tdiv k = -((-a) / k) := by
  obtain ⟨b, rfl⟩ : ∃ b, a = -b := ⟨-a, by omega⟩
  rw [Int.neg_tdiv, Int.neg_neg, Int.tdiv_eq_ediv_of_nonneg (by omega)]
theorem tmod_neg' (a k : Int) (ha : a ≤ 0) : a.tmod k = -((-a) % k) := by
  obtain ⟨b, rfl⟩ : ∃ b, a = -b := ⟨-a, by omega⟩
  rw [Int.neg_tmod, Int.neg_neg, Int.tmod_eq_emod_of_nonneg (by omega)]
theorem ceil_eq (a k : Int) (hk : 1 ≤ k) : (a + k - 1) / k = if 0 < a % k then a / k + 1 else a / k := by
  have h1 := Int.mul_ediv_add_emod a k
  have h2 := Int.emod_nonneg a (show k ≠ 0 by omega)
  have h3 := Int.emod_lt_of_pos a (show 0 < k by omega)
  have h4 : (a + k - 1) / k = a / k + (a % k + k - 1) / k := by
    have h5 : a + k - 1 = (a % k + k - 1) + k * (a / k) := by rw [← h1]; simp only [Int.mul_ediv_add_emod]; omega
    rw [h5, Int.add_mul_ediv_left _ _ (by omega)]; omega
  rw [h4]
  generalize a % k = r at *
  split
  · have : (r + k - 1) / k = 1 := by
      rw [show r + k - 1 = (r - 1) + k * 1 by omega, Int.add_mul_ediv_left _ _ (by omega), Int.ediv_eq_zero_of_lt (by omega) (by omega)]; omega
    omega
  · have : (r + k - 1) / k = 0 := Int.ediv_eq_zero_of_lt (by omega) (by omega)
    omega
theorem upDiv_go (a k : Int) (hk : 1 ≤ k) : (if 0 < a.tmod k then a.tdiv k + 1 else a.tdiv k) = upDiv a k := by
  unfold upDiv
  by_cases ha : 0 < a
  · rw [if_pos ha, ceil_eq a k hk, Int.tmod_eq_emod_of_nonneg (by omega), Int.tdiv_eq_ediv_of_nonneg (by omega)]
  · rw [if_neg ha, tmod_neg' a k (by omega), tdiv_neg' a k (by omega), if_neg]
    have := Int.emod_nonneg (-a) (show k ≠ 0 by omega)
    omega
theorem upDiv_exact (a k : Int) (hk : 1 ≤ k) (h : a.tmod k = 0) : upDiv a k = a.tdiv k := by rw [← upDiv_go a k hk, if_neg (by omega)]
theorem ediv_small (b k : Int) (hb : 0 ≤ b) (hk : 1 ≤ k) : 0 ≤ b / k ∧ b / k ≤ b := ⟨Int.ediv_nonneg hb (by omega), Int.ediv_le_self k hb⟩
theorem tdiv_small (a k : Int) (hk : 1 ≤ k) : (a ≤ 0 → a ≤ a.tdiv k ∧ a.tdiv k ≤ 0) ∧ (0 ≤ a → 0 ≤ a.tdiv k ∧ a.tdiv k ≤ a) := by
  refine ⟨fun h => ?_, fun h => ?_⟩
  · rw [tdiv_neg' a k h]
    have := ediv_small (-a) k (by omega) hk
    omega
  · rw [Int.tdiv_eq_ediv_of_nonneg h]
    exact ediv_small a k h hk
theorem upDiv_small (a k : Int) (hk : 1 ≤ k) : (a ≤ 0 → a ≤ upDiv a k ∧ upDiv a k ≤ 0) ∧ (0 ≤ a → 0 ≤ upDiv a k ∧ upDiv a k ≤ a) := by
  refine ⟨fun h => ?_, fun h => ?_⟩
  · unfold upDiv
    rw [if_neg (by omega)]
    have := ediv_small (-a) k (by omega) hk
    omega
  · by_cases h0 : a = 0
    · subst h0; simp [upDiv]
    · unfold upDiv
      rw [if_pos (by omega)]
      have h1 : a + k - 1 ≤ a * k := by
        obtain ⟨j, rfl⟩ : ∃ j, k = j + 1 := ⟨k - 1, by omega⟩
        rw [Int.mul_add]
        have : j ≤ a * j := by
          have := Int.mul_le_mul_of_nonneg_right (show 1 ≤ a by omega) (show 0 ≤ j by omega)
          omega
        omega
      exact ⟨Int.ediv_nonneg (by omega) (by omega), Int.ediv_le_of_le_mul (by omega) h1⟩

theorem l16Up_c (a k : Int) (w : World) (ha : -1000000 ≤ a ∧ a ≤ 1000000) (hk : 1 ≤ k ∧ k ≤ 1000) :
    Calls Try.prog 160 #[.int .i64 a, .int .i64 k] w fun e w' => e = .returned (.int .i64 (upDiv a k)) ∧ w = w' := by
  by_cases hp : 0 < a
  · have hu : upDiv a k = (a + k - 1) / k := by rw [upDiv, if_pos hp]
    have hu2 := (upDiv_small a k hk.1).2 (by omega)
    rw [hu] at hu2 ⊢
    clear hu
    go_enter Try.func160, Try.ntmps160
    go_wp2
    go_ret; exact ⟨rfl, rfl⟩
  · have hu : upDiv a k = a.tdiv k := by rw [upDiv, if_neg hp, tdiv_neg' a k (by omega)]
    have hu2 := (tdiv_small a k hk.1).1 (by omega)
    rw [hu]
    clear hu
    go_enter Try.func160, Try.ntmps160
    go_wp2
    go_ret; exact ⟨rfl, rfl⟩
theorem divideUp_c (a k : Int) (w : World) (ha : -1000000 ≤ a ∧ a ≤ 1000000) (hk : 1 ≤ k ∧ k ≤ 1000) :
    Calls Try.prog 189 #[.int .i64 a, .int .i64 k] w fun e w' => e = .returned (.int .i64 (upDiv a k)) ∧ w = w' := by
  have hu := upDiv_go a k hk.1
  have hs := tdiv_small a k hk.1
  by_cases hp : 0 < a.tmod k
  · rw [if_pos hp] at hu
    rw [← hu]
    have hb : -1000000 ≤ a.tdiv k ∧ a.tdiv k ≤ 1000000 := by omega
    clear hu hs
    by_cases h0 : 0 ≤ a
    · rw [Int.tmod_eq_emod_of_nonneg h0] at hp
      rw [Int.tdiv_eq_ediv_of_nonneg h0] at hb ⊢
      go_enter Try.func189, Try.ntmps189
      go_wp2
      go_ret; exact ⟨rfl, rfl⟩
    · exfalso
      have := tmod_neg' a k (by omega)
      have := Int.emod_nonneg (-a) (show k ≠ 0 by omega)
      omega
  · rw [if_neg hp] at hu
    rw [← hu]
    have hb : -1000000 ≤ a.tdiv k ∧ a.tdiv k ≤ 1000000 := by omega
    clear hu hs
    by_cases h0 : 0 ≤ a
    · rw [Int.tmod_eq_emod_of_nonneg h0] at hp
      rw [Int.tdiv_eq_ediv_of_nonneg h0] at hb ⊢
      go_enter Try.func189, Try.ntmps189
      go_wp2
      go_ret; exact ⟨rfl, rfl⟩
    · go_enter Try.func189, Try.ntmps189
      go_wp2
      go_ret; exact ⟨rfl, rfl⟩
theorem addPlanes_lit_c (a b : Int) (w : World) (ha : -10000 ≤ a ∧ a ≤ 10000) (hb : -10000 ≤ b ∧ b ≤ 10000) :
    Calls Try.prog 122 #[.int .i64 a, .int .i64 b] w fun e w' => e = .returned (.int .i64 (a + b)) ∧ w = w' := by
  go_enter Try.func122, Try.ntmps122
  go_wp2
  go_ret; exact ⟨rfl, rfl⟩
theorem addPlanes_lit_enters : Enters Try.prog 122 := enters_of Try.func122 (by kernel_rfl) (by kernel_rfl)
theorem scalePlane_lit_c (a b k : Int) (p : Nat) (w : World) (ha : -10000 ≤ a ∧ a ≤ 10000) (hk : -1000 ≤ k ∧ k ≤ 1000) (hc : w.cell? ⟨p, 0, none⟩ = some (.int .i64 k)) :
    Calls Try.prog 186 #[.int .i64 a, .int .i64 b, .pointer (some ⟨p, 0, none⟩)] w fun e w' => e = .returned (.int .i64 (k * a)) ∧ w = w' := by
  have hm := mul_small k a (by omega) (by omega)
  go_enter Try.func186, Try.ntmps186
  go_wp2
  go_ret; exact ⟨rfl, rfl⟩
theorem scalePlane_lit_enters : Enters Try.prog 186 := enters_of Try.func186 (by kernel_rfl) (by kernel_rfl)
theorem dividePlane_lit2_c (a b k : Int) (p : Nat) (w : World) (ha : -10000 ≤ a ∧ a ≤ 10000) (hk : 1 ≤ k ∧ k ≤ 1000) (hc : w.cell? ⟨p, 0, none⟩ = some (.int .i64 k)) :
    Calls Try.prog 188 #[.int .i64 a, .int .i64 b, .pointer (some ⟨p, 0, none⟩)] w fun e w' => e = .returned (.int .i64 (upDiv a k)) ∧ w = w' := by
  go_enter Try.func188, Try.ntmps188
  go_wp2_with (go_at_call 189; refine (divideUp_c _ _ _ ?_ hk).mono ?_; omega; rintro e w' ⟨rfl, rfl⟩)
  go_ret; exact ⟨rfl, rfl⟩
theorem dividePlane_lit2_enters : Enters Try.prog 188 := enters_of Try.func188 (by kernel_rfl) (by kernel_rfl)
theorem dividePlane_lit1_c (a k : Int) (p : Nat) (w : World) (ha : -10000 ≤ a ∧ a ≤ 10000) (hk : 1 ≤ k ∧ k ≤ 1000) (hc : w.cell? ⟨p, 0, none⟩ = some (.int .i64 k)) :
    Calls Try.prog 187 #[.int .i64 a, .pointer (some ⟨p, 0, none⟩)] w fun e w' => e = .returned (.bool (a.tmod k != 0)) ∧ Ext w w' := by
  by_cases h0 : 0 ≤ a
  · rw [Int.tmod_eq_emod_of_nonneg h0]
    go_enter Try.func187, Try.ntmps187
    go_wp2
    go_ret; exact ⟨rfl, Ext.refl _⟩
  · go_enter Try.func187, Try.ntmps187
    go_wp2
    go_ret; exact ⟨rfl, Ext.refl _⟩
theorem dividePlane_lit1_enters : Enters Try.prog 187 := enters_of Try.func187 (by kernel_rfl) (by kernel_rfl)
theorem addPlanes_c (A : Option Addr) (n c : Nat) (bd : Int) (xs : List Int) (B : Option Addr) (d : Nat) (be : Int) (ys : List Int) (w : World) (h : Ints w A n xs) (k : Ints w B n ys) (hn : n ≤ 12)
    (hxs : ∀ x ∈ xs, -1000 ≤ x ∧ x ≤ 1000) (hys : ∀ x ∈ ys, -1000 ≤ x ∧ x ≤ 1000) (hbd : -10000 ≤ bd ∧ bd ≤ 10000) (hbe : -10000 ≤ be ∧ be ≤ 10000) :
    Calls Try.prog 66 #[.agg #[.slice A n c, .int .i64 bd], .agg #[.slice B n d, .int .i64 be]] w fun e w' =>
      ∃ A' c', e = .returned (.agg #[.slice A' n c', .int .i64 (bd + be)]) ∧ Own w' w.heap.size 3 1 A' n c' ((List.zipWith (· + ·) xs ys).map (Value.int .i64)) ∧ Ext w w' := by
  have hc := fun W (he : Ext w W) => combined_c 122 #[] (· + ·) A n c bd xs B d be ys W (h.ext he) (k.ext he) hn hxs hys hbd hbe addPlanes_lit_enters (fun a b W' ha hb _ => by simpa using addPlanes_lit_c a b W' ha hb)
  generalize List.zipWith (· + ·) xs ys = F at hc ⊢
  have HC := hide hc
  clear hc hxs hys
  go_enter Try.func66, Try.ntmps66
  go_wp2_with (go_at_call 121; refine (HC.out _ (by (repeat (first | with_reducible exact Ext.refl _ | with_reducible assumption | ((with_reducible refine Ext.setCell ?_ ?_ _); rotate_left; focus (first | omega | (simp <;> omega))) | with_reducible refine Ext.alloc ?_ _ | with_reducible refine Ext.drewN ?_ _ | with_reducible refine Ext.drew ?_ | with_reducible refine Ext.trans ?_ (by with_reducible assumption))))).mono ?_; rintro e w1 ⟨A', c', rfl, ho, he⟩; have bc0 := he.cell (p := ⟨w.heap.size + 1 + 1, 0, none⟩) (u := .slice none 0 0) (by first | simp [go_sem] | simp [go_sem, *]); have bf0 := he.frozen (p := ⟨w.heap.size + 1 + 1, 0, none⟩) (by first | omega | (simp <;> omega)) (by first | simp [go_sem] | simp [go_sem, *]); have bc1 := he.cell (p := ⟨w.heap.size + 1 + 1, 1, none⟩) (u := .int .i64 0) (by first | simp [go_sem] | simp [go_sem, *]); have bf1 := he.frozen (p := ⟨w.heap.size + 1 + 1, 1, none⟩) (by first | omega | (simp <;> omega)) (by first | simp [go_sem] | simp [go_sem, *]))
  refine bodyPost_ret (v := .agg #[.slice A' n c', .int .i64 (bd + be)]) (by simp [results, Try.results66, go_sem, *]) rfl ⟨_, _, rfl, ?_, ?_⟩
  · exact ((ho.setLow (by first | omega | (simp <;> omega)) _).setLow (by first | omega | (simp <;> omega)) _).lower (by first | omega | (simp <;> omega))
  · exact Ext.setCell (Ext.setCell (Ext.trans (by (repeat (first | with_reducible exact Ext.refl _ | with_reducible assumption | ((with_reducible refine Ext.setCell ?_ ?_ _); rotate_left; focus (first | omega | (simp <;> omega))) | with_reducible refine Ext.alloc ?_ _ | with_reducible refine Ext.drewN ?_ _ | with_reducible refine Ext.drew ?_ | with_reducible refine Ext.trans ?_ (by with_reducible assumption)))) he) (by first | omega | (simp <;> omega)) _) (by first | omega | (simp <;> omega)) _
theorem scalePlane_c (A : Option Addr) (n c : Nat) (bd : Int) (xs : List Int) (k : Int) (w : World) (h : Ints w A n xs) (hn : n ≤ 12) (hxs : ∀ x ∈ xs, -1000 ≤ x ∧ x ≤ 1000) (hbd : -10000 ≤ bd ∧ bd ≤ 10000) (hk : -1000 ≤ k ∧ k ≤ 1000) :
    Calls Try.prog 164 #[.agg #[.slice A n c, .int .i64 bd], .int .i64 k] w fun e w' =>
      ∃ A' c', e = .returned (.agg #[.slice A' n c', .int .i64 (bd * k)]) ∧ Own w' w.heap.size 3 1 A' n c' ((xs.map (· * k)).map (Value.int .i64)) ∧ Ext w w' := by
  have hz : List.zipWith (fun a (_ : Int) => k * a) xs xs = xs.map (· * k) := by
    rw [List.zipWith_self]
    exact List.map_congr_left fun a _ => Int.mul_comm k a
  have hc := fun W b (he : Ext w W) (hb : W.cell? ⟨b, 0, none⟩ = some (.int .i64 k)) => combined_c 186 #[.pointer (some ⟨b, 0, none⟩)] (fun a _ => k * a) A n c bd xs A c bd xs W (h.ext he) (h.ext he) hn hxs hxs hbd hbd scalePlane_lit_enters
    (fun a b' W' ha _ he' => by simpa using scalePlane_lit_c a b' k b W' ha hk (he'.cell hb))
  rw [hz] at hc
  simp only [Int.mul_comm k bd] at hc
  generalize xs.map (· * k) = F at hc ⊢
  have HC := hide hc
  clear hc hxs hz
  go_enter Try.func164, Try.ntmps164
  go_wp2_with (go_at_call 121; refine (HC.out _ _ (by (repeat (first | with_reducible exact Ext.refl _ | with_reducible assumption | ((with_reducible refine Ext.setCell ?_ ?_ _); rotate_left; focus (first | omega | (simp <;> omega))) | with_reducible refine Ext.alloc ?_ _ | with_reducible refine Ext.drewN ?_ _ | with_reducible refine Ext.drew ?_ | with_reducible refine Ext.trans ?_ (by with_reducible assumption)))) (by simp [go_sem])).mono ?_; rintro e w1 ⟨A', c', rfl, ho, he⟩; have bc2 := he.cell (p := ⟨w.heap.size + 1 + 1, 0, none⟩) (u := .slice none 0 0) (by first | simp [go_sem] | simp [go_sem, *]); have bf2 := he.frozen (p := ⟨w.heap.size + 1 + 1, 0, none⟩) (by first | omega | (simp <;> omega)) (by first | simp [go_sem] | simp [go_sem, *]); have bc3 := he.cell (p := ⟨w.heap.size + 1 + 1, 1, none⟩) (u := .int .i64 0) (by first | simp [go_sem] | simp [go_sem, *]); have bf3 := he.frozen (p := ⟨w.heap.size + 1 + 1, 1, none⟩) (by first | omega | (simp <;> omega)) (by first | simp [go_sem] | simp [go_sem, *]))
  refine bodyPost_ret (v := .agg #[.slice A' n c', .int .i64 (bd * k)]) (by simp [results, Try.results164, go_sem, *]) rfl ⟨_, _, rfl, ?_, ?_⟩
  · exact ((ho.setLow (by first | omega | (simp <;> omega)) _).setLow (by first | omega | (simp <;> omega)) _).lower (by first | omega | (simp <;> omega))
  · exact Ext.setCell (Ext.setCell (Ext.trans (by (repeat (first | with_reducible exact Ext.refl _ | with_reducible assumption | ((with_reducible refine Ext.setCell ?_ ?_ _); rotate_left; focus (first | omega | (simp <;> omega))) | with_reducible refine Ext.alloc ?_ _ | with_reducible refine Ext.drewN ?_ _ | with_reducible refine Ext.drew ?_ | with_reducible refine Ext.trans ?_ (by with_reducible assumption)))) he) (by first | omega | (simp <;> omega)) _) (by first | omega | (simp <;> omega)) _
set_option maxHeartbeats 800000 in
theorem dividePlane_c (A : Option Addr) (n c : Nat) (bd : Int) (xs : List Int) (k : Int) (w : World) (h : Ints w A n xs) (hn : n ≤ 12) (hxs : ∀ x ∈ xs, -1000 ≤ x ∧ x ≤ 1000) (hbd : -10000 ≤ bd ∧ bd ≤ 10000) (hk : 1 ≤ k ∧ k ≤ 1000) (g : Bool) (hg : xs.all (fun x => x.tmod k == 0) = g) :
    Calls Try.prog 165 #[.agg #[.slice A n c, .int .i64 bd], .int .i64 k] w fun e w' =>
      ∃ A' m c', e = .returned (.tuple #[.agg #[.slice A' m c', .int .i64 (if g then upDiv bd k else 0)], .bool g]) ∧ Own w' w.heap.size 3 1 A' m c' ((if g then xs.map (·.tdiv k) else []).map (Value.int .i64)) ∧ m ≤ 12 ∧ Ext w w' := by
  have hany : (xs.any fun x => x.tmod k != 0) = !g := by rw [← hg, List.not_all_eq_any_not]; rfl
  have hq := fun W b (he : Ext w W) (hb : W.cell? ⟨b, 0, none⟩ = some (.int .i64 k)) => ContainsFunc_int_c 187 #[.pointer (some ⟨b, 0, none⟩)] (fun x => x.tmod k != 0) A n c xs W (h.ext he) dividePlane_lit1_enters
    (fun x wr hx he' => by have := hxs x hx; simpa using dividePlane_lit1_c x k b wr (by omega) hk (he'.cell hb))
  rw [hany] at hq
  have HQ := hide hq
  clear hq hany
  cases g
  · simp only [Bool.false_eq_true, if_false]
    clear hxs hg
    go_enter Try.func165, Try.ntmps165
    go_wp2_with (go_at_call 119; refine (HQ.out _ (w.heap.size + 1) (by (repeat (first | with_reducible exact Ext.refl _ | with_reducible assumption | ((with_reducible refine Ext.setCell ?_ ?_ _); rotate_left; focus (first | omega | (simp <;> omega))) | with_reducible refine Ext.alloc ?_ _ | with_reducible refine Ext.drewN ?_ _ | with_reducible refine Ext.drew ?_ | with_reducible refine Ext.trans ?_ (by with_reducible assumption)))) (by simp [go_sem])).mono ?_; rintro e w1 ⟨rfl, he⟩; have bc4 := he.cell (p := ⟨w.heap.size + 1 + 1, 0, none⟩) (u := .slice none 0 0) (by first | simp [go_sem] | simp [go_sem, *]); have bf4 := he.frozen (p := ⟨w.heap.size + 1 + 1, 0, none⟩) (by first | omega | (simp <;> omega)) (by first | simp [go_sem] | simp [go_sem, *]); have bc5 := he.cell (p := ⟨w.heap.size + 1 + 1, 1, none⟩) (u := .int .i64 0) (by first | simp [go_sem] | simp [go_sem, *]); have bf5 := he.frozen (p := ⟨w.heap.size + 1 + 1, 1, none⟩) (by first | omega | (simp <;> omega)) (by first | simp [go_sem] | simp [go_sem, *]))
    refine bodyPost_ret (v := .tuple #[.agg #[.slice none 0 0, .int .i64 0], .bool false]) (by simp [results, Try.results165, go_sem, *]) rfl ⟨_, _, _, rfl, Own.nil _ _ _ _, by omega, ?_⟩
    exact Ext.setCell (Ext.setCell (Ext.trans (by (repeat (first | with_reducible exact Ext.refl _ | with_reducible assumption | ((with_reducible refine Ext.setCell ?_ ?_ _); rotate_left; focus (first | omega | (simp <;> omega))) | with_reducible refine Ext.alloc ?_ _ | with_reducible refine Ext.drewN ?_ _ | with_reducible refine Ext.drew ?_ | with_reducible refine Ext.trans ?_ (by with_reducible assumption)))) he) (by first | omega | (simp <;> omega)) _) (by first | omega | (simp <;> omega)) _
  · simp only [if_true]
    have hz : List.zipWith (fun a (_ : Int) => upDiv a k) xs xs = xs.map (·.tdiv k) := by
      rw [List.zipWith_self]
      exact List.map_congr_left fun a ha => upDiv_exact a k hk.1 (by have := List.all_eq_true.1 hg a ha; simpa using this)
    have hc := fun W b (he : Ext w W) (hb : W.cell? ⟨b, 0, none⟩ = some (.int .i64 k)) => combined_c 188 #[.pointer (some ⟨b, 0, none⟩)] (fun a _ => upDiv a k) A n c bd xs A c bd xs W (h.ext he) (h.ext he) hn hxs hxs hbd hbd dividePlane_lit2_enters
      (fun a b' W' ha _ he' => by simpa using dividePlane_lit2_c a b' k b W' ha hk (he'.cell hb))
    rw [hz] at hc
    generalize xs.map (·.tdiv k) = F at hc ⊢
    generalize upDiv bd k = ub at hc ⊢
    have HC := hide hc
    clear hc hxs hg hz
    go_enter Try.func165, Try.ntmps165
    go_wp2_with (first | (go_at_call 119; refine (HQ.out _ (w.heap.size + 1) (by (repeat (first | with_reducible exact Ext.refl _ | with_reducible assumption | ((with_reducible refine Ext.setCell ?_ ?_ _); rotate_left; focus (first | omega | (simp <;> omega))) | with_reducible refine Ext.alloc ?_ _ | with_reducible refine Ext.drewN ?_ _ | with_reducible refine Ext.drew ?_ | with_reducible refine Ext.trans ?_ (by with_reducible assumption)))) (by simp [go_sem])).mono ?_; rintro e w1 ⟨rfl, he⟩; have b0 := he.cell (p := ⟨w.heap.size, 0, none⟩) (u := .slice A n c) (by simp [go_sem]); have b1 := he.cell (p := ⟨w.heap.size, 1, none⟩) (u := .int .i64 bd) (by simp [go_sem]); have b2 := he.cell (p := ⟨w.heap.size + 1, 0, none⟩) (u := .int .i64 k) (by simp [go_sem]); have hs1 := he.size) | (go_at_call 121; refine (HC.out _ _ (by (repeat (first | with_reducible exact Ext.refl _ | with_reducible assumption | ((with_reducible refine Ext.setCell ?_ ?_ _); rotate_left; focus (first | omega | (simp <;> omega))) | with_reducible refine Ext.alloc ?_ _ | with_reducible refine Ext.drewN ?_ _ | with_reducible refine Ext.drew ?_ | with_reducible refine Ext.trans ?_ (by with_reducible assumption)))) b2).mono ?_; rintro e w2 ⟨A', c', rfl, ho, he2⟩; have he3 := he.trans he2; have bc6 := he3.cell (p := ⟨w.heap.size + 1 + 1, 0, none⟩) (u := .slice none 0 0) (by first | simp [go_sem] | simp [go_sem, *]); have bf6 := he3.frozen (p := ⟨w.heap.size + 1 + 1, 0, none⟩) (by first | omega | (simp <;> omega)) (by first | simp [go_sem] | simp [go_sem, *]); have bc7 := he3.cell (p := ⟨w.heap.size + 1 + 1, 1, none⟩) (u := .int .i64 0) (by first | simp [go_sem] | simp [go_sem, *]); have bf7 := he3.frozen (p := ⟨w.heap.size + 1 + 1, 1, none⟩) (by first | omega | (simp <;> omega)) (by first | simp [go_sem] | simp [go_sem, *])))
    simp at hs1
    refine bodyPost_ret (v := .tuple #[.agg #[.slice A' n c', .int .i64 ub], .bool true]) (by simp [results, Try.results165, go_sem, *]) rfl ⟨_, _, _, rfl, ?_, hn, ?_⟩
    · exact ((ho.setLow (by first | omega | (simp <;> omega)) _).setLow (by first | omega | (simp <;> omega)) _).lower (by first | omega | (simp <;> omega))
    · exact Ext.setCell (Ext.setCell (Ext.trans (by (repeat (first | with_reducible exact Ext.refl _ | with_reducible assumption | ((with_reducible refine Ext.setCell ?_ ?_ _); rotate_left; focus (first | omega | (simp <;> omega))) | with_reducible refine Ext.alloc ?_ _ | with_reducible refine Ext.drewN ?_ _ | with_reducible refine Ext.drew ?_ | with_reducible refine Ext.trans ?_ (by with_reducible assumption)))) he3) (by first | omega | (simp <;> omega)) _) (by first | omega | (simp <;> omega)) _
theorem l16Give_c (v bd : Int) (A : Option Addr) (n c : Nat) (xs : List Int) (w : World) (h : Ints w A n xs) (g : Bool) (hg : (decide ((n : Int) = v) && within bd (-10000) 10000 && xs.all (fun x => within x (-1000) 1000)) = g) :
    Calls Try.prog 62 #[.int .i64 v, .agg #[.slice A n c, .int .i64 bd]] w fun e w' =>
      e = .returned (.tuple #[.agg #[.slice (if g then A else none) (if g then n else 0) (if g then c else 0), .int .i64 (if g then bd else 0)], .bool g]) ∧ Ext w w' := by
  have HG := hide hg
  clear hg
  cases g
  · simp only [Bool.false_eq_true, if_false]
    go_enter Try.func62, Try.ntmps62
    go_wp2_with (go_at_call 117; refine (l16Plane_c _ _ _ _ _ xs _ (h.ext (by (repeat (first | with_reducible exact Ext.refl _ | with_reducible assumption | ((with_reducible refine Ext.setCell ?_ ?_ _); rotate_left; focus (first | omega | (simp <;> omega))) | with_reducible refine Ext.alloc ?_ _ | with_reducible refine Ext.drewN ?_ _ | with_reducible refine Ext.drew ?_ | with_reducible refine Ext.trans ?_ (by with_reducible assumption)))))).mono ?_; rw [HG.out]; rintro e w1 ⟨rfl, he⟩; have bc8 := he.cell (p := ⟨w.heap.size + 1, 0, none⟩) (u := .slice none 0 0) (by first | simp [go_sem] | simp [go_sem, *]); have bf8 := he.frozen (p := ⟨w.heap.size + 1, 0, none⟩) (by first | omega | (simp <;> omega)) (by first | simp [go_sem] | simp [go_sem, *]); have bc9 := he.cell (p := ⟨w.heap.size + 1, 1, none⟩) (u := .int .i64 0) (by first | simp [go_sem] | simp [go_sem, *]); have bf9 := he.frozen (p := ⟨w.heap.size + 1, 1, none⟩) (by first | omega | (simp <;> omega)) (by first | simp [go_sem] | simp [go_sem, *]); have hs1 := he.size)
    simp at hs1
    refine bodyPost_ret (v := .tuple #[.agg #[.slice none 0 0, .int .i64 0], .bool false]) (by simp [results, Try.results62, go_sem, *]) rfl ⟨rfl, ?_⟩
    exact Ext.setCell (Ext.setCell (Ext.trans (by (repeat (first | with_reducible exact Ext.refl _ | with_reducible assumption | ((with_reducible refine Ext.setCell ?_ ?_ _); rotate_left; focus (first | omega | (simp <;> omega))) | with_reducible refine Ext.alloc ?_ _ | with_reducible refine Ext.drewN ?_ _ | with_reducible refine Ext.drew ?_ | with_reducible refine Ext.trans ?_ (by with_reducible assumption)))) he) (by first | omega | (simp <;> omega)) _) (by first | omega | (simp <;> omega)) _
  · simp only [if_true]
    go_enter Try.func62, Try.ntmps62
    go_wp2_with (go_at_call 117; refine (l16Plane_c _ _ _ _ _ xs _ (h.ext (by (repeat (first | with_reducible exact Ext.refl _ | with_reducible assumption | ((with_reducible refine Ext.setCell ?_ ?_ _); rotate_left; focus (first | omega | (simp <;> omega))) | with_reducible refine Ext.alloc ?_ _ | with_reducible refine Ext.drewN ?_ _ | with_reducible refine Ext.drew ?_ | with_reducible refine Ext.trans ?_ (by with_reducible assumption)))))).mono ?_; rw [HG.out]; rintro e w1 ⟨rfl, he⟩; have bc10 := he.cell (p := ⟨w.heap.size, 0, none⟩) (u := .slice A n c) (by first | simp [go_sem] | simp [go_sem, *]); have bf10 := he.frozen (p := ⟨w.heap.size, 0, none⟩) (by first | omega | (simp <;> omega)) (by first | simp [go_sem] | simp [go_sem, *]); have bc11 := he.cell (p := ⟨w.heap.size, 1, none⟩) (u := .int .i64 bd) (by first | simp [go_sem] | simp [go_sem, *]); have bf11 := he.frozen (p := ⟨w.heap.size, 1, none⟩) (by first | omega | (simp <;> omega)) (by first | simp [go_sem] | simp [go_sem, *]); have bc12 := he.cell (p := ⟨w.heap.size + 1, 0, none⟩) (u := .slice none 0 0) (by first | simp [go_sem] | simp [go_sem, *]); have bf12 := he.frozen (p := ⟨w.heap.size + 1, 0, none⟩) (by first | omega | (simp <;> omega)) (by first | simp [go_sem] | simp [go_sem, *]); have bc13 := he.cell (p := ⟨w.heap.size + 1, 1, none⟩) (u := .int .i64 0) (by first | simp [go_sem] | simp [go_sem, *]); have bf13 := he.frozen (p := ⟨w.heap.size + 1, 1, none⟩) (by first | omega | (simp <;> omega)) (by first | simp [go_sem] | simp [go_sem, *]); have hs1 := he.size)
    simp at hs1
    refine bodyPost_ret (v := .tuple #[.agg #[.slice A n c, .int .i64 bd], .bool true]) (by simp [results, Try.results62, go_sem, *]) rfl ⟨rfl, ?_⟩
    exact Ext.setCell (Ext.setCell (Ext.trans (by (repeat (first | with_reducible exact Ext.refl _ | with_reducible assumption | ((with_reducible refine Ext.setCell ?_ ?_ _); rotate_left; focus (first | omega | (simp <;> omega))) | with_reducible refine Ext.alloc ?_ _ | with_reducible refine Ext.drewN ?_ _ | with_reducible refine Ext.drew ?_ | with_reducible refine Ext.trans ?_ (by with_reducible assumption)))) he) (by first | omega | (simp <;> omega)) _) (by first | omega | (simp <;> omega)) _
theorem checkedPlane_c (v bd : Int) (A : Option Addr) (n c : Nat) (xs : List Int) (w : World) (h : Ints w A n xs) (g : Bool) (hg : ineqOk v bd xs = g) :
    Calls Try.prog 65 #[.int .i64 v, .agg #[.slice A n c, .int .i64 bd], .bool true] w fun e w' =>
      e = .returned (.tuple #[.agg #[.slice (if g then A else none) (if g then n else 0) (if g then c else 0), .int .i64 (if g then bd else 0)], .bool g]) ∧ Ext w w' := by
  have HG := hide hg
  clear hg
  cases g
  · simp only [Bool.false_eq_true, if_false]
    go_enter Try.func65, Try.ntmps65
    go_wp2_with (go_at_call 64; refine (impl_IsInequality_c _ _ _ _ _ xs _ (h.ext (by (repeat (first | with_reducible exact Ext.refl _ | with_reducible assumption | ((with_reducible refine Ext.setCell ?_ ?_ _); rotate_left; focus (first | omega | (simp <;> omega))) | with_reducible refine Ext.alloc ?_ _ | with_reducible refine Ext.drewN ?_ _ | with_reducible refine Ext.drew ?_ | with_reducible refine Ext.trans ?_ (by with_reducible assumption)))))).mono ?_; rw [HG.out]; rintro e w1 ⟨rfl, he⟩; have bc14 := he.cell (p := ⟨w.heap.size + 1, 0, none⟩) (u := .slice none 0 0) (by first | simp [go_sem] | simp [go_sem, *]); have bf14 := he.frozen (p := ⟨w.heap.size + 1, 0, none⟩) (by first | omega | (simp <;> omega)) (by first | simp [go_sem] | simp [go_sem, *]); have bc15 := he.cell (p := ⟨w.heap.size + 1, 1, none⟩) (u := .int .i64 0) (by first | simp [go_sem] | simp [go_sem, *]); have bf15 := he.frozen (p := ⟨w.heap.size + 1, 1, none⟩) (by first | omega | (simp <;> omega)) (by first | simp [go_sem] | simp [go_sem, *]); have hs1 := he.size)
    simp at hs1
    refine bodyPost_ret (v := .tuple #[.agg #[.slice none 0 0, .int .i64 0], .bool false]) (by simp [results, Try.results65, go_sem, *]) rfl ⟨rfl, ?_⟩
    exact Ext.setCell (Ext.setCell (Ext.trans (by (repeat (first | with_reducible exact Ext.refl _ | with_reducible assumption | ((with_reducible refine Ext.setCell ?_ ?_ _); rotate_left; focus (first | omega | (simp <;> omega))) | with_reducible refine Ext.alloc ?_ _ | with_reducible refine Ext.drewN ?_ _ | with_reducible refine Ext.drew ?_ | with_reducible refine Ext.trans ?_ (by with_reducible assumption)))) he) (by first | omega | (simp <;> omega)) _) (by first | omega | (simp <;> omega)) _
  · simp only [if_true]
    go_enter Try.func65, Try.ntmps65
    go_wp2_with (go_at_call 64; refine (impl_IsInequality_c _ _ _ _ _ xs _ (h.ext (by (repeat (first | with_reducible exact Ext.refl _ | with_reducible assumption | ((with_reducible refine Ext.setCell ?_ ?_ _); rotate_left; focus (first | omega | (simp <;> omega))) | with_reducible refine Ext.alloc ?_ _ | with_reducible refine Ext.drewN ?_ _ | with_reducible refine Ext.drew ?_ | with_reducible refine Ext.trans ?_ (by with_reducible assumption)))))).mono ?_; rw [HG.out]; rintro e w1 ⟨rfl, he⟩; have bc16 := he.cell (p := ⟨w.heap.size, 0, none⟩) (u := .slice A n c) (by first | simp [go_sem] | simp [go_sem, *]); have bf16 := he.frozen (p := ⟨w.heap.size, 0, none⟩) (by first | omega | (simp <;> omega)) (by first | simp [go_sem] | simp [go_sem, *]); have bc17 := he.cell (p := ⟨w.heap.size, 1, none⟩) (u := .int .i64 bd) (by first | simp [go_sem] | simp [go_sem, *]); have bf17 := he.frozen (p := ⟨w.heap.size, 1, none⟩) (by first | omega | (simp <;> omega)) (by first | simp [go_sem] | simp [go_sem, *]); have bc18 := he.cell (p := ⟨w.heap.size + 1, 0, none⟩) (u := .slice none 0 0) (by first | simp [go_sem] | simp [go_sem, *]); have bf18 := he.frozen (p := ⟨w.heap.size + 1, 0, none⟩) (by first | omega | (simp <;> omega)) (by first | simp [go_sem] | simp [go_sem, *]); have bc19 := he.cell (p := ⟨w.heap.size + 1, 1, none⟩) (u := .int .i64 0) (by first | simp [go_sem] | simp [go_sem, *]); have bf19 := he.frozen (p := ⟨w.heap.size + 1, 1, none⟩) (by first | omega | (simp <;> omega)) (by first | simp [go_sem] | simp [go_sem, *]); have hs1 := he.size)
    simp at hs1
    refine bodyPost_ret (v := .tuple #[.agg #[.slice A n c, .int .i64 bd], .bool true]) (by simp [results, Try.results65, go_sem, *]) rfl ⟨rfl, ?_⟩
    exact Ext.setCell (Ext.setCell (Ext.trans (by (repeat (first | with_reducible exact Ext.refl _ | with_reducible assumption | ((with_reducible refine Ext.setCell ?_ ?_ _); rotate_left; focus (first | omega | (simp <;> omega))) | with_reducible refine Ext.alloc ?_ _ | with_reducible refine Ext.drewN ?_ _ | with_reducible refine Ext.drew ?_ | with_reducible refine Ext.trans ?_ (by with_reducible assumption)))) he) (by first | omega | (simp <;> omega)) _) (by first | omega | (simp <;> omega)) _
theorem checkedPlane_no (v bd : Int) (A : Option Addr) (n c : Nat) (w : World) :
    Calls Try.prog 65 #[.int .i64 v, .agg #[.slice A n c, .int .i64 bd], .bool false] w fun e w' =>
      e = .returned (.tuple #[.agg #[.slice none 0 0, .int .i64 0], .bool false]) ∧ Ext w w' := by
  go_enter Try.func65, Try.ntmps65
  go_wp2
  refine bodyPost_ret (v := .tuple #[.agg #[.slice none 0 0, .int .i64 0], .bool false]) (by simp [results, Try.results65, go_sem, *]) rfl ⟨rfl, by (repeat (first | with_reducible exact Ext.refl _ | with_reducible assumption | ((with_reducible refine Ext.setCell ?_ ?_ _); rotate_left; focus (first | omega | (simp <;> omega))) | with_reducible refine Ext.alloc ?_ _ | with_reducible refine Ext.drewN ?_ _ | with_reducible refine Ext.drew ?_ | with_reducible refine Ext.trans ?_ (by with_reducible assumption)))⟩
end Go.Proofs.Ytebklankehkmhaa
