/-
  A gate with other indices: by a list, and by a function value.
-/
import Derived.Test.YtcbjaomjamfjcaaK5
namespace Go.Proofs.Ytcbjaomjamfjcaa
set_option linter.unusedSimpArgs false
set_option linter.unusedVariables false
open Go.RowKit

theorem moveG_4 (f : Int → Int) (a b : Int) : moveG f (4, a, b) = (4, f a, b) := by simp [moveG]
theorem moveG_5 (f : Int → Int) (a b : Int) : moveG f (5, a, b) = (5, f a, f b) := by simp [moveG]
theorem moveG_6 (f : Int → Int) (a b : Int) : moveG f (6, a, b) = (6, f a, f b) := by simp [moveG]
theorem moveG_no (f : Int → Int) (k a b : Int) (h4 : k ≠ 4) (h5 : k ≠ 5) (h6 : k ≠ 6) : moveG f (k, a, b) = (k, a, b) := by simp [moveG, h4, h5, h6]
/-- The value of a gate. -/
abbrev gv (g : Gt) : Value := .agg #[.int .i64 g.1, .int .i64 g.2.1, .int .i64 g.2.2]
theorem Ints.get {w : World} {A : Option Addr} {n : Nat} {xs : List Int} (h : Ints w A n xs) {j : Nat} {x : Int} (hx : xs[j]? = some x) : ∃ ad, A = some ad ∧ w.cell? (ad.add j) = some (.int .i64 x) ∧ j < n := by
  have hj := (List.getElem?_eq_some_iff.1 hx).1
  obtain ⟨ad, e, hc⟩ := h.reads (by intro hh; have := congrArg List.length hh; simp at this; subst this; simp at hj)
  exact ⟨ad, e, hc j _ (get_map_int hx), by have := h.len; omega⟩
set_option maxHeartbeats 1600000 in
theorem l6Moved_c (k a b : Int) (T : Option Addr) (m c : Nat) (ts : List Int) (f : Int → Int) (w : World) (h : Ints w T m ts) (hf : ∀ x ∈ insG (k, a, b), ∃ j : Nat, x = j ∧ ts[j]? = some (f x)) :
    Calls Try.prog 67 #[.agg #[.int .i64 k, .int .i64 a, .int .i64 b], .slice T m c] w fun e w' => e = .returned (gv (moveG f (k, a, b))) ∧ Ext w w' := by
  have hbd := h.bound
  by_cases h4 : k = 4
  · subst h4
    rw [moveG_4]
    obtain ⟨j, rfl, hj⟩ := hf a (by simp [insG])
    obtain ⟨ad, rfl, hc, hjm⟩ := h.get hj
    clear hf
    generalize f j = fa at *
    have hj := hide hj
    have hc' := fun o o' => (((Ext.refl w).alloc o).alloc o').cell hc
    clear hc
    go_enter Try.func67, Try.ntmps67
    go_wp2_with fail
    refine bodyPost_ret (v := gv (4, fa, b)) (by simp [results, Try.results67, go_sem, *]) rfl ⟨rfl, by (repeat (first | with_reducible exact Ext.refl _ | with_reducible assumption | ((with_reducible refine Ext.setCell ?_ ?_ _); rotate_left; focus (first | omega | (simp <;> omega))) | with_reducible refine Ext.alloc ?_ _ | with_reducible refine Ext.drewN ?_ _ | with_reducible refine Ext.drew ?_ | with_reducible refine Ext.trans ?_ (by with_reducible assumption)))⟩
  have hfour : (k == 4) = false := by simpa using h4
  by_cases h5 : k = 5 ∨ k = 6
  · have hf' : ∃ ja jb : Nat, a = ja ∧ b = jb ∧ ts[ja]? = some (f a) ∧ ts[jb]? = some (f b) := by
      obtain ⟨ja, ha, ha'⟩ := hf a (by rcases h5 with rfl | rfl <;> simp [insG])
      obtain ⟨jb, hb, hb'⟩ := hf b (by rcases h5 with rfl | rfl <;> simp [insG])
      exact ⟨ja, jb, ha, hb, ha', hb'⟩
    have hmv : moveG f (k, a, b) = (k, f a, f b) := by rcases h5 with rfl | rfl <;> simp [moveG]
    rw [hmv]
    clear hmv hf
    obtain ⟨ja, jb, rfl, rfl, ha, hb⟩ := hf'
    obtain ⟨ad, rfl, hca, hja⟩ := h.get ha
    obtain ⟨ad', e', hcb, hjb⟩ := h.get hb
    injection e' with e'
    subst e'
    generalize f ja = fa at *
    generalize f jb = fb at *
    have ha := hide ha
    have hb := hide hb
    have hca' := fun o o' => (((Ext.refl w).alloc o).alloc o').cell hca
    have hcb' := fun o o' => (((Ext.refl w).alloc o).alloc o').cell hcb
    clear hca hcb
    rcases h5 with rfl | rfl
    all_goals
      go_enter Try.func67, Try.ntmps67
      go_wp2_with fail
      refine bodyPost_ret (v := gv (_, fa, fb)) (by simp [results, Try.results67, go_sem, *]) rfl ⟨rfl, by (repeat (first | with_reducible exact Ext.refl _ | with_reducible assumption | ((with_reducible refine Ext.setCell ?_ ?_ _); rotate_left; focus (first | omega | (simp <;> omega))) | with_reducible refine Ext.alloc ?_ _ | with_reducible refine Ext.drewN ?_ _ | with_reducible refine Ext.drew ?_ | with_reducible refine Ext.trans ?_ (by with_reducible assumption)))⟩
  · have h55 : k ≠ 5 := by omega
    have h66 : k ≠ 6 := by omega
    rw [moveG_no f k a b h4 h55 h66]
    have h7 : (k == 5) = false := by simpa using h55
    have h8 : (k == 6) = false := by simpa using h66
    clear hf h4 h5 h55 h66
    go_enter Try.func67, Try.ntmps67
    go_wp2_with fail
    refine bodyPost_ret (v := gv (k, a, b)) (by simp [results, Try.results67, go_sem, *]) rfl ⟨rfl, by (repeat (first | with_reducible exact Ext.refl _ | with_reducible assumption | ((with_reducible refine Ext.setCell ?_ ?_ _); rotate_left; focus (first | omega | (simp <;> omega))) | with_reducible refine Ext.alloc ?_ _ | with_reducible refine Ext.drewN ?_ _ | with_reducible refine Ext.drew ?_ | with_reducible refine Ext.trans ?_ (by with_reducible assumption)))⟩
set_option maxHeartbeats 1600000 in
theorem moved_c (k a b : Int) (fid : FuncId) (cap : Array Value) (f : Int → Int) (w : World) (hent : Enters Try.prog fid)
    (hf : ∀ x ∈ insG (k, a, b), ∀ wr, Ext w wr → Calls Try.prog fid (#[.int .i64 x] ++ cap) wr fun e w' => e = .returned (.int .i64 (f x)) ∧ Ext wr w') :
    Calls Try.prog 71 #[.agg #[.int .i64 k, .int .i64 a, .int .i64 b], .func (.func fid) #[] cap] w fun e w' => e = .returned (gv (moveG f (k, a, b))) ∧ Ext w w' := by
  have hea := fun W => hent (#[.int .i64 a] ++ cap) W
  by_cases h4 : k = 4
  · subst h4
    rw [moveG_4]
    have HA := hide (hf a (by simp [insG]))
    clear hf
    generalize f a = fa at *
    go_enter Try.func71, Try.ntmps71
    go_wp2_with (refine (HA.out _ (by (repeat (first | with_reducible exact Ext.refl _ | with_reducible assumption | ((with_reducible refine Ext.setCell ?_ ?_ _); rotate_left; focus (first | omega | (simp <;> omega))) | with_reducible refine Ext.alloc ?_ _ | with_reducible refine Ext.drewN ?_ _ | with_reducible refine Ext.drew ?_ | with_reducible refine Ext.trans ?_ (by with_reducible assumption))))).mono ?_; rintro e w1 ⟨rfl, he1⟩; have bc0 := he1.cell (p := ⟨w.heap.size, 0, none⟩) (u := .int .i64 4) (by first | simp [go_sem] | simp [go_sem, *]); have bf0 := he1.frozen (p := ⟨w.heap.size, 0, none⟩) (by first | omega | (simp <;> omega)) (by first | simp [go_sem] | simp [go_sem, *]); have bc1 := he1.cell (p := ⟨w.heap.size, 1, none⟩) (u := .int .i64 a) (by first | simp [go_sem] | simp [go_sem, *]); have bf1 := he1.frozen (p := ⟨w.heap.size, 1, none⟩) (by first | omega | (simp <;> omega)) (by first | simp [go_sem] | simp [go_sem, *]); have bc2 := he1.cell (p := ⟨w.heap.size, 2, none⟩) (u := .int .i64 b) (by first | simp [go_sem] | simp [go_sem, *]); have bf2 := he1.frozen (p := ⟨w.heap.size, 2, none⟩) (by first | omega | (simp <;> omega)) (by first | simp [go_sem] | simp [go_sem, *]); have bc3 := he1.cell (p := ⟨w.heap.size + 1, 0, none⟩) (u := .int .i64 0) (by first | simp [go_sem] | simp [go_sem, *]); have bf3 := he1.frozen (p := ⟨w.heap.size + 1, 0, none⟩) (by first | omega | (simp <;> omega)) (by first | simp [go_sem] | simp [go_sem, *]); have bc4 := he1.cell (p := ⟨w.heap.size + 1, 1, none⟩) (u := .int .i64 0) (by first | simp [go_sem] | simp [go_sem, *]); have bf4 := he1.frozen (p := ⟨w.heap.size + 1, 1, none⟩) (by first | omega | (simp <;> omega)) (by first | simp [go_sem] | simp [go_sem, *]); have bc5 := he1.cell (p := ⟨w.heap.size + 1, 2, none⟩) (u := .int .i64 0) (by first | simp [go_sem] | simp [go_sem, *]); have bf5 := he1.frozen (p := ⟨w.heap.size + 1, 2, none⟩) (by first | omega | (simp <;> omega)) (by first | simp [go_sem] | simp [go_sem, *]))
    refine bodyPost_ret (v := gv (4, fa, b)) (by simp [results, Try.results71, go_sem, *]) rfl ⟨rfl, by (repeat (first | with_reducible exact Ext.refl _ | with_reducible assumption | ((with_reducible refine Ext.setCell ?_ ?_ _); rotate_left; focus (first | omega | (simp <;> omega))) | with_reducible refine Ext.alloc ?_ _ | with_reducible refine Ext.drewN ?_ _ | with_reducible refine Ext.drew ?_ | with_reducible refine Ext.trans ?_ (by with_reducible assumption)))⟩
  have hfour : (k == 4) = false := by simpa using h4
  have heb := fun W => hent (#[.int .i64 b] ++ cap) W
  by_cases h5 : k = 5 ∨ k = 6
  · have HA := hide (hf a (by rcases h5 with rfl | rfl <;> simp [insG]))
    have HB := hide (hf b (by rcases h5 with rfl | rfl <;> simp [insG]))
    have hmv : moveG f (k, a, b) = (k, f a, f b) := by rcases h5 with rfl | rfl <;> simp [moveG]
    rw [hmv]
    clear hmv hf
    generalize f a = fa at *
    generalize f b = fb at *
    rcases h5 with rfl | rfl
    · go_enter Try.func71, Try.ntmps71
      go_wp2_with fail
      refine (HA.out _ (by (repeat (first | with_reducible exact Ext.refl _ | with_reducible assumption | ((with_reducible refine Ext.setCell ?_ ?_ _); rotate_left; focus (first | omega | (simp <;> omega))) | with_reducible refine Ext.alloc ?_ _ | with_reducible refine Ext.drewN ?_ _ | with_reducible refine Ext.drew ?_ | with_reducible refine Ext.trans ?_ (by with_reducible assumption))))).mono ?_
      rintro e w1 ⟨rfl, he1⟩
      clear HA
      have bc6 := he1.cell (p := ⟨w.heap.size, 0, none⟩) (u := .int .i64 5) (by first | simp [go_sem] | simp [go_sem, *]); have bf6 := he1.frozen (p := ⟨w.heap.size, 0, none⟩) (by first | omega | (simp <;> omega)) (by first | simp [go_sem] | simp [go_sem, *]); have bc7 := he1.cell (p := ⟨w.heap.size, 1, none⟩) (u := .int .i64 a) (by first | simp [go_sem] | simp [go_sem, *]); have bf7 := he1.frozen (p := ⟨w.heap.size, 1, none⟩) (by first | omega | (simp <;> omega)) (by first | simp [go_sem] | simp [go_sem, *]); have bc8 := he1.cell (p := ⟨w.heap.size, 2, none⟩) (u := .int .i64 b) (by first | simp [go_sem] | simp [go_sem, *]); have bf8 := he1.frozen (p := ⟨w.heap.size, 2, none⟩) (by first | omega | (simp <;> omega)) (by first | simp [go_sem] | simp [go_sem, *]); have bc9 := he1.cell (p := ⟨w.heap.size + 1, 0, none⟩) (u := .int .i64 0) (by first | simp [go_sem] | simp [go_sem, *]); have bf9 := he1.frozen (p := ⟨w.heap.size + 1, 0, none⟩) (by first | omega | (simp <;> omega)) (by first | simp [go_sem] | simp [go_sem, *]); have bc10 := he1.cell (p := ⟨w.heap.size + 1, 1, none⟩) (u := .int .i64 0) (by first | simp [go_sem] | simp [go_sem, *]); have bf10 := he1.frozen (p := ⟨w.heap.size + 1, 1, none⟩) (by first | omega | (simp <;> omega)) (by first | simp [go_sem] | simp [go_sem, *]); have bc11 := he1.cell (p := ⟨w.heap.size + 1, 2, none⟩) (u := .int .i64 0) (by first | simp [go_sem] | simp [go_sem, *]); have bf11 := he1.frozen (p := ⟨w.heap.size + 1, 2, none⟩) (by first | omega | (simp <;> omega)) (by first | simp [go_sem] | simp [go_sem, *])
      have hs1 := he1.size
      go_wp2_with fail
      refine (HB.out _ (by (repeat (first | with_reducible exact Ext.refl _ | with_reducible assumption | ((with_reducible refine Ext.setCell ?_ ?_ _); rotate_left; focus (first | omega | (simp <;> omega))) | with_reducible refine Ext.alloc ?_ _ | with_reducible refine Ext.drewN ?_ _ | with_reducible refine Ext.drew ?_ | with_reducible refine Ext.trans ?_ (by with_reducible assumption))))).mono ?_
      rintro e w2 ⟨rfl, he2⟩
      have hs2 := he2.size
      (try simp at hs1 hs2)
      have b1 := he2.cell (p := ⟨w.heap.size, 0, none⟩) (u := .int .i64 5) (by simp [go_sem, *])
      have b2 := he2.cell (p := ⟨w.heap.size, 1, none⟩) (u := .int .i64 fa) (by simp [go_sem, *])
      have b3 := he2.cell (p := ⟨w.heap.size, 2, none⟩) (u := .int .i64 b) (by simp [go_sem, *])
      have b4 := he2.cell (p := ⟨w.heap.size + 1, 0, none⟩) (u := .int .i64 0) (by simp [go_sem, *])
      have b5 := he2.cell (p := ⟨w.heap.size + 1, 1, none⟩) (u := .int .i64 0) (by simp [go_sem, *])
      have b6 := he2.cell (p := ⟨w.heap.size + 1, 2, none⟩) (u := .int .i64 0) (by simp [go_sem, *])
      have f2 := he2.frozen (p := ⟨w.heap.size, 2, none⟩) (by simp [go_sem] <;> omega) (by simp [go_sem, *])
      have f4 := he2.frozen (p := ⟨w.heap.size + 1, 0, none⟩) (by simp [go_sem] <;> omega) (by simp [go_sem, *])
      have f5 := he2.frozen (p := ⟨w.heap.size + 1, 1, none⟩) (by simp [go_sem] <;> omega) (by simp [go_sem, *])
      have f6 := he2.frozen (p := ⟨w.heap.size + 1, 2, none⟩) (by simp [go_sem] <;> omega) (by simp [go_sem, *])
      go_wp2_with fail
      refine bodyPost_ret (v := gv (5, fa, fb)) (by simp [results, Try.results71, go_sem, *]) rfl ⟨rfl, by (repeat (first | with_reducible exact Ext.refl _ | with_reducible assumption | ((with_reducible refine Ext.setCell ?_ ?_ _); rotate_left; focus (first | omega | (simp <;> omega))) | with_reducible refine Ext.alloc ?_ _ | with_reducible refine Ext.drewN ?_ _ | with_reducible refine Ext.drew ?_ | with_reducible refine Ext.trans ?_ (by with_reducible assumption)))⟩
    · go_enter Try.func71, Try.ntmps71
      go_wp2_with fail
      refine (HA.out _ (by (repeat (first | with_reducible exact Ext.refl _ | with_reducible assumption | ((with_reducible refine Ext.setCell ?_ ?_ _); rotate_left; focus (first | omega | (simp <;> omega))) | with_reducible refine Ext.alloc ?_ _ | with_reducible refine Ext.drewN ?_ _ | with_reducible refine Ext.drew ?_ | with_reducible refine Ext.trans ?_ (by with_reducible assumption))))).mono ?_
      rintro e w1 ⟨rfl, he1⟩
      clear HA
      have bc12 := he1.cell (p := ⟨w.heap.size, 0, none⟩) (u := .int .i64 6) (by first | simp [go_sem] | simp [go_sem, *]); have bf12 := he1.frozen (p := ⟨w.heap.size, 0, none⟩) (by first | omega | (simp <;> omega)) (by first | simp [go_sem] | simp [go_sem, *]); have bc13 := he1.cell (p := ⟨w.heap.size, 1, none⟩) (u := .int .i64 a) (by first | simp [go_sem] | simp [go_sem, *]); have bf13 := he1.frozen (p := ⟨w.heap.size, 1, none⟩) (by first | omega | (simp <;> omega)) (by first | simp [go_sem] | simp [go_sem, *]); have bc14 := he1.cell (p := ⟨w.heap.size, 2, none⟩) (u := .int .i64 b) (by first | simp [go_sem] | simp [go_sem, *]); have bf14 := he1.frozen (p := ⟨w.heap.size, 2, none⟩) (by first | omega | (simp <;> omega)) (by first | simp [go_sem] | simp [go_sem, *]); have bc15 := he1.cell (p := ⟨w.heap.size + 1, 0, none⟩) (u := .int .i64 0) (by first | simp [go_sem] | simp [go_sem, *]); have bf15 := he1.frozen (p := ⟨w.heap.size + 1, 0, none⟩) (by first | omega | (simp <;> omega)) (by first | simp [go_sem] | simp [go_sem, *]); have bc16 := he1.cell (p := ⟨w.heap.size + 1, 1, none⟩) (u := .int .i64 0) (by first | simp [go_sem] | simp [go_sem, *]); have bf16 := he1.frozen (p := ⟨w.heap.size + 1, 1, none⟩) (by first | omega | (simp <;> omega)) (by first | simp [go_sem] | simp [go_sem, *]); have bc17 := he1.cell (p := ⟨w.heap.size + 1, 2, none⟩) (u := .int .i64 0) (by first | simp [go_sem] | simp [go_sem, *]); have bf17 := he1.frozen (p := ⟨w.heap.size + 1, 2, none⟩) (by first | omega | (simp <;> omega)) (by first | simp [go_sem] | simp [go_sem, *])
      have hs1 := he1.size
      go_wp2_with fail
      refine (HB.out _ (by (repeat (first | with_reducible exact Ext.refl _ | with_reducible assumption | ((with_reducible refine Ext.setCell ?_ ?_ _); rotate_left; focus (first | omega | (simp <;> omega))) | with_reducible refine Ext.alloc ?_ _ | with_reducible refine Ext.drewN ?_ _ | with_reducible refine Ext.drew ?_ | with_reducible refine Ext.trans ?_ (by with_reducible assumption))))).mono ?_
      rintro e w2 ⟨rfl, he2⟩
      have hs2 := he2.size
      (try simp at hs1 hs2)
      have b1 := he2.cell (p := ⟨w.heap.size, 0, none⟩) (u := .int .i64 6) (by simp [go_sem, *])
      have b2 := he2.cell (p := ⟨w.heap.size, 1, none⟩) (u := .int .i64 fa) (by simp [go_sem, *])
      have b3 := he2.cell (p := ⟨w.heap.size, 2, none⟩) (u := .int .i64 b) (by simp [go_sem, *])
      have b4 := he2.cell (p := ⟨w.heap.size + 1, 0, none⟩) (u := .int .i64 0) (by simp [go_sem, *])
      have b5 := he2.cell (p := ⟨w.heap.size + 1, 1, none⟩) (u := .int .i64 0) (by simp [go_sem, *])
      have b6 := he2.cell (p := ⟨w.heap.size + 1, 2, none⟩) (u := .int .i64 0) (by simp [go_sem, *])
      have f2 := he2.frozen (p := ⟨w.heap.size, 2, none⟩) (by simp [go_sem] <;> omega) (by simp [go_sem, *])
      have f4 := he2.frozen (p := ⟨w.heap.size + 1, 0, none⟩) (by simp [go_sem] <;> omega) (by simp [go_sem, *])
      have f5 := he2.frozen (p := ⟨w.heap.size + 1, 1, none⟩) (by simp [go_sem] <;> omega) (by simp [go_sem, *])
      have f6 := he2.frozen (p := ⟨w.heap.size + 1, 2, none⟩) (by simp [go_sem] <;> omega) (by simp [go_sem, *])
      go_wp2_with fail
      refine bodyPost_ret (v := gv (6, fa, fb)) (by simp [results, Try.results71, go_sem, *]) rfl ⟨rfl, by (repeat (first | with_reducible exact Ext.refl _ | with_reducible assumption | ((with_reducible refine Ext.setCell ?_ ?_ _); rotate_left; focus (first | omega | (simp <;> omega))) | with_reducible refine Ext.alloc ?_ _ | with_reducible refine Ext.drewN ?_ _ | with_reducible refine Ext.drew ?_ | with_reducible refine Ext.trans ?_ (by with_reducible assumption)))⟩
  · have h55 : k ≠ 5 := by omega
    have h66 : k ≠ 6 := by omega
    rw [moveG_no f k a b h4 h55 h66]
    have h7 : (k == 5) = false := by simpa using h55
    have h8 : (k == 6) = false := by simpa using h66
    clear hf h4 h5 h55 h66
    go_enter Try.func71, Try.ntmps71
    go_wp2_with fail
    refine bodyPost_ret (v := gv (k, a, b)) (by simp [results, Try.results71, go_sem, *]) rfl ⟨rfl, by (repeat (first | with_reducible exact Ext.refl _ | with_reducible assumption | ((with_reducible refine Ext.setCell ?_ ?_ _); rotate_left; focus (first | omega | (simp <;> omega))) | with_reducible refine Ext.alloc ?_ _ | with_reducible refine Ext.drewN ?_ _ | with_reducible refine Ext.drew ?_ | with_reducible refine Ext.trans ?_ (by with_reducible assumption)))⟩
end Go.Proofs.Ytcbjaomjamfjcaa
