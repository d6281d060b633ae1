/-
  AfterMoves: the contracts of both texts.
-/
import Derived.Test.YtialpmmdomhobaaD12
namespace Go.Proofs.Ytialpmmdomhobaa
set_option linter.unusedSimpArgs false
set_option linter.unusedVariables false
open Go.RowKit

theorem amOk_none {xss : List (List Int)} {ms : List Mv} (h : posTo xss false ms ms.length = none) : amOk xss ms = false := by
  unfold amOk; rw [h]; simp
set_option maxHeartbeats 1600000 in
theorem spec_AfterMoves_o (A : Option Addr) (n d : Nat) (xss : List (List Int)) (B : Option Addr) (m c : Nat) (ms : List Mv) (w : World) (h : Intss w A n xss) (k : Moves w B m ms) :
    Calls Try.prog 6 #[.agg #[.slice A n d], .slice B m c] w fun e w' =>
      ∃ A' n' c', e = .returned (.tuple #[.slice A' n' c', .bool (amOk xss ms)]) ∧ ObI 3 w' w.heap.size w'.heap.size A' n' c' (if amOk xss ms then amList xss ms else []) ∧ Ext w w' := by
  have hbm := k.bound
  have hml := hide k.len
  cases hd : dagOk xss
  · have hq : amOk xss ms = false := by unfold amOk; rw [hd]; rfl
    rw [hq]
    have HD := hide hd
    clear hd hq
    simp only [Bool.false_eq_true, if_false]
    go_enter Try.func6, Try.ntmps6
    go_wp2_with (go_at_call 18; refine (l14Good_c _ _ _ xss _ (h.ext (by (repeat (first | with_reducible exact Ext.refl _ | with_reducible assumption | ((with_reducible refine Ext.setCell ?_ ?_ _); rotate_left; focus (first | omega | (simp <;> omega))) | with_reducible refine Ext.alloc ?_ _ | with_reducible refine Ext.drewN ?_ _ | with_reducible refine Ext.drew ?_ | with_reducible refine Ext.trans ?_ (by with_reducible assumption)))))).mono ?_; rw [HD.out]; rintro e w1 ⟨rfl, he⟩; have hs := he.size; have h0 := ObI.empty (e := 3) (W := w1) (lo := w.heap.size) (by simp at hs; omega))
    have hx : Ext w w1 := by (repeat (first | with_reducible exact Ext.refl _ | with_reducible assumption | ((with_reducible refine Ext.setCell ?_ ?_ _); rotate_left; focus (first | omega | (simp <;> omega))) | with_reducible refine Ext.alloc ?_ _ | with_reducible refine Ext.drewN ?_ _ | with_reducible refine Ext.drew ?_ | with_reducible refine Ext.trans ?_ (by with_reducible assumption)))
    go_ret2
    exact ⟨_, _, _, rfl, by simpa using h0, hx.alloc _⟩
  have HD := hide hd
  have hl10 : xss.length ≤ 10 := dagOk_len hd
  have HPl := hide (fun W (hh : Intss W A n xss) (kk : Moves W B m ms) => l14Play_c xss hd false A n d B m c ms W hh kk)
  by_cases hm3 : m ≤ 300
  rotate_left
  · have hq : amOk xss ms = false := by unfold amOk; rw [decide_eq_false (by rw [← hml.out]; exact hm3)]; simp
    rw [hq]
    have hm4 : (300 : Int) < (m : Int) := by omega
    clear hd hq HPl hm3
    simp only [Bool.false_eq_true, if_false]
    go_enter Try.func6, Try.ntmps6
    go_wp2_with (go_at_call 18; refine (l14Good_c _ _ _ xss _ (h.ext (by (repeat (first | with_reducible exact Ext.refl _ | with_reducible assumption | ((with_reducible refine Ext.setCell ?_ ?_ _); rotate_left; focus (first | omega | (simp <;> omega))) | with_reducible refine Ext.alloc ?_ _ | with_reducible refine Ext.drewN ?_ _ | with_reducible refine Ext.drew ?_ | with_reducible refine Ext.trans ?_ (by with_reducible assumption)))))).mono ?_; rw [HD.out]; rintro e w1 ⟨rfl, he⟩; have hs := he.size; have h0 := ObI.empty (e := 3) (W := w1) (lo := w.heap.size) (by simp at hs; omega))
    have hx : Ext w w1 := by (repeat (first | with_reducible exact Ext.refl _ | with_reducible assumption | ((with_reducible refine Ext.setCell ?_ ?_ _); rotate_left; focus (first | omega | (simp <;> omega))) | with_reducible refine Ext.alloc ?_ _ | with_reducible refine Ext.drewN ?_ _ | with_reducible refine Ext.drew ?_ | with_reducible refine Ext.trans ?_ (by with_reducible assumption)))
    go_ret2
    exact ⟨_, _, _, rfl, by simpa using h0, hx.alloc _⟩
  have hm4 : (m : Int) ≤ 300 := by omega
  cases hr : posTo xss false ms m with
  | none =>
    have hq : amOk xss ms = false := amOk_none (by rw [← hml.out]; exact hr)
    rw [hq]
    rw [hr] at HPl
    simp only [playInt] at HPl
    clear hd hq hr hm3
    simp only [Bool.false_eq_true, if_false]
    go_enter Try.func6, Try.ntmps6
    go_wp2_with fail
    (refine (l14Good_c _ _ _ xss _ (h.ext (by (repeat (first | with_reducible exact Ext.refl _ | with_reducible assumption | ((with_reducible refine Ext.setCell ?_ ?_ _); rotate_left; focus (first | omega | (simp <;> omega))) | with_reducible refine Ext.alloc ?_ _ | with_reducible refine Ext.drewN ?_ _ | with_reducible refine Ext.drew ?_ | with_reducible refine Ext.trans ?_ (by with_reducible assumption)))))).mono ?_; rw [HD.out]; rintro e w1 ⟨rfl, he⟩; have hs := he.size; have c1 := he.cell (p := ⟨w.heap.size, 0, none⟩) (u := .slice A n d) (by simp [go_sem]))
    go_wp2_with fail
    refine (HPl.out _ (h.ext (by (repeat (first | with_reducible exact Ext.refl _ | with_reducible assumption | ((with_reducible refine Ext.setCell ?_ ?_ _); rotate_left; focus (first | omega | (simp <;> omega))) | with_reducible refine Ext.alloc ?_ _ | with_reducible refine Ext.drewN ?_ _ | with_reducible refine Ext.drew ?_ | with_reducible refine Ext.trans ?_ (by with_reducible assumption))))) (k.ext (by (repeat (first | with_reducible exact Ext.refl _ | with_reducible assumption | ((with_reducible refine Ext.setCell ?_ ?_ _); rotate_left; focus (first | omega | (simp <;> omega))) | with_reducible refine Ext.alloc ?_ _ | with_reducible refine Ext.drewN ?_ _ | with_reducible refine Ext.drew ?_ | with_reducible refine Ext.trans ?_ (by with_reducible assumption)))))).mono ?_
    rintro e w2 ⟨rfl, he2⟩
    have hx : Ext w w2 := by (repeat (first | with_reducible exact Ext.refl _ | with_reducible assumption | ((with_reducible refine Ext.setCell ?_ ?_ _); rotate_left; focus (first | omega | (simp <;> omega))) | with_reducible refine Ext.alloc ?_ _ | with_reducible refine Ext.drewN ?_ _ | with_reducible refine Ext.drew ?_ | with_reducible refine Ext.trans ?_ (by with_reducible assumption)))
    have hs2 := hx.size
    have h0 := ObI.empty (e := 3) (W := w2) (lo := w.heap.size) (by omega)
    clear he he2
    go_wp2_with fail
    go_ret2
    exact ⟨_, _, _, rfl, by simpa using h0, hx.alloc _⟩
  | some r =>
    obtain ⟨ps, s⟩ := r
    have hq : amOk xss ms = true := by unfold amOk; rw [hd, decide_eq_true (by rw [← hml.out]; exact hm3), ← hml.out, hr]; rfl
    have hls : amList xss ms = pickAll s.testBit 10 := by unfold amList; rw [← hml.out, hr]
    have hs := (posTo_small (rev := false) (ms := ms) hl10 m ps s hr).1
    rw [hq, hls]
    rw [hr] at HPl
    simp only [playInt] at HPl
    generalize mostB (ps ++ [s]) = q at *
    have HL := hide (fun W => l14List_c s W hs)
    clear hd hq hr hm3 hls
    simp only [if_true]
    go_enter Try.func6, Try.ntmps6
    go_wp2_with fail
    (refine (l14Good_c _ _ _ xss _ (h.ext (by (repeat (first | with_reducible exact Ext.refl _ | with_reducible assumption | ((with_reducible refine Ext.setCell ?_ ?_ _); rotate_left; focus (first | omega | (simp <;> omega))) | with_reducible refine Ext.alloc ?_ _ | with_reducible refine Ext.drewN ?_ _ | with_reducible refine Ext.drew ?_ | with_reducible refine Ext.trans ?_ (by with_reducible assumption)))))).mono ?_; rw [HD.out]; rintro e w1 ⟨rfl, he⟩; have c1 := he.cell (p := ⟨w.heap.size, 0, none⟩) (u := .slice A n d) (by simp [go_sem]))
    go_wp2_with fail
    refine (HPl.out _ (h.ext (by (repeat (first | with_reducible exact Ext.refl _ | with_reducible assumption | ((with_reducible refine Ext.setCell ?_ ?_ _); rotate_left; focus (first | omega | (simp <;> omega))) | with_reducible refine Ext.alloc ?_ _ | with_reducible refine Ext.drewN ?_ _ | with_reducible refine Ext.drew ?_ | with_reducible refine Ext.trans ?_ (by with_reducible assumption))))) (k.ext (by (repeat (first | with_reducible exact Ext.refl _ | with_reducible assumption | ((with_reducible refine Ext.setCell ?_ ?_ _); rotate_left; focus (first | omega | (simp <;> omega))) | with_reducible refine Ext.alloc ?_ _ | with_reducible refine Ext.drewN ?_ _ | with_reducible refine Ext.drew ?_ | with_reducible refine Ext.trans ?_ (by with_reducible assumption)))))).mono ?_
    rintro e w2 ⟨rfl, he2⟩
    have hx : Ext w w2 := by (repeat (first | with_reducible exact Ext.refl _ | with_reducible assumption | ((with_reducible refine Ext.setCell ?_ ?_ _); rotate_left; focus (first | omega | (simp <;> omega))) | with_reducible refine Ext.alloc ?_ _ | with_reducible refine Ext.drewN ?_ _ | with_reducible refine Ext.drew ?_ | with_reducible refine Ext.trans ?_ (by with_reducible assumption)))
    clear he he2
    go_wp2_with fail
    (with_reducible refine (HL.out _).mono ?_)
    rintro e w3 ⟨A', n', c', rfl, hn', ho, he3⟩
    have hx3 := hx.trans he3
    go_wp2_with fail
    go_ret2
    exact ⟨_, _, _, rfl, ObI.of (ho.lower hx.size) (by omega), hx3⟩
set_option maxHeartbeats 1600000 in
theorem impl_AfterMoves_o (A : Option Addr) (n d : Nat) (xss : List (List Int)) (B : Option Addr) (m c : Nat) (ms : List Mv) (w : World) (h : Intss w A n xss) (k : Moves w B m ms) (hm20 : m ≤ 1048576) :
    Calls Try.prog 9 #[.agg #[.slice A n d], .slice B m c] w fun e w' =>
      ∃ A' n' c', e = .returned (.tuple #[.slice A' n' c', .bool (amOk xss ms)]) ∧ ObI 3 w' w.heap.size w'.heap.size A' n' c' (if amOk xss ms then amList xss ms else []) ∧ Ext w w' := by
  have hml := hide k.len
  cases hd : dagOk xss
  · have hq : amOk xss ms = false := by unfold amOk; rw [hd]; rfl
    rw [hq]
    have HD := hide hd
    clear hd hq
    simp only [Bool.false_eq_true, if_false]
    go_enter Try.func9, Try.ntmps9
    go_wp2_with (go_at_call 23; refine (impl_IsDag_c _ _ _ xss _ (h.ext (by (repeat (first | with_reducible exact Ext.refl _ | with_reducible assumption | ((with_reducible refine Ext.setCell ?_ ?_ _); rotate_left; focus (first | omega | (simp <;> omega))) | with_reducible refine Ext.alloc ?_ _ | with_reducible refine Ext.drewN ?_ _ | with_reducible refine Ext.drew ?_ | with_reducible refine Ext.trans ?_ (by with_reducible assumption)))))).mono ?_; rw [HD.out]; rintro e w1 ⟨rfl, he⟩)
    go_ret2
    exact ⟨_, _, _, rfl, ObI.nil, by (repeat (first | with_reducible exact Ext.refl _ | with_reducible assumption | ((with_reducible refine Ext.setCell ?_ ?_ _); rotate_left; focus (first | omega | (simp <;> omega))) | with_reducible refine Ext.alloc ?_ _ | with_reducible refine Ext.drewN ?_ _ | with_reducible refine Ext.drew ?_ | with_reducible refine Ext.trans ?_ (by with_reducible assumption)))⟩
  have HD := hide hd
  have hl10 : xss.length ≤ 10 := dagOk_len hd
  have HPo := hide (fun W (hh : Intss W A n xss) (kk : Moves W B m ms) => positions_c xss hd false A n d B m c ms W hh kk hm20)
  cases hr : posTo xss false ms m with
  | none =>
    have hq : amOk xss ms = false := amOk_none (by rw [← hml.out]; exact hr)
    rw [hq]
    rw [hr] at HPo
    clear hd hq hr
    simp only [Bool.false_eq_true, if_false]
    go_enter Try.func9, Try.ntmps9
    go_wp2_with fail
    (refine (impl_IsDag_c _ _ _ xss _ (h.ext (by (repeat (first | with_reducible exact Ext.refl _ | with_reducible assumption | ((with_reducible refine Ext.setCell ?_ ?_ _); rotate_left; focus (first | omega | (simp <;> omega))) | with_reducible refine Ext.alloc ?_ _ | with_reducible refine Ext.drewN ?_ _ | with_reducible refine Ext.drew ?_ | with_reducible refine Ext.trans ?_ (by with_reducible assumption)))))).mono ?_; rw [HD.out]; rintro e w1 ⟨rfl, he⟩; have c1 := he.cell (p := ⟨w.heap.size, 0, none⟩) (u := .slice A n d) (by simp [go_sem]))
    go_wp2_with fail
    (with_reducible refine (HPo.out _ (h.ext (by (repeat (first | with_reducible exact Ext.refl _ | with_reducible assumption | ((with_reducible refine Ext.setCell ?_ ?_ _); rotate_left; focus (first | omega | (simp <;> omega))) | with_reducible refine Ext.alloc ?_ _ | with_reducible refine Ext.drewN ?_ _ | with_reducible refine Ext.drew ?_ | with_reducible refine Ext.trans ?_ (by with_reducible assumption))))) (k.ext (by (repeat (first | with_reducible exact Ext.refl _ | with_reducible assumption | ((with_reducible refine Ext.setCell ?_ ?_ _); rotate_left; focus (first | omega | (simp <;> omega))) | with_reducible refine Ext.alloc ?_ _ | with_reducible refine Ext.drewN ?_ _ | with_reducible refine Ext.drew ?_ | with_reducible refine Ext.trans ?_ (by with_reducible assumption)))))).mono ?_)
    rintro e w2 ⟨X, N, y, rfl, -, he2⟩
    have hx : Ext w w2 := by (repeat (first | with_reducible exact Ext.refl _ | with_reducible assumption | ((with_reducible refine Ext.setCell ?_ ?_ _); rotate_left; focus (first | omega | (simp <;> omega))) | with_reducible refine Ext.alloc ?_ _ | with_reducible refine Ext.drewN ?_ _ | with_reducible refine Ext.drew ?_ | with_reducible refine Ext.trans ?_ (by with_reducible assumption)))
    clear he he2
    go_wp2_with fail
    go_ret2
    exact ⟨_, _, _, rfl, ObI.nil, hx⟩
  | some r =>
    obtain ⟨ps, s⟩ := r
    have hs := (posTo_small (rev := false) (ms := ms) hl10 m ps s hr).1
    have hls : amList xss ms = pickAll s.testBit 10 := by unfold amList; rw [← hml.out, hr]
    have hq : amOk xss ms = decide (m ≤ 300) := by unfold amOk; rw [hd, ← hml.out, hr]; simp
    rw [hq, hls]
    rw [hr] at HPo
    dsimp only at HPo
    have HL := hide (fun W => list_c s W hs)
    clear hd hq hr hls
    cases hm3 : decide (m ≤ 300)
    · rw [hm3] at HPo
      simp only [Bool.false_eq_true, if_false]
      clear hm3
      go_enter Try.func9, Try.ntmps9
      go_wp2_with fail
      (refine (impl_IsDag_c _ _ _ xss _ (h.ext (by (repeat (first | with_reducible exact Ext.refl _ | with_reducible assumption | ((with_reducible refine Ext.setCell ?_ ?_ _); rotate_left; focus (first | omega | (simp <;> omega))) | with_reducible refine Ext.alloc ?_ _ | with_reducible refine Ext.drewN ?_ _ | with_reducible refine Ext.drew ?_ | with_reducible refine Ext.trans ?_ (by with_reducible assumption)))))).mono ?_; rw [HD.out]; rintro e w1 ⟨rfl, he⟩; have c1 := he.cell (p := ⟨w.heap.size, 0, none⟩) (u := .slice A n d) (by simp [go_sem]))
      go_wp2_with fail
      (with_reducible refine (HPo.out _ (h.ext (by (repeat (first | with_reducible exact Ext.refl _ | with_reducible assumption | ((with_reducible refine Ext.setCell ?_ ?_ _); rotate_left; focus (first | omega | (simp <;> omega))) | with_reducible refine Ext.alloc ?_ _ | with_reducible refine Ext.drewN ?_ _ | with_reducible refine Ext.drew ?_ | with_reducible refine Ext.trans ?_ (by with_reducible assumption))))) (k.ext (by (repeat (first | with_reducible exact Ext.refl _ | with_reducible assumption | ((with_reducible refine Ext.setCell ?_ ?_ _); rotate_left; focus (first | omega | (simp <;> omega))) | with_reducible refine Ext.alloc ?_ _ | with_reducible refine Ext.drewN ?_ _ | with_reducible refine Ext.drew ?_ | with_reducible refine Ext.trans ?_ (by with_reducible assumption)))))).mono ?_)
      rintro e w2 ⟨X, N, y, rfl, -, he2⟩
      have hx : Ext w w2 := by (repeat (first | with_reducible exact Ext.refl _ | with_reducible assumption | ((with_reducible refine Ext.setCell ?_ ?_ _); rotate_left; focus (first | omega | (simp <;> omega))) | with_reducible refine Ext.alloc ?_ _ | with_reducible refine Ext.drewN ?_ _ | with_reducible refine Ext.drew ?_ | with_reducible refine Ext.trans ?_ (by with_reducible assumption)))
      clear he he2
      go_wp2_with fail
      go_ret2
      exact ⟨_, _, _, rfl, ObI.nil, hx⟩
    · rw [hm3] at HPo
      simp only [if_true]
      clear hm3
      go_enter Try.func9, Try.ntmps9
      go_wp2_with fail
      (refine (impl_IsDag_c _ _ _ xss _ (h.ext (by (repeat (first | with_reducible exact Ext.refl _ | with_reducible assumption | ((with_reducible refine Ext.setCell ?_ ?_ _); rotate_left; focus (first | omega | (simp <;> omega))) | with_reducible refine Ext.alloc ?_ _ | with_reducible refine Ext.drewN ?_ _ | with_reducible refine Ext.drew ?_ | with_reducible refine Ext.trans ?_ (by with_reducible assumption)))))).mono ?_; rw [HD.out]; rintro e w1 ⟨rfl, he⟩; have c1 := he.cell (p := ⟨w.heap.size, 0, none⟩) (u := .slice A n d) (by simp [go_sem]))
      go_wp2_with fail
      (with_reducible refine (HPo.out _ (h.ext (by (repeat (first | with_reducible exact Ext.refl _ | with_reducible assumption | ((with_reducible refine Ext.setCell ?_ ?_ _); rotate_left; focus (first | omega | (simp <;> omega))) | with_reducible refine Ext.alloc ?_ _ | with_reducible refine Ext.drewN ?_ _ | with_reducible refine Ext.drew ?_ | with_reducible refine Ext.trans ?_ (by with_reducible assumption))))) (k.ext (by (repeat (first | with_reducible exact Ext.refl _ | with_reducible assumption | ((with_reducible refine Ext.setCell ?_ ?_ _); rotate_left; focus (first | omega | (simp <;> omega))) | with_reducible refine Ext.alloc ?_ _ | with_reducible refine Ext.drewN ?_ _ | with_reducible refine Ext.drew ?_ | with_reducible refine Ext.trans ?_ (by with_reducible assumption)))))).mono ?_)
      rintro e w2 ⟨X, N, y, rfl, hO, he2⟩
      obtain ⟨hN, ho⟩ := hO _ _ rfl
      subst hN
      have hx : Ext w w2 := by (repeat (first | with_reducible exact Ext.refl _ | with_reducible assumption | ((with_reducible refine Ext.setCell ?_ ?_ _); rotate_left; focus (first | omega | (simp <;> omega))) | with_reducible refine Ext.alloc ?_ _ | with_reducible refine Ext.drewN ?_ _ | with_reducible refine Ext.drew ?_ | with_reducible refine Ext.trans ?_ (by with_reducible assumption)))
      have HLs := hide (last_c _ X m y ps s w2 ho (by omega))
      clear he he2 hO ho
      go_wp2_with fail
      (with_reducible refine HLs.out.mono ?_)
      rintro e w3 ⟨rfl, he3⟩
      have hx3 := hx.trans he3
      go_wp2_with fail
      (with_reducible refine (HL.out _).mono ?_)
      rintro e w4 ⟨A', n', c', rfl, hn', ho, he4⟩
      have hx4 := hx3.trans he4
      go_wp2_with fail
      go_ret2
      exact ⟨_, _, _, rfl, ObI.of (ho.lower hx3.size) (by omega), hx4⟩
end Go.Proofs.Ytialpmmdomhobaa
