/-
  IsPebbling: both texts return the same.
-/
import Derived.Test.YtcbjaomjamfjcaaD9
namespace Go.Proofs.Ytcbjaomjamfjcaa
set_option linter.unusedSimpArgs false
set_option linter.unusedVariables false
open Go.RowKit

/-- Are the moves a pebbling? -/
def pebB (xss : List (List Int)) (rev : Bool) (ms : List Mv) : Bool :=
  match posTo xss rev ms ms.length with
  | none => false
  | some (_, s) => decide (ms.length ≤ 300) && goalB xss.length rev s
theorem dag_len1 {xss : List (List Int)} (h : dagOk xss = true) : 1 ≤ xss.length ∧ xss.length ≤ 10 := by
  have := within_true (and2_true h).1
  omega
set_option maxHeartbeats 1600000 in
theorem l14Is_c (xss : List (List Int)) (hd : dagOk xss = true) (rev : Bool) (A : Option Addr) (n d : Nat) (B : Option Addr) (m c : Nat) (ms : List Mv) (w : World) (h : Intss w A n xss) (k : Moves w B m ms) :
    Calls Try.prog 112 #[.agg #[.slice A n d], .slice B m c, .bool rev] w fun e w' => e = .returned (.bool (pebB xss rev ms)) ∧ Ext w w' := by
  have hl10 := dag_len1 hd
  have hnn : 1 ≤ n ∧ n ≤ 10 := by have := h.len; omega
  have hbm := k.bound
  have hml := hide k.len
  have hnl := hide h.len
  have HPl := hide (fun W (hh : Intss W A n xss) (kk : Moves W B m ms) => l14Play_c xss hd rev A n d B m c ms W hh kk)
  have hpe : pebB xss rev ms = match posTo xss rev ms m with | none => false | some (_, s) => decide (m ≤ 300) && goalB n rev s := by unfold pebB; rw [← hml.out, ← hnl.out]
  rw [hpe]
  clear hpe hd
  have hsm := fun ps s (hh : posTo xss rev ms m = some (ps, s)) => (posTo_small (rev := rev) (ms := ms) hl10.2 m ps s hh).1
  cases hr : posTo xss rev ms m with
  | none =>
    rw [hr] at HPl
    simp only [playInt] at HPl
    clear hr hsm
    by_cases hm3 : m ≤ 300
    · go_enter Try.func112, Try.ntmps112
      go_wp2_with (go_at_call 116; refine (HPl.out _ (h.ext (by (repeat (first | with_reducible exact Ext.refl _ | with_reducible assumption | ((with_reducible refine Ext.setCell ?_ ?_ _); rotate_left; focus (first | omega | (simp <;> omega))) | with_reducible refine Ext.alloc ?_ _ | with_reducible refine Ext.drewN ?_ _ | with_reducible refine Ext.drew ?_ | with_reducible refine Ext.trans ?_ (by with_reducible assumption))))) (k.ext (by (repeat (first | with_reducible exact Ext.refl _ | with_reducible assumption | ((with_reducible refine Ext.setCell ?_ ?_ _); rotate_left; focus (first | omega | (simp <;> omega))) | with_reducible refine Ext.alloc ?_ _ | with_reducible refine Ext.drewN ?_ _ | with_reducible refine Ext.drew ?_ | with_reducible refine Ext.trans ?_ (by with_reducible assumption)))))).mono ?_; rintro e w1 ⟨rfl, he1⟩; have c1 := he1.cell (p := ⟨w.heap.size, 0, none⟩) (u := .slice A n d) (by simp [go_sem]))
      go_ret
      exact ⟨rfl, by (repeat (first | with_reducible exact Ext.refl _ | with_reducible assumption | ((with_reducible refine Ext.setCell ?_ ?_ _); rotate_left; focus (first | omega | (simp <;> omega))) | with_reducible refine Ext.alloc ?_ _ | with_reducible refine Ext.drewN ?_ _ | with_reducible refine Ext.drew ?_ | with_reducible refine Ext.trans ?_ (by with_reducible assumption)))⟩
    · have hm4 : (300 : Int) < (m : Int) := by omega
      clear hm3
      go_enter Try.func112, Try.ntmps112
      go_wp2_with (go_at_call 116; refine (HPl.out _ (h.ext (by (repeat (first | with_reducible exact Ext.refl _ | with_reducible assumption | ((with_reducible refine Ext.setCell ?_ ?_ _); rotate_left; focus (first | omega | (simp <;> omega))) | with_reducible refine Ext.alloc ?_ _ | with_reducible refine Ext.drewN ?_ _ | with_reducible refine Ext.drew ?_ | with_reducible refine Ext.trans ?_ (by with_reducible assumption))))) (k.ext (by (repeat (first | with_reducible exact Ext.refl _ | with_reducible assumption | ((with_reducible refine Ext.setCell ?_ ?_ _); rotate_left; focus (first | omega | (simp <;> omega))) | with_reducible refine Ext.alloc ?_ _ | with_reducible refine Ext.drewN ?_ _ | with_reducible refine Ext.drew ?_ | with_reducible refine Ext.trans ?_ (by with_reducible assumption)))))).mono ?_; rintro e w1 ⟨rfl, he1⟩; have c1 := he1.cell (p := ⟨w.heap.size, 0, none⟩) (u := .slice A n d) (by simp [go_sem]))
      go_ret
      exact ⟨rfl, by (repeat (first | with_reducible exact Ext.refl _ | with_reducible assumption | ((with_reducible refine Ext.setCell ?_ ?_ _); rotate_left; focus (first | omega | (simp <;> omega))) | with_reducible refine Ext.alloc ?_ _ | with_reducible refine Ext.drewN ?_ _ | with_reducible refine Ext.drew ?_ | with_reducible refine Ext.trans ?_ (by with_reducible assumption)))⟩
  | some r =>
    obtain ⟨ps, s⟩ := r
    have hs := hsm ps s hr
    rw [hr] at HPl
    simp only [playInt] at HPl
    have hmost := most_le (ps ++ [s])
    generalize mostB (ps ++ [s]) = q at *
    have HDo := hide (fun W => l14Done_c rev s A n d W hs hnn)
    clear hr hsm
    obtain ⟨G, hG⟩ : ∃ G, goalB n rev s = G := ⟨_, rfl⟩
    dsimp only
    rw [hG] at HDo ⊢
    clear hG
    by_cases hm3 : m ≤ 300
    · rw [decide_eq_true hm3, Bool.true_and]
      go_enter Try.func112, Try.ntmps112
      go_wp2_with (first | (go_at_call 116; refine (HPl.out _ (h.ext (by (repeat (first | with_reducible exact Ext.refl _ | with_reducible assumption | ((with_reducible refine Ext.setCell ?_ ?_ _); rotate_left; focus (first | omega | (simp <;> omega))) | with_reducible refine Ext.alloc ?_ _ | with_reducible refine Ext.drewN ?_ _ | with_reducible refine Ext.drew ?_ | with_reducible refine Ext.trans ?_ (by with_reducible assumption))))) (k.ext (by (repeat (first | with_reducible exact Ext.refl _ | with_reducible assumption | ((with_reducible refine Ext.setCell ?_ ?_ _); rotate_left; focus (first | omega | (simp <;> omega))) | with_reducible refine Ext.alloc ?_ _ | with_reducible refine Ext.drewN ?_ _ | with_reducible refine Ext.drew ?_ | with_reducible refine Ext.trans ?_ (by with_reducible assumption)))))).mono ?_; rintro e w1 ⟨rfl, he1⟩; have c1 := he1.cell (p := ⟨w.heap.size, 0, none⟩) (u := .slice A n d) (by simp [go_sem])) | (go_at_call 145; refine (HDo.out _).mono ?_; rintro e w2 ⟨rfl, he2⟩))
      go_ret
      exact ⟨rfl, by (repeat (first | with_reducible exact Ext.refl _ | with_reducible assumption | ((with_reducible refine Ext.setCell ?_ ?_ _); rotate_left; focus (first | omega | (simp <;> omega))) | with_reducible refine Ext.alloc ?_ _ | with_reducible refine Ext.drewN ?_ _ | with_reducible refine Ext.drew ?_ | with_reducible refine Ext.trans ?_ (by with_reducible assumption)))⟩
    · rw [decide_eq_false hm3, Bool.false_and]
      have hm4 : (300 : Int) < (m : Int) := by omega
      clear hm3
      go_enter Try.func112, Try.ntmps112
      go_wp2_with (first | (go_at_call 116; refine (HPl.out _ (h.ext (by (repeat (first | with_reducible exact Ext.refl _ | with_reducible assumption | ((with_reducible refine Ext.setCell ?_ ?_ _); rotate_left; focus (first | omega | (simp <;> omega))) | with_reducible refine Ext.alloc ?_ _ | with_reducible refine Ext.drewN ?_ _ | with_reducible refine Ext.drew ?_ | with_reducible refine Ext.trans ?_ (by with_reducible assumption))))) (k.ext (by (repeat (first | with_reducible exact Ext.refl _ | with_reducible assumption | ((with_reducible refine Ext.setCell ?_ ?_ _); rotate_left; focus (first | omega | (simp <;> omega))) | with_reducible refine Ext.alloc ?_ _ | with_reducible refine Ext.drewN ?_ _ | with_reducible refine Ext.drew ?_ | with_reducible refine Ext.trans ?_ (by with_reducible assumption)))))).mono ?_; rintro e w1 ⟨rfl, he1⟩; have c1 := he1.cell (p := ⟨w.heap.size, 0, none⟩) (u := .slice A n d) (by simp [go_sem])) | (go_at_call 145; refine (HDo.out _).mono ?_; rintro e w2 ⟨rfl, he2⟩))
      go_ret
      exact ⟨rfl, by (repeat (first | with_reducible exact Ext.refl _ | with_reducible assumption | ((with_reducible refine Ext.setCell ?_ ?_ _); rotate_left; focus (first | omega | (simp <;> omega))) | with_reducible refine Ext.alloc ?_ _ | with_reducible refine Ext.drewN ?_ _ | with_reducible refine Ext.drew ?_ | with_reducible refine Ext.trans ?_ (by with_reducible assumption)))⟩
set_option maxHeartbeats 1600000 in
theorem isPebbling_c (xss : List (List Int)) (hd : dagOk xss = true) (rev : Bool) (A : Option Addr) (n d : Nat) (B : Option Addr) (m c : Nat) (ms : List Mv) (w : World) (h : Intss w A n xss) (k : Moves w B m ms) (hm20 : m ≤ 1048576) :
    Calls Try.prog 114 #[.agg #[.slice A n d], .slice B m c, .bool rev] w fun e w' => e = .returned (.bool (pebB xss rev ms)) ∧ Ext w w' := by
  have hl10 := dag_len1 hd
  have hnn : 1 ≤ n ∧ n ≤ 10 := by have := h.len; omega
  have hml := hide k.len
  have hnl := hide h.len
  have HPo := hide (fun W (hh : Intss W A n xss) (kk : Moves W B m ms) => positions_c xss hd rev A n d B m c ms W hh kk hm20)
  have hpe : pebB xss rev ms = match posTo xss rev ms m with | none => false | some (_, s) => decide (m ≤ 300) && goalB n rev s := by unfold pebB; rw [← hml.out, ← hnl.out]
  rw [hpe]
  clear hpe hd
  have hsm := fun ps s (hh : posTo xss rev ms m = some (ps, s)) => (posTo_small (rev := rev) (ms := ms) hl10.2 m ps s hh).1
  cases hr : posTo xss rev ms m with
  | none =>
    rw [hr] at HPo
    clear hr hsm
    go_enter Try.func114, Try.ntmps114
    go_wp2_with fail
    (with_reducible refine (HPo.out _ (h.ext (by (repeat (first | with_reducible exact Ext.refl _ | with_reducible assumption | ((with_reducible refine Ext.setCell ?_ ?_ _); rotate_left; focus (first | omega | (simp <;> omega))) | with_reducible refine Ext.alloc ?_ _ | with_reducible refine Ext.drewN ?_ _ | with_reducible refine Ext.drew ?_ | with_reducible refine Ext.trans ?_ (by with_reducible assumption))))) (k.ext (by (repeat (first | with_reducible exact Ext.refl _ | with_reducible assumption | ((with_reducible refine Ext.setCell ?_ ?_ _); rotate_left; focus (first | omega | (simp <;> omega))) | with_reducible refine Ext.alloc ?_ _ | with_reducible refine Ext.drewN ?_ _ | with_reducible refine Ext.drew ?_ | with_reducible refine Ext.trans ?_ (by with_reducible assumption)))))).mono ?_)
    rintro e w1 ⟨X, N, y, rfl, -, he1⟩
    have c1 := he1.cell (p := ⟨w.heap.size, 0, none⟩) (u := .slice A n d) (by simp [go_sem])
    have e1 : Ext w w1 := by (repeat (first | with_reducible exact Ext.refl _ | with_reducible assumption | ((with_reducible refine Ext.setCell ?_ ?_ _); rotate_left; focus (first | omega | (simp <;> omega))) | with_reducible refine Ext.alloc ?_ _ | with_reducible refine Ext.drewN ?_ _ | with_reducible refine Ext.drew ?_ | with_reducible refine Ext.trans ?_ (by with_reducible assumption)))
    clear he1
    go_wp2_with fail
    go_quiet (fail)
    go_wp2_with fail
    go_ret
    exact ⟨rfl, e1.drewN _⟩
  | some r =>
    obtain ⟨ps, s⟩ := r
    have hs := hsm ps s hr
    rw [hr] at HPo
    have HDo := hide (fun W => goal_c rev s A n d W hs hnn)
    clear hr hsm
    obtain ⟨G, hG⟩ : ∃ G, goalB n rev s = G := ⟨_, rfl⟩
    dsimp only at HPo ⊢
    rw [hG] at HDo ⊢
    clear hG
    by_cases hm3 : m ≤ 300
    · rw [decide_eq_true hm3] at HPo ⊢
      rw [Bool.true_and]
      go_enter Try.func114, Try.ntmps114
      go_wp2_with fail
      (with_reducible refine (HPo.out _ (h.ext (by (repeat (first | with_reducible exact Ext.refl _ | with_reducible assumption | ((with_reducible refine Ext.setCell ?_ ?_ _); rotate_left; focus (first | omega | (simp <;> omega))) | with_reducible refine Ext.alloc ?_ _ | with_reducible refine Ext.drewN ?_ _ | with_reducible refine Ext.drew ?_ | with_reducible refine Ext.trans ?_ (by with_reducible assumption))))) (k.ext (by (repeat (first | with_reducible exact Ext.refl _ | with_reducible assumption | ((with_reducible refine Ext.setCell ?_ ?_ _); rotate_left; focus (first | omega | (simp <;> omega))) | with_reducible refine Ext.alloc ?_ _ | with_reducible refine Ext.drewN ?_ _ | with_reducible refine Ext.drew ?_ | with_reducible refine Ext.trans ?_ (by with_reducible assumption)))))).mono ?_)
      rintro e w1 ⟨X, N, y, rfl, hO, he1⟩
      obtain ⟨hN, ho⟩ := hO _ _ rfl
      subst hN
      have c1 := he1.cell (p := ⟨w.heap.size, 0, none⟩) (u := .slice A n d) (by simp [go_sem])
      have e1 : Ext w w1 := by (repeat (first | with_reducible exact Ext.refl _ | with_reducible assumption | ((with_reducible refine Ext.setCell ?_ ?_ _); rotate_left; focus (first | omega | (simp <;> omega))) | with_reducible refine Ext.alloc ?_ _ | with_reducible refine Ext.drewN ?_ _ | with_reducible refine Ext.drew ?_ | with_reducible refine Ext.trans ?_ (by with_reducible assumption)))
      have HLs := hide (fun W (E : Ext w1 W) => last_c _ X m y ps s W (ho.ext E) (by omega))
      have hed := (Ext.refl w1).drew
      clear he1 hO ho
      go_wp2_with fail
      go_region_held3 (fun w' => w'.cell? ⟨w.heap.size, 0, none⟩ = some (.slice A n d)) (exact (show Ext w1 _ by (repeat (first | with_reducible exact Ext.refl _ | with_reducible assumption | ((with_reducible refine Ext.setCell ?_ ?_ _); rotate_left; focus (first | omega | (simp <;> omega))) | with_reducible refine Ext.alloc ?_ _ | with_reducible refine Ext.drewN ?_ _ | with_reducible refine Ext.drew ?_ | with_reducible refine Ext.trans ?_ (by with_reducible assumption)))).cell c1) (first | (go_at_call 147; (with_reducible refine (HLs.out _ (by (repeat (first | with_reducible exact Ext.refl _ | with_reducible assumption | ((with_reducible refine Ext.setCell ?_ ?_ _); rotate_left; focus (first | omega | (simp <;> omega))) | with_reducible refine Ext.alloc ?_ _ | with_reducible refine Ext.drewN ?_ _ | with_reducible refine Ext.drew ?_ | with_reducible refine Ext.trans ?_ (by with_reducible assumption))))).mono ?_); rintro e w2 ⟨rfl, he2⟩; have ew2 : Ext w1 w2 := (by (repeat (first | with_reducible exact Ext.refl _ | with_reducible assumption | ((with_reducible refine Ext.setCell ?_ ?_ _); rotate_left; focus (first | omega | (simp <;> omega))) | with_reducible refine Ext.alloc ?_ _ | with_reducible refine Ext.drewN ?_ _ | with_reducible refine Ext.drew ?_ | with_reducible refine Ext.trans ?_ (by with_reducible assumption))))) | (go_at_call 146; (with_reducible refine (HDo.out _).mono ?_); rintro e w3 ⟨rfl, he3⟩; have ew3 : Ext w1 w3 := Ext.trans ew2 he3))
      go_wp2_with fail
      go_ret
      exact ⟨rfl, e1.trans ew3⟩
    · rw [decide_eq_false hm3] at HPo ⊢
      rw [Bool.false_and]
      go_enter Try.func114, Try.ntmps114
      go_wp2_with fail
      (with_reducible refine (HPo.out _ (h.ext (by (repeat (first | with_reducible exact Ext.refl _ | with_reducible assumption | ((with_reducible refine Ext.setCell ?_ ?_ _); rotate_left; focus (first | omega | (simp <;> omega))) | with_reducible refine Ext.alloc ?_ _ | with_reducible refine Ext.drewN ?_ _ | with_reducible refine Ext.drew ?_ | with_reducible refine Ext.trans ?_ (by with_reducible assumption))))) (k.ext (by (repeat (first | with_reducible exact Ext.refl _ | with_reducible assumption | ((with_reducible refine Ext.setCell ?_ ?_ _); rotate_left; focus (first | omega | (simp <;> omega))) | with_reducible refine Ext.alloc ?_ _ | with_reducible refine Ext.drewN ?_ _ | with_reducible refine Ext.drew ?_ | with_reducible refine Ext.trans ?_ (by with_reducible assumption)))))).mono ?_)
      rintro e w1 ⟨X, N, y, rfl, -, he1⟩
      have c1 := he1.cell (p := ⟨w.heap.size, 0, none⟩) (u := .slice A n d) (by simp [go_sem])
      have e1 : Ext w w1 := by (repeat (first | with_reducible exact Ext.refl _ | with_reducible assumption | ((with_reducible refine Ext.setCell ?_ ?_ _); rotate_left; focus (first | omega | (simp <;> omega))) | with_reducible refine Ext.alloc ?_ _ | with_reducible refine Ext.drewN ?_ _ | with_reducible refine Ext.drew ?_ | with_reducible refine Ext.trans ?_ (by with_reducible assumption)))
      clear he1
      go_wp2_with fail
      go_quiet (fail)
      go_wp2_with fail
      go_ret
      exact ⟨rfl, e1.drewN _⟩
set_option maxHeartbeats 800000 in
theorem spec_IsPebbling_c (rev : Bool) (A : Option Addr) (n d : Nat) (xss : List (List Int)) (B : Option Addr) (m c : Nat) (ms : List Mv) (w : World) (h : Intss w A n xss) (k : Moves w B m ms) :
    Calls Try.prog 60 #[.agg #[.slice A n d], .slice B m c, .bool rev] w fun e w' => e = .returned (.tuple #[.bool (dagOk xss && pebB xss rev ms), .bool (dagOk xss)]) ∧ Ext w w' := by
  cases hd : dagOk xss
  · have HD := hide hd
    clear hd
    simp only [Bool.false_and]
    go_enter Try.func60, Try.ntmps60
    go_wp2_with (go_at_call 106; refine (l14Good_c _ _ _ xss _ (h.ext (by (repeat (first | with_reducible exact Ext.refl _ | with_reducible assumption | ((with_reducible refine Ext.setCell ?_ ?_ _); rotate_left; focus (first | omega | (simp <;> omega))) | with_reducible refine Ext.alloc ?_ _ | with_reducible refine Ext.drewN ?_ _ | with_reducible refine Ext.drew ?_ | with_reducible refine Ext.trans ?_ (by with_reducible assumption)))))).mono ?_; rw [HD.out]; rintro e w1 ⟨rfl, he⟩)
    go_ret2
    exact ⟨rfl, by (repeat (first | with_reducible exact Ext.refl _ | with_reducible assumption | ((with_reducible refine Ext.setCell ?_ ?_ _); rotate_left; focus (first | omega | (simp <;> omega))) | with_reducible refine Ext.alloc ?_ _ | with_reducible refine Ext.drewN ?_ _ | with_reducible refine Ext.drew ?_ | with_reducible refine Ext.trans ?_ (by with_reducible assumption)))⟩
  · have HD := hide hd
    have HI := hide (fun W (hh : Intss W A n xss) (kk : Moves W B m ms) => l14Is_c xss hd rev A n d B m c ms W hh kk)
    simp only [Bool.true_and]
    generalize pebB xss rev ms = u at *
    clear hd
    go_enter Try.func60, Try.ntmps60
    go_wp2_with (first | (go_at_call 106; refine (l14Good_c _ _ _ xss _ (h.ext (by (repeat (first | with_reducible exact Ext.refl _ | with_reducible assumption | ((with_reducible refine Ext.setCell ?_ ?_ _); rotate_left; focus (first | omega | (simp <;> omega))) | with_reducible refine Ext.alloc ?_ _ | with_reducible refine Ext.drewN ?_ _ | with_reducible refine Ext.drew ?_ | with_reducible refine Ext.trans ?_ (by with_reducible assumption)))))).mono ?_; rw [HD.out]; rintro e w1 ⟨rfl, he⟩; have c1 := he.cell (p := ⟨w.heap.size, 0, none⟩) (u := .slice A n d) (by simp [go_sem])) | (go_at_call 112; refine (HI.out _ (h.ext (by (repeat (first | with_reducible exact Ext.refl _ | with_reducible assumption | ((with_reducible refine Ext.setCell ?_ ?_ _); rotate_left; focus (first | omega | (simp <;> omega))) | with_reducible refine Ext.alloc ?_ _ | with_reducible refine Ext.drewN ?_ _ | with_reducible refine Ext.drew ?_ | with_reducible refine Ext.trans ?_ (by with_reducible assumption))))) (k.ext (by (repeat (first | with_reducible exact Ext.refl _ | with_reducible assumption | ((with_reducible refine Ext.setCell ?_ ?_ _); rotate_left; focus (first | omega | (simp <;> omega))) | with_reducible refine Ext.alloc ?_ _ | with_reducible refine Ext.drewN ?_ _ | with_reducible refine Ext.drew ?_ | with_reducible refine Ext.trans ?_ (by with_reducible assumption)))))).mono ?_; rintro e w2 ⟨rfl, he2⟩))
    go_ret2
    exact ⟨rfl, by (repeat (first | with_reducible exact Ext.refl _ | with_reducible assumption | ((with_reducible refine Ext.setCell ?_ ?_ _); rotate_left; focus (first | omega | (simp <;> omega))) | with_reducible refine Ext.alloc ?_ _ | with_reducible refine Ext.drewN ?_ _ | with_reducible refine Ext.drew ?_ | with_reducible refine Ext.trans ?_ (by with_reducible assumption)))⟩
set_option maxHeartbeats 800000 in
theorem impl_IsPebbling_c (rev : Bool) (A : Option Addr) (n d : Nat) (xss : List (List Int)) (B : Option Addr) (m c : Nat) (ms : List Mv) (w : World) (h : Intss w A n xss) (k : Moves w B m ms) (hm20 : m ≤ 1048576) :
    Calls Try.prog 62 #[.agg #[.slice A n d], .slice B m c, .bool rev] w fun e w' => e = .returned (.tuple #[.bool (dagOk xss && pebB xss rev ms), .bool (dagOk xss)]) ∧ Ext w w' := by
  cases hd : dagOk xss
  · have HD := hide hd
    clear hd
    simp only [Bool.false_and]
    go_enter Try.func62, Try.ntmps62
    go_wp2_with (go_at_call 108; refine (impl_IsDag_c _ _ _ xss _ (h.ext (by (repeat (first | with_reducible exact Ext.refl _ | with_reducible assumption | ((with_reducible refine Ext.setCell ?_ ?_ _); rotate_left; focus (first | omega | (simp <;> omega))) | with_reducible refine Ext.alloc ?_ _ | with_reducible refine Ext.drewN ?_ _ | with_reducible refine Ext.drew ?_ | with_reducible refine Ext.trans ?_ (by with_reducible assumption)))))).mono ?_; rw [HD.out]; rintro e w1 ⟨rfl, he⟩)
    go_ret2
    exact ⟨rfl, by (repeat (first | with_reducible exact Ext.refl _ | with_reducible assumption | ((with_reducible refine Ext.setCell ?_ ?_ _); rotate_left; focus (first | omega | (simp <;> omega))) | with_reducible refine Ext.alloc ?_ _ | with_reducible refine Ext.drewN ?_ _ | with_reducible refine Ext.drew ?_ | with_reducible refine Ext.trans ?_ (by with_reducible assumption)))⟩
  · have HD := hide hd
    have HI := hide (fun W (hh : Intss W A n xss) (kk : Moves W B m ms) => isPebbling_c xss hd rev A n d B m c ms W hh kk hm20)
    simp only [Bool.true_and]
    generalize pebB xss rev ms = u at *
    clear hd
    go_enter Try.func62, Try.ntmps62
    go_wp2_with (first | (go_at_call 108; refine (impl_IsDag_c _ _ _ xss _ (h.ext (by (repeat (first | with_reducible exact Ext.refl _ | with_reducible assumption | ((with_reducible refine Ext.setCell ?_ ?_ _); rotate_left; focus (first | omega | (simp <;> omega))) | with_reducible refine Ext.alloc ?_ _ | with_reducible refine Ext.drewN ?_ _ | with_reducible refine Ext.drew ?_ | with_reducible refine Ext.trans ?_ (by with_reducible assumption)))))).mono ?_; rw [HD.out]; rintro e w1 ⟨rfl, he⟩; have c1 := he.cell (p := ⟨w.heap.size, 0, none⟩) (u := .slice A n d) (by simp [go_sem])) | (go_at_call 114; refine (HI.out _ (h.ext (by (repeat (first | with_reducible exact Ext.refl _ | with_reducible assumption | ((with_reducible refine Ext.setCell ?_ ?_ _); rotate_left; focus (first | omega | (simp <;> omega))) | with_reducible refine Ext.alloc ?_ _ | with_reducible refine Ext.drewN ?_ _ | with_reducible refine Ext.drew ?_ | with_reducible refine Ext.trans ?_ (by with_reducible assumption))))) (k.ext (by (repeat (first | with_reducible exact Ext.refl _ | with_reducible assumption | ((with_reducible refine Ext.setCell ?_ ?_ _); rotate_left; focus (first | omega | (simp <;> omega))) | with_reducible refine Ext.alloc ?_ _ | with_reducible refine Ext.drewN ?_ _ | with_reducible refine Ext.drew ?_ | with_reducible refine Ext.trans ?_ (by with_reducible assumption)))))).mono ?_; rintro e w2 ⟨rfl, he2⟩))
    go_ret2
    exact ⟨rfl, by (repeat (first | with_reducible exact Ext.refl _ | with_reducible assumption | ((with_reducible refine Ext.setCell ?_ ?_ _); rotate_left; focus (first | omega | (simp <;> omega))) | with_reducible refine Ext.alloc ?_ _ | with_reducible refine Ext.drewN ?_ _ | with_reducible refine Ext.drew ?_ | with_reducible refine Ext.trans ?_ (by with_reducible assumption)))⟩
end Go.Proofs.Ytcbjaomjamfjcaa
