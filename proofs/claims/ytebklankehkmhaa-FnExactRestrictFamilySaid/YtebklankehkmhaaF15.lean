/-
  ForgetVar on both sides; no condition.
-/
import Derived.Test.YtebklankehkmhaaF14
import Derived.Test.YtebklankehkmhaaC14
import Derived.Test.YtebklankehkmhaaF13
namespace Go.Proofs.Ytebklankehkmhaa
set_option linter.unusedSimpArgs false
set_option linter.unusedVariables false
open Go.RowKit
theorem clause_small' {v : Int} {c : List Int} (h : clauseOk v c = true) : Small c := by
  obtain ⟨hv, hr, _⟩ := clause_facts h
  intro x hx
  have := hr x hx
  omega
def takeOk (v W : Int) (cls : List (List Int)) (l : List (List Int)) (a : List Int) (u : Int) : Bool := memOk v W cls l a && within u 1 v
def fgOk (v W : Int) (cls : List (List Int)) (l : List (List Int)) (a : List Int) (u : Int) : Bool := takeOk v W cls l a u && !openL a u
theorem famR_facts {v W : Int} {cls : List (List Int)} {l : List (List Int)} (h : famR v W cls l = true) : (∀ b ∈ l, clauseOk v b = true) ∧ Asc l := by
  obtain ⟨h1, h2⟩ := and2_true h
  obtain ⟨u, rfl, hu⟩ := nar_nat h1
  rw [show ((u : Nat) : Int).toNat = u by omega] at h2
  exact famA_facts (and2_true h2).1
theorem takeOk_no {v W : Int} {cls : List (List Int)} {l : List (List Int)} {a : List Int} {u : Int} (h : famR v W cls l = false) : takeOk v W cls l a u = false := by unfold takeOk memOk; rw [h]; rfl
set_option maxRecDepth 100000 in
set_option maxHeartbeats 3200000 in
theorem l13Takes_c (v W : Int) (C : Option Addr) (nc dc : Nat) (cls : List (List Int)) (A : Option Addr) (n d : Nat) (l : List (List Int)) (B : Option Addr) (m q : Nat) (a : List Int) (t : Int) (w : World) (hcl : Intss w C nc cls) (h : IntssC w A n l) (k : Ints w B m a) :
    Calls Try.prog 99 #[.agg #[.int .i64 v, .slice C nc dc], .int .i64 W, .slice A n d, .slice B m q, .int .i64 t] w fun e w' => e = .returned (.bool (takeOk v W cls l a t)) ∧ Ext w w' := by
  have HN := hide (fun Wd (E : Ext w Wd) => l13Asked_c v W C nc dc cls Wd (hcl.ext E))
  have HL := hide h.rd.len
  have hb := h.rd.bound
  have HG := hide (fun Wd (E : Ext w Wd) => l3Good_c v B m q a Wd (k.ext E))
  have HW := hide (fun Wd => l1In_c t 1 v Wd)
  cases hn : narOk v cls W
  · have hz : takeOk v W cls l a t = false := takeOk_no (by unfold famR; rw [hn]; rfl)
    rw [hz]
    rw [hn] at HN; clear hn hz
    go_enter Try.func99, Try.ntmps99
    go_wp2_with (go_at_call 85; (with_reducible refine (HN.out _ (by (repeat (first | with_reducible exact Ext.refl _ | with_reducible assumption | ((with_reducible refine Ext.setCell ?_ ?_ _); rotate_left; focus (first | omega | (simp <;> omega))) | with_reducible refine Ext.alloc ?_ _ | with_reducible refine Ext.drewN ?_ _ | with_reducible refine Ext.drew ?_ | with_reducible refine Ext.trans ?_ (by with_reducible assumption))))).mono ?_); rintro e1 w1 ⟨rfl, he1⟩)
    go_ret
    exact ⟨rfl, by (repeat (first | with_reducible exact Ext.refl _ | with_reducible assumption | ((with_reducible refine Ext.setCell ?_ ?_ _); rotate_left; focus (first | omega | (simp <;> omega))) | with_reducible refine Ext.alloc ?_ _ | with_reducible refine Ext.drewN ?_ _ | with_reducible refine Ext.drew ?_ | with_reducible refine Ext.trans ?_ (by with_reducible assumption)))⟩
  rw [hn] at HN
  obtain ⟨u, rfl, hu⟩ := nar_nat hn
  obtain ⟨-, -, hWb, hc⟩ := nar_facts hn
  have hfr : famR u W cls l = famB u cls W l := by unfold famR; rw [hn, show ((u : Nat) : Int).toNat = u by omega]; rfl
  by_cases h7 : n ≤ 729
  rotate_left
  · have hz : takeOk u W cls l a t = false := takeOk_no (by rw [hfr, famB_big hu (by have := HL.out; omega)])
    rw [hz]
    have h7d : decide ((n : Int) ≤ 729) = false := decide_eq_false (by omega)
    clear hn hc hz hfr
    go_enter Try.func99, Try.ntmps99
    go_wp2_with (go_at_call 85; (with_reducible refine (HN.out _ (by (repeat (first | with_reducible exact Ext.refl _ | with_reducible assumption | ((with_reducible refine Ext.setCell ?_ ?_ _); rotate_left; focus (first | omega | (simp <;> omega))) | with_reducible refine Ext.alloc ?_ _ | with_reducible refine Ext.drewN ?_ _ | with_reducible refine Ext.drew ?_ | with_reducible refine Ext.trans ?_ (by with_reducible assumption))))).mono ?_); rintro e1 w1 ⟨rfl, he1⟩; have bc0 := he1.cell (p := ⟨w.heap.size, 0, none⟩) (u := .int .i64 u) (by first | simp [go_sem] | simp [go_sem, *]); have bf0 := he1.frozen (p := ⟨w.heap.size, 0, none⟩) (by first | omega | (simp <;> omega)) (by first | simp [go_sem] | simp [go_sem, *]); have bc1 := he1.cell (p := ⟨w.heap.size, 1, none⟩) (u := .slice C nc dc) (by first | simp [go_sem] | simp [go_sem, *]); have bf1 := he1.frozen (p := ⟨w.heap.size, 1, none⟩) (by first | omega | (simp <;> omega)) (by first | simp [go_sem] | simp [go_sem, *]))
    go_ret
    exact ⟨rfl, by (repeat (first | with_reducible exact Ext.refl _ | with_reducible assumption | ((with_reducible refine Ext.setCell ?_ ?_ _); rotate_left; focus (first | omega | (simp <;> omega))) | with_reducible refine Ext.alloc ?_ _ | with_reducible refine Ext.drewN ?_ _ | with_reducible refine Ext.drew ?_ | with_reducible refine Ext.trans ?_ (by with_reducible assumption)))⟩
  have h7d : (n : Int) ≤ 729 := by omega
  have HI := hide (fun Wd (E : Ext w Wd) => l13Is_c u W C nc dc cls A n d l Wd (h.ext E) (hcl.ext E) (by omega) hc hWb hu)
  cases hf : famB u cls W l
  · have hz : takeOk u W cls l a t = false := takeOk_no (by rw [hfr, hf])
    rw [hz]
    rw [hf] at HI
    clear hn hc hz hfr hf
    go_enter Try.func99, Try.ntmps99
    go_wp2_with (first | (go_at_call 85; (with_reducible refine (HN.out _ (by (repeat (first | with_reducible exact Ext.refl _ | with_reducible assumption | ((with_reducible refine Ext.setCell ?_ ?_ _); rotate_left; focus (first | omega | (simp <;> omega))) | with_reducible refine Ext.alloc ?_ _ | with_reducible refine Ext.drewN ?_ _ | with_reducible refine Ext.drew ?_ | with_reducible refine Ext.trans ?_ (by with_reducible assumption))))).mono ?_); rintro e1 w1 ⟨rfl, he1⟩; have bc2 := he1.cell (p := ⟨w.heap.size, 0, none⟩) (u := .int .i64 u) (by first | simp [go_sem] | simp [go_sem, *]); have bf2 := he1.frozen (p := ⟨w.heap.size, 0, none⟩) (by first | omega | (simp <;> omega)) (by first | simp [go_sem] | simp [go_sem, *]); have bc3 := he1.cell (p := ⟨w.heap.size, 1, none⟩) (u := .slice C nc dc) (by first | simp [go_sem] | simp [go_sem, *]); have bf3 := he1.frozen (p := ⟨w.heap.size, 1, none⟩) (by first | omega | (simp <;> omega)) (by first | simp [go_sem] | simp [go_sem, *])) | (go_at_call 91; (with_reducible refine (HI.out _ (by (repeat (first | with_reducible exact Ext.refl _ | with_reducible assumption | ((with_reducible refine Ext.setCell ?_ ?_ _); rotate_left; focus (first | omega | (simp <;> omega))) | with_reducible refine Ext.alloc ?_ _ | with_reducible refine Ext.drewN ?_ _ | with_reducible refine Ext.drew ?_ | with_reducible refine Ext.trans ?_ (by with_reducible assumption))))).mono ?_); rintro e2 w2 ⟨rfl, he2⟩))
    go_ret
    exact ⟨rfl, by (repeat (first | with_reducible exact Ext.refl _ | with_reducible assumption | ((with_reducible refine Ext.setCell ?_ ?_ _); rotate_left; focus (first | omega | (simp <;> omega))) | with_reducible refine Ext.alloc ?_ _ | with_reducible refine Ext.drewN ?_ _ | with_reducible refine Ext.drew ?_ | with_reducible refine Ext.trans ?_ (by with_reducible assumption)))⟩
  rw [hf] at HI
  obtain ⟨hoks, hasc⟩ := famR_facts (hfr.trans hf)
  cases hco : clauseOk u a
  · have hz : takeOk u W cls l a t = false := by
      cases hmm : memOk u W cls l a
      · unfold takeOk; rw [hmm]; rfl
      · have := memOk_clause hmm; rw [hco] at this; cases this
    rw [hz]
    rw [hco] at HG
    clear hn hc hz hfr hf hco hoks hasc
    go_enter Try.func99, Try.ntmps99
    go_wp2_with (first | (go_at_call 85; (with_reducible refine (HN.out _ (by (repeat (first | with_reducible exact Ext.refl _ | with_reducible assumption | ((with_reducible refine Ext.setCell ?_ ?_ _); rotate_left; focus (first | omega | (simp <;> omega))) | with_reducible refine Ext.alloc ?_ _ | with_reducible refine Ext.drewN ?_ _ | with_reducible refine Ext.drew ?_ | with_reducible refine Ext.trans ?_ (by with_reducible assumption))))).mono ?_); rintro e1 w1 ⟨rfl, he1⟩; have bc4 := he1.cell (p := ⟨w.heap.size, 0, none⟩) (u := .int .i64 u) (by first | simp [go_sem] | simp [go_sem, *]); have bf4 := he1.frozen (p := ⟨w.heap.size, 0, none⟩) (by first | omega | (simp <;> omega)) (by first | simp [go_sem] | simp [go_sem, *]); have bc5 := he1.cell (p := ⟨w.heap.size, 1, none⟩) (u := .slice C nc dc) (by first | simp [go_sem] | simp [go_sem, *]); have bf5 := he1.frozen (p := ⟨w.heap.size, 1, none⟩) (by first | omega | (simp <;> omega)) (by first | simp [go_sem] | simp [go_sem, *])) | (go_at_call 91; (with_reducible refine (HI.out _ (by (repeat (first | with_reducible exact Ext.refl _ | with_reducible assumption | ((with_reducible refine Ext.setCell ?_ ?_ _); rotate_left; focus (first | omega | (simp <;> omega))) | with_reducible refine Ext.alloc ?_ _ | with_reducible refine Ext.drewN ?_ _ | with_reducible refine Ext.drew ?_ | with_reducible refine Ext.trans ?_ (by with_reducible assumption))))).mono ?_); rintro e2 w2 ⟨rfl, he2⟩; have y0 := he2.cell bc4; have y1 := he2.cell bc5) | (go_at_call 86; (with_reducible refine (HG.out _ (by (repeat (first | with_reducible exact Ext.refl _ | with_reducible assumption | ((with_reducible refine Ext.setCell ?_ ?_ _); rotate_left; focus (first | omega | (simp <;> omega))) | with_reducible refine Ext.alloc ?_ _ | with_reducible refine Ext.drewN ?_ _ | with_reducible refine Ext.drew ?_ | with_reducible refine Ext.trans ?_ (by with_reducible assumption))))).mono ?_); rintro e3 w3 ⟨rfl, he3⟩))
    go_ret
    exact ⟨rfl, by (repeat (first | with_reducible exact Ext.refl _ | with_reducible assumption | ((with_reducible refine Ext.setCell ?_ ?_ _); rotate_left; focus (first | omega | (simp <;> omega))) | with_reducible refine Ext.alloc ?_ _ | with_reducible refine Ext.drewN ?_ _ | with_reducible refine Ext.drew ?_ | with_reducible refine Ext.trans ?_ (by with_reducible assumption)))⟩
  rw [hco] at HG
  have HA := hide (fun Wd (E : Ext w Wd) => l2At_c A n d l B m q a Wd (h.rd.ext E) (k.ext E) (by omega) hasc (fun x hx => clause_small (hoks x hx)) (clause_small hco))
  have hT : takeOk u W cls l a t = (memC l a && within t 1 u) := by unfold takeOk memOk; rw [hfr, hf, Bool.true_and]
  rw [hT]
  clear hn hc hfr hf hco hoks hasc hT
  generalize within t 1 (u : Int) = p at HW ⊢
  cases hm : memC l a
  · rw [hm] at HA
    have HM := hide hm
    go_enter Try.func99, Try.ntmps99
    go_wp2_with fail
    refine (HN.out _ (by (repeat (first | with_reducible exact Ext.refl _ | with_reducible assumption | ((with_reducible refine Ext.setCell ?_ ?_ _); rotate_left; focus (first | omega | (simp <;> omega))) | with_reducible refine Ext.alloc ?_ _ | with_reducible refine Ext.drewN ?_ _ | with_reducible refine Ext.drew ?_ | with_reducible refine Ext.trans ?_ (by with_reducible assumption))))).mono ?_
    rintro e1 w1 ⟨rfl, he1⟩
    have ew1 : Hid (Ext w w1) := hide (Ext.trans ((Ext.refl _).alloc _) he1)
    have bc6 := he1.cell (p := ⟨w.heap.size, 0, none⟩) (u := .int .i64 u) (by first | simp [go_sem] | simp [go_sem, *]); have bf6 := he1.frozen (p := ⟨w.heap.size, 0, none⟩) (by first | omega | (simp <;> omega)) (by first | simp [go_sem] | simp [go_sem, *]); have bc7 := he1.cell (p := ⟨w.heap.size, 1, none⟩) (u := .slice C nc dc) (by first | simp [go_sem] | simp [go_sem, *]); have bf7 := he1.frozen (p := ⟨w.heap.size, 1, none⟩) (by first | omega | (simp <;> omega)) (by first | simp [go_sem] | simp [go_sem, *])
    go_wp2_with fail
    refine (HI.out _ ew1.out).mono ?_
    rintro e2 w2 ⟨rfl, he2⟩
    have ew2 : Hid (Ext w w2) := hide (ew1.out.trans he2)
    have y0 := he2.cell bc6
    go_wp2_with fail
    refine (HG.out _ ew2.out).mono ?_
    rintro e3 w3 ⟨rfl, he3⟩
    have ew3 : Hid (Ext w w3) := hide (ew2.out.trans he3)
    go_wp2_with fail
    refine (HA.out _ ew3.out).mono ?_
    rintro e4 w4 ⟨rr, rfl, hrr, he4⟩
    have hneg : ¬ (0 : Int) ≤ rr := by simp at hrr; omega
    have hnegd : decide ((0 : Int) ≤ rr) = false := decide_eq_false hneg
    clear hrr
    go_wp2_with fail
    go_ret
    exact ⟨rfl, ew3.out.trans he4⟩
  · rw [hm] at HA
    have HM := hide hm
    go_enter Try.func99, Try.ntmps99
    go_wp2_with fail
    refine (HN.out _ (by (repeat (first | with_reducible exact Ext.refl _ | with_reducible assumption | ((with_reducible refine Ext.setCell ?_ ?_ _); rotate_left; focus (first | omega | (simp <;> omega))) | with_reducible refine Ext.alloc ?_ _ | with_reducible refine Ext.drewN ?_ _ | with_reducible refine Ext.drew ?_ | with_reducible refine Ext.trans ?_ (by with_reducible assumption))))).mono ?_
    rintro e1 w1 ⟨rfl, he1⟩
    have ew1 : Hid (Ext w w1) := hide (Ext.trans ((Ext.refl _).alloc _) he1)
    have bc8 := he1.cell (p := ⟨w.heap.size, 0, none⟩) (u := .int .i64 u) (by first | simp [go_sem] | simp [go_sem, *]); have bf8 := he1.frozen (p := ⟨w.heap.size, 0, none⟩) (by first | omega | (simp <;> omega)) (by first | simp [go_sem] | simp [go_sem, *]); have bc9 := he1.cell (p := ⟨w.heap.size, 1, none⟩) (u := .slice C nc dc) (by first | simp [go_sem] | simp [go_sem, *]); have bf9 := he1.frozen (p := ⟨w.heap.size, 1, none⟩) (by first | omega | (simp <;> omega)) (by first | simp [go_sem] | simp [go_sem, *])
    go_wp2_with fail
    refine (HI.out _ ew1.out).mono ?_
    rintro e2 w2 ⟨rfl, he2⟩
    have ew2 : Hid (Ext w w2) := hide (ew1.out.trans he2)
    have y0 := he2.cell bc8
    go_wp2_with fail
    refine (HG.out _ ew2.out).mono ?_
    rintro e3 w3 ⟨rfl, he3⟩
    have ew3 : Hid (Ext w w3) := hide (ew2.out.trans he3)
    have x0 := he3.cell y0
    go_wp2_with fail
    refine (HA.out _ ew3.out).mono ?_
    rintro e4 w4 ⟨rr, rfl, hrr, he4⟩
    have hneg : (0 : Int) ≤ rr := by simp at hrr; omega
    have hnegd : decide ((0 : Int) ≤ rr) = true := decide_eq_true hneg
    have z0 := he4.cell x0
    clear hrr
    go_wp2_with fail
    refine (HW.out _).mono ?_
    rintro e5 w5 ⟨rfl, rfl⟩
    go_wp2_with fail
    go_ret
    exact ⟨rfl, ew3.out.trans he4⟩
set_option maxRecDepth 100000 in
set_option maxHeartbeats 1600000 in
theorem spec_ForgetVar_o (v W : Int) (C : Option Addr) (nc dc : Nat) (cls : List (List Int)) (A : Option Addr) (n d : Nat) (l : List (List Int)) (B : Option Addr) (m q : Nat) (a : List Int) (t : Int) (w : World) (hcl : Intss w C nc cls) (h : IntssC w A n l) (k : Ints w B m a) :
    Calls Try.prog 49 #[.agg #[.int .i64 v, .slice C nc dc], .int .i64 W, .slice A n d, .slice B m q, .int .i64 t] w fun e w' =>
      ∃ A' n' c', e = .returned (.tuple #[.slice A' n' c', .bool (fgOk v W cls l a t)]) ∧ ObI 3 w' w.heap.size w'.heap.size A' n' c' (if fgOk v W cls l a t then woutV a t else []) ∧ Ext w w' := by
  have HT := hide (fun Wd (E : Ext w Wd) => l13Takes_c v W C nc dc cls A n d l B m q a t Wd (hcl.ext E) (h.ext E) (k.ext E))
  have HH := hide (fun Wd (E : Ext w Wd) (x : Int) => l2Has_c B m q x a Wd (k.ext E))
  unfold fgOk
  cases ht : takeOk v W cls l a t
  · rw [ht] at HT; clear ht
    simp only [Bool.false_and, Bool.false_eq_true, if_false]
    go_enter Try.func49, Try.ntmps49
    go_wp2_with (go_at_call 99; (with_reducible refine (HT.out _ (by (repeat (first | with_reducible exact Ext.refl _ | with_reducible assumption | ((with_reducible refine Ext.setCell ?_ ?_ _); rotate_left; focus (first | omega | (simp <;> omega))) | with_reducible refine Ext.alloc ?_ _ | with_reducible refine Ext.drewN ?_ _ | with_reducible refine Ext.drew ?_ | with_reducible refine Ext.trans ?_ (by with_reducible assumption))))).mono ?_); rintro e1 w1 ⟨rfl, he1⟩)
    have ew1 : Ext w w1 := Ext.trans ((Ext.refl _).alloc _) he1
    go_ret2
    exact ⟨_, _, _, rfl, by simpa using ObI.empty (e := 3) (W := w1) (lo := w.heap.size) ew1.size, ew1.alloc _⟩
  rw [ht] at HT
  obtain ⟨hmo, hwi⟩ := and2_true ht
  have hco := memOk_clause hmo
  have hsm := clause_small' hco
  obtain ⟨ht1, ht2⟩ := within_true hwi
  have hv12 := (clause_facts hco).1
  have hwn : IntKind.i64.wrap (-t) = -t := IntWalk.i64_in _ (by omega)
  have hml : m ≤ 12 := by have := k.len; have := (clause_facts hco).2.2; omega
  have HO := hide (fun Wd (E : Ext w Wd) => l2Without_o B m q a t Wd (k.ext E) hsm (by omega))
  rw [Bool.true_and, openL_has]
  clear ht hmo hco hsm hwi
  have H1 := hide (fun Wd (E : Ext w Wd) => HH.out Wd E t)
  have H2 := hide (fun Wd (E : Ext w Wd) => HH.out Wd E (-t))
  clear HH
  cases h1 : hasInt t a
  · rw [h1] at H1
    cases h2 : hasInt (-t) a
    · rw [h2] at H2; clear h1 h2
      simp only [Bool.not_false, Bool.and_self, Bool.not_true, Bool.false_eq_true, if_false]
      go_enter Try.func49, Try.ntmps49
      go_wp2_with (first | (go_at_call 99; (with_reducible refine (HT.out _ (by (repeat (first | with_reducible exact Ext.refl _ | with_reducible assumption | ((with_reducible refine Ext.setCell ?_ ?_ _); rotate_left; focus (first | omega | (simp <;> omega))) | with_reducible refine Ext.alloc ?_ _ | with_reducible refine Ext.drewN ?_ _ | with_reducible refine Ext.drew ?_ | with_reducible refine Ext.trans ?_ (by with_reducible assumption))))).mono ?_); rintro e1 w1 ⟨rfl, he1⟩; have ew1 : Hid (Ext w w1) := hide (Ext.trans ((Ext.refl _).alloc _) he1)) | (go_at_call 100; (with_reducible refine (H1.out _ ew1.out).mono ?_); rintro e2 w2 ⟨rfl, he2⟩; have ew2 : Hid (Ext w w2) := hide (ew1.out.trans he2)) | (go_at_call 100; (with_reducible refine (H2.out _ ew2.out).mono ?_); rintro e3 w3 ⟨rfl, he3⟩; have ew3 : Hid (Ext w w3) := hide (ew2.out.trans he3)))
      go_ret2
      exact ⟨_, _, _, rfl, by simpa using ObI.empty (e := 3) (W := w3) (lo := w.heap.size) ew3.out.size, ew3.out.alloc _⟩
    · rw [h2] at H2; clear h1 h2
      simp only [Bool.not_false, Bool.not_true, Bool.and_false, if_true]
      go_enter Try.func49, Try.ntmps49
      go_wp2_with (first | (go_at_call 99; (with_reducible refine (HT.out _ (by (repeat (first | with_reducible exact Ext.refl _ | with_reducible assumption | ((with_reducible refine Ext.setCell ?_ ?_ _); rotate_left; focus (first | omega | (simp <;> omega))) | with_reducible refine Ext.alloc ?_ _ | with_reducible refine Ext.drewN ?_ _ | with_reducible refine Ext.drew ?_ | with_reducible refine Ext.trans ?_ (by with_reducible assumption))))).mono ?_); rintro e1 w1 ⟨rfl, he1⟩; have ew1 : Hid (Ext w w1) := hide (Ext.trans ((Ext.refl _).alloc _) he1)) | (go_at_call 100; (with_reducible refine (H1.out _ ew1.out).mono ?_); rintro e2 w2 ⟨rfl, he2⟩; have ew2 : Hid (Ext w w2) := hide (ew1.out.trans he2)) | (go_at_call 100; (with_reducible refine (H2.out _ ew2.out).mono ?_); rintro e3 w3 ⟨rfl, he3⟩; have ew3 : Hid (Ext w w3) := hide (ew2.out.trans he3)) | (go_at_call 101; (with_reducible refine (HO.out _ ew3.out).mono ?_); rintro e4 w4 ⟨X, y, z, rfl, ho, hy, he4⟩))
      go_ret2
      exact ⟨_, _, _, rfl, ObI.of (ho.lower ew3.out.size) (by omega), ew3.out.trans he4⟩
  · rw [h1] at H1; clear h1
    simp only [Bool.not_true, Bool.false_and, Bool.not_false, if_true]
    go_enter Try.func49, Try.ntmps49
    go_wp2_with (first | (go_at_call 99; (with_reducible refine (HT.out _ (by (repeat (first | with_reducible exact Ext.refl _ | with_reducible assumption | ((with_reducible refine Ext.setCell ?_ ?_ _); rotate_left; focus (first | omega | (simp <;> omega))) | with_reducible refine Ext.alloc ?_ _ | with_reducible refine Ext.drewN ?_ _ | with_reducible refine Ext.drew ?_ | with_reducible refine Ext.trans ?_ (by with_reducible assumption))))).mono ?_); rintro e1 w1 ⟨rfl, he1⟩; have ew1 : Hid (Ext w w1) := hide (Ext.trans ((Ext.refl _).alloc _) he1)) | (go_at_call 100; (with_reducible refine (H1.out _ ew1.out).mono ?_); rintro e2 w2 ⟨rfl, he2⟩; have ew2 : Hid (Ext w w2) := hide (ew1.out.trans he2)) | (go_at_call 101; (with_reducible refine (HO.out _ ew2.out).mono ?_); rintro e4 w4 ⟨X, y, z, rfl, ho, hy, he4⟩))
    go_ret2
    exact ⟨_, _, _, rfl, ObI.of (ho.lower ew2.out.size) (by omega), ew2.out.trans he4⟩
set_option maxRecDepth 100000 in
set_option maxHeartbeats 1600000 in
theorem impl_ForgetVar_o (v W : Int) (C : Option Addr) (nc dc : Nat) (cls : List (List Int)) (A : Option Addr) (n d : Nat) (l : List (List Int)) (B : Option Addr) (m q : Nat) (a : List Int) (t : Int) (w : World) (hcl : Intss w C nc cls) (h : IntssC w A n l) (k : Ints w B m a) :
    Calls Try.prog 50 #[.agg #[.int .i64 v, .slice C nc dc], .int .i64 W, .slice A n d, .slice B m q, .int .i64 t] w fun e w' =>
      ∃ A' n' c', e = .returned (.tuple #[.slice A' n' c', .bool (fgOk v W cls l a t)]) ∧ ObI 3 w' w.heap.size w'.heap.size A' n' c' (if fgOk v W cls l a t then woutV a t else []) ∧ Ext w w' := by
  have HM := hide (fun Wd (E : Ext w Wd) => memberOf_c v W C nc dc cls A n d l B m q a Wd (hcl.ext E) (h.rd.ext E) (k.ext E))
  have HW := hide (fun Wd => isVar_c v t Wd)
  unfold fgOk takeOk
  cases hm : memOk v W cls l a
  · rw [hm] at HM; clear hm
    simp only [Bool.false_and, Bool.false_eq_true, if_false]
    go_enter Try.func50, Try.ntmps50
    go_wp2_with (go_at_call 102; (with_reducible refine (HM.out _ (by (repeat (first | with_reducible exact Ext.refl _ | with_reducible assumption | ((with_reducible refine Ext.setCell ?_ ?_ _); rotate_left; focus (first | omega | (simp <;> omega))) | with_reducible refine Ext.alloc ?_ _ | with_reducible refine Ext.drewN ?_ _ | with_reducible refine Ext.drew ?_ | with_reducible refine Ext.trans ?_ (by with_reducible assumption))))).mono ?_); rintro e1 w1 ⟨rfl, he1⟩)
    go_ret2
    exact ⟨_, _, _, rfl, ObI.nil, by (repeat (first | with_reducible exact Ext.refl _ | with_reducible assumption | ((with_reducible refine Ext.setCell ?_ ?_ _); rotate_left; focus (first | omega | (simp <;> omega))) | with_reducible refine Ext.alloc ?_ _ | with_reducible refine Ext.drewN ?_ _ | with_reducible refine Ext.drew ?_ | with_reducible refine Ext.trans ?_ (by with_reducible assumption)))⟩
  rw [hm] at HM
  have hco := memOk_clause hm
  have hsm := clause_small' hco
  have hv12 := (clause_facts hco).1
  have hml : m ≤ 12 := by have := k.len; have := (clause_facts hco).2.2; omega
  cases hwi : within t 1 v
  · rw [hwi] at HW; clear hwi hm hco hsm
    simp only [Bool.and_false, Bool.false_and, Bool.false_eq_true, if_false]
    go_enter Try.func50, Try.ntmps50
    go_wp2_with (first | (go_at_call 102; (with_reducible refine (HM.out _ (by (repeat (first | with_reducible exact Ext.refl _ | with_reducible assumption | ((with_reducible refine Ext.setCell ?_ ?_ _); rotate_left; focus (first | omega | (simp <;> omega))) | with_reducible refine Ext.alloc ?_ _ | with_reducible refine Ext.drewN ?_ _ | with_reducible refine Ext.drew ?_ | with_reducible refine Ext.trans ?_ (by with_reducible assumption))))).mono ?_); rintro e1 w1 ⟨rfl, he1⟩; have bc10 := he1.cell (p := ⟨w.heap.size, 0, none⟩) (u := .int .i64 v) (by first | simp [go_sem] | simp [go_sem, *]); have bf10 := he1.frozen (p := ⟨w.heap.size, 0, none⟩) (by first | omega | (simp <;> omega)) (by first | simp [go_sem] | simp [go_sem, *]); have bc11 := he1.cell (p := ⟨w.heap.size, 1, none⟩) (u := .slice C nc dc) (by first | simp [go_sem] | simp [go_sem, *]); have bf11 := he1.frozen (p := ⟨w.heap.size, 1, none⟩) (by first | omega | (simp <;> omega)) (by first | simp [go_sem] | simp [go_sem, *])) | (go_at_call 103; (with_reducible refine (HW.out _).mono ?_); rintro e2 w2 ⟨rfl, rfl⟩))
    go_ret2
    exact ⟨_, _, _, rfl, ObI.nil, by (repeat (first | with_reducible exact Ext.refl _ | with_reducible assumption | ((with_reducible refine Ext.setCell ?_ ?_ _); rotate_left; focus (first | omega | (simp <;> omega))) | with_reducible refine Ext.alloc ?_ _ | with_reducible refine Ext.drewN ?_ _ | with_reducible refine Ext.drew ?_ | with_reducible refine Ext.trans ?_ (by with_reducible assumption)))⟩
  rw [hwi] at HW
  obtain ⟨ht1, ht2⟩ := within_true hwi
  have HO := hide (fun Wd (E : Ext w Wd) => withoutVar_o B m q a t Wd (k.ext E) hsm (by omega))
  have hf : firstO a [t] = if openL a t then t else 0 := by simp [firstO]
  have HF := hide (fun Wd (E : Ext w Wd) => firstOpen_c (some ⟨Wd.heap.size, 0, none⟩) 1 1 [t] B m q a (Wd.alloc (.cells #[.int .i64 t] 3)) (⟨rfl, by omega, fun _ => ⟨_, rfl, fun j u hu => by cases j with | zero => simp at hu; subst hu; exact (BoxAt.made Wd _ _).cell 0 _ rfl | succ j => simp at hu⟩⟩) (k.ext (E.alloc _)) (by intro y hy; simp at hy; subst hy; omega))
  rw [hf] at HF
  simp only [Bool.true_and]
  clear hm hco hsm hwi hf
  cases ho : openL a t
  · rw [ho] at HF; clear ho
    simp only [Bool.false_eq_true, if_false, Bool.not_false, if_true] at HF ⊢
    go_enter Try.func50, Try.ntmps50
    go_wp2_with (first | (go_at_call 102; (with_reducible refine (HM.out _ (by (repeat (first | with_reducible exact Ext.refl _ | with_reducible assumption | ((with_reducible refine Ext.setCell ?_ ?_ _); rotate_left; focus (first | omega | (simp <;> omega))) | with_reducible refine Ext.alloc ?_ _ | with_reducible refine Ext.drewN ?_ _ | with_reducible refine Ext.drew ?_ | with_reducible refine Ext.trans ?_ (by with_reducible assumption))))).mono ?_); rintro e1 w1 ⟨rfl, he1⟩; have ew1 : Hid (Ext w w1) := hide (Ext.trans ((Ext.refl _).alloc _) he1); have bc12 := he1.cell (p := ⟨w.heap.size, 0, none⟩) (u := .int .i64 v) (by first | simp [go_sem] | simp [go_sem, *]); have bf12 := he1.frozen (p := ⟨w.heap.size, 0, none⟩) (by first | omega | (simp <;> omega)) (by first | simp [go_sem] | simp [go_sem, *]); have bc13 := he1.cell (p := ⟨w.heap.size, 1, none⟩) (u := .slice C nc dc) (by first | simp [go_sem] | simp [go_sem, *]); have bf13 := he1.frozen (p := ⟨w.heap.size, 1, none⟩) (by first | omega | (simp <;> omega)) (by first | simp [go_sem] | simp [go_sem, *])) | (go_at_call 103; (with_reducible refine (HW.out _).mono ?_); rintro e2 w2 ⟨rfl, rfl⟩) | (go_at_call 104; (with_reducible refine (HF.out _ ew1.out).mono ?_); rintro e3 w3 ⟨rfl, he3⟩; have ew3 : Hid (Ext w w3) := hide ((ew1.out.alloc _).trans he3)) | (go_at_call 105; (with_reducible refine (HO.out _ ew3.out).mono ?_); rintro e4 w4 ⟨X, y, z, rfl, ho, hy, he4⟩))
    go_ret2
    exact ⟨_, _, _, rfl, ObI.of (ho.lower ew3.out.size) (by omega), ew3.out.trans he4⟩
  · rw [ho] at HF; clear ho
    simp only [if_true, Bool.not_true, Bool.false_eq_true, if_false] at HF ⊢
    have htf : (t != 0) = true := by simp; omega
    go_enter Try.func50, Try.ntmps50
    go_wp2_with (first | (go_at_call 102; (with_reducible refine (HM.out _ (by (repeat (first | with_reducible exact Ext.refl _ | with_reducible assumption | ((with_reducible refine Ext.setCell ?_ ?_ _); rotate_left; focus (first | omega | (simp <;> omega))) | with_reducible refine Ext.alloc ?_ _ | with_reducible refine Ext.drewN ?_ _ | with_reducible refine Ext.drew ?_ | with_reducible refine Ext.trans ?_ (by with_reducible assumption))))).mono ?_); rintro e1 w1 ⟨rfl, he1⟩; have ew1 : Hid (Ext w w1) := hide (Ext.trans ((Ext.refl _).alloc _) he1); have bc14 := he1.cell (p := ⟨w.heap.size, 0, none⟩) (u := .int .i64 v) (by first | simp [go_sem] | simp [go_sem, *]); have bf14 := he1.frozen (p := ⟨w.heap.size, 0, none⟩) (by first | omega | (simp <;> omega)) (by first | simp [go_sem] | simp [go_sem, *]); have bc15 := he1.cell (p := ⟨w.heap.size, 1, none⟩) (u := .slice C nc dc) (by first | simp [go_sem] | simp [go_sem, *]); have bf15 := he1.frozen (p := ⟨w.heap.size, 1, none⟩) (by first | omega | (simp <;> omega)) (by first | simp [go_sem] | simp [go_sem, *])) | (go_at_call 103; (with_reducible refine (HW.out _).mono ?_); rintro e2 w2 ⟨rfl, rfl⟩) | (go_at_call 104; (with_reducible refine (HF.out _ ew1.out).mono ?_); rintro e3 w3 ⟨rfl, he3⟩; have ew3 : Hid (Ext w w3) := hide ((ew1.out.alloc _).trans he3)))
    go_ret2
    exact ⟨_, _, _, rfl, ObI.nil, ew3.out⟩
end Go.Proofs.Ytebklankehkmhaa
