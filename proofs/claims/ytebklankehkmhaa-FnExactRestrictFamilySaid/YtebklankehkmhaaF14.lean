/-
  ForgetVar: helpers of the program; no condition.
-/
import Derived.Test.YtebklankehkmhaaF12
import Derived.Test.YtebklankehkmhaaC42
namespace Go.Proofs.Ytebklankehkmhaa
set_option linter.unusedSimpArgs false
set_option linter.unusedVariables false
open Go.RowKit
theorem withoutVar_lit_c (x v : Int) (p : Nat) (w : World) (hx : -12 ≤ x ∧ x ≤ 12) (hc : w.cell? ⟨p, 0, none⟩ = some (.int .i64 v)) :
    Calls Try.prog 147 (#[.int .i64 x] ++ #[.pointer (some ⟨p, 0, none⟩)]) w fun e w' => e = .returned (.bool (decide ((x.natAbs : Int) = v))) ∧ Ext w w' := by
  have HV := hide (fun W => abs_c x W)
  rw [absW_small hx] at HV
  generalize (x.natAbs : Int) = ax at HV ⊢
  have hd : ∀ b : Bool, b = (ax == v) → b = decide (ax = v) := by rintro b rfl; rfl
  go_enter Try.func147, Try.ntmps147
  go_wp2_with fail
  go_quiet (first | (go_at_call 84; refine quiet_left (HV.out _)))
  go_wp2_with fail
  go_ret
  exact ⟨ret_bool (by first | rfl | exact hd _ rfl | simp), (Ext.refl _).drewN _⟩
theorem withoutVar_lit_enters : Enters Try.prog 147 := enters_of Try.func147 (by kernel_rfl) (by kernel_rfl)
set_option maxRecDepth 100000 in
set_option maxHeartbeats 800000 in
theorem withoutVar_o (A : Option Addr) (n d : Nat) (c : List Int) (v : Int) (w : World) (h : Ints w A n c) (hc : Small c) (hn : n ≤ 200) :
    Calls Try.prog 105 #[.slice A n d, .int .i64 v] w fun e w' => ∃ X y z, e = .returned (.slice X y z) ∧ Own w' w.heap.size 3 1 X y z ((woutV c v).map (Value.int .i64)) ∧ y ≤ n ∧ Ext w w' := by
  have hcell : (w.alloc (.cells #[.int .i64 v] 3)).cell? ⟨w.heap.size, 0, none⟩ = some (.int .i64 v) := (BoxAt.made w _ _).cell 0 _ rfl
  have hfil : c.filter (fun x => !decide ((x.natAbs : Int) = v)) = woutV c v := by unfold woutV; congr 1; funext x; simp
  have HF := hide hfil
  clear hfil
  go_enter Try.func105, Try.ntmps105
  go_wp2_with fail
  refine (Clone_int_c A n d c _ (h.ext ((Ext.refl w).alloc _)) (by omega)).mono ?_
  rintro e w1 ⟨X, z, rfl, ho, he⟩
  have hc1 := he.cell hcell
  have hD := DeleteFunc_int_c 147 #[.pointer (some ⟨w.heap.size, 0, none⟩)] (fun x => decide ((x.natAbs : Int) = v)) _ X n z c w1 ho (by omega) withoutVar_lit_enters
    (fun x W hx t => by
      have h1 : w.heap.size < (w.alloc (.cells #[.int .i64 v] 3)).heap.size := by simp
      exact withoutVar_lit_c x v w.heap.size W (hc x hx) (t.cell hc1 (.inl h1)))
  rw [HF.out] at hD
  have HD := hide hD
  clear hD hcell
  go_wp2_with fail
  refine HD.out.mono ?_
  rintro e w2 ⟨y, rfl, ho2, t2⟩
  have hl := ho2.len
  have hl2 : (woutV c v).length ≤ c.length := List.length_filter_le _ _
  have hl3 := h.len
  go_wp2_with fail
  go_ret
  refine ⟨X, y, z, rfl, ho2.lower (by simp), ?_, Ext.touched (show Ext w w1 by (repeat (first | with_reducible exact Ext.refl _ | with_reducible assumption | ((with_reducible refine Ext.setCell ?_ ?_ _); rotate_left; focus (first | omega | (simp <;> omega))) | with_reducible refine Ext.alloc ?_ _ | with_reducible refine Ext.drewN ?_ _ | with_reducible refine Ext.drew ?_ | with_reducible refine Ext.trans ?_ (by with_reducible assumption)))) t2 (by simp)⟩
  · simp at hl; omega
theorem indexOf_lit_c (p : Nat) (B : Option Addr) (m q : Nat) (c : List Int) (X : Option Addr) (y z : Nat) (a : List Int) (w : World) (k : Ints w B m c) (hi : Ints w X y a) (h0 : w.cell? ⟨p, 0, none⟩ = some (.slice B m q)) :
    Calls Try.prog 193 (#[.slice X y z] ++ #[.pointer (some ⟨p, 0, none⟩)]) w fun e w' => e = .returned (.bool (decide (c = a))) ∧ Ext w w' := by
  have HC := hide (Equal_c B m q c X y z a w k hi)
  generalize decide (c = a) = r at HC ⊢
  go_enter Try.func193, Try.ntmps193
  go_wp2_with (go_at_call 166; (with_reducible refine HC.out.mono ?_); rintro e1 w1 ⟨rfl, he1⟩)
  go_ret
  exact ⟨rfl, he1⟩
theorem indexOf_lit_enters : Enters Try.prog 193 := enters_of Try.func193 (by kernel_rfl) (by kernel_rfl)
theorem memC_any (l : List (List Int)) (c : List Int) : l.any (fun a => decide (c = a)) = memC l c := by
  unfold memC; congr 1; funext x; rw [decide_eq_decide]; exact eq_comm
set_option maxRecDepth 100000 in
theorem hasList_c (A : Option Addr) (n d : Nat) (l : List (List Int)) (B : Option Addr) (m q : Nat) (c : List Int) (w : World) (h : Intss w A n l) (k : Ints w B m c) :
    Calls Try.prog 144 #[.slice A n d, .slice B m q] w fun e w' => e = .returned (.bool (memC l c)) ∧ Ext w w' := by
  have HI : Hid (∀ Wd, Ext w Wd → Calls Try.prog 173 #[.slice A n d, .slice B m q] Wd fun e w' => e = .returned (.int .i64 (idxOf (fun a => decide (c = a)) l 0)) ∧ Ext Wd w') := by
    refine hide fun Wd E => ?_
    have h0 : (Wd.alloc (.cells #[.slice B m q] 22)).cell? ⟨Wd.heap.size, 0, none⟩ = some (.slice B m q) := (BoxAt.made Wd _ _).cell 0 _ rfl
    have HC := hide (IndexFunc_rows_mem 193 #[.pointer (some ⟨Wd.heap.size, 0, none⟩)] (fun a => decide (c = a)) A n d l (Wd.alloc (.cells #[.slice B m q] 22)) (h.ext (E.alloc _)) indexOf_lit_enters
      (fun xs X y z wr hx hin hew => indexOf_lit_c Wd.heap.size B m q c X y z xs wr ((k.ext (E.alloc _)).ext hew) hin (hew.cell h0)))
    generalize idxOf (fun a => decide (c = a)) l 0 = t at HC ⊢
    go_enter Try.func173, Try.ntmps173
    go_wp2_with (go_at_call 141; (with_reducible refine HC.out.mono ?_); rintro e1 w1 ⟨rfl, he1⟩)
    go_ret
    exact ⟨rfl, by (repeat (first | with_reducible exact Ext.refl _ | with_reducible assumption | ((with_reducible refine Ext.setCell ?_ ?_ _); rotate_left; focus (first | omega | (simp <;> omega))) | with_reducible refine Ext.alloc ?_ _ | with_reducible refine Ext.drewN ?_ _ | with_reducible refine Ext.drew ?_ | with_reducible refine Ext.trans ?_ (by with_reducible assumption)))⟩
  have hneg := idxOf_neg (p := fun a => decide (c = a)) l 0
  rw [memC_any] at hneg
  have HNg := hide hneg
  clear hneg
  generalize idxOf (fun a => decide (c = a)) l 0 = t at *
  cases hm : memC l c
  · have ht : t < 0 := HNg.out.2 hm
    clear HNg hm
    go_enter Try.func144, Try.ntmps144
    go_wp2_with (go_at_call 173; (with_reducible refine (HI.out _ (Ext.refl _)).mono ?_); rintro e1 w1 ⟨rfl, he1⟩)
    go_ret
    exact ⟨ret_bool (by simp; omega), he1⟩
  · have ht : ¬ t < 0 := fun hc => by have := HNg.out.1 hc; rw [hm] at this; cases this
    clear HNg hm
    go_enter Try.func144, Try.ntmps144
    go_wp2_with (go_at_call 173; (with_reducible refine (HI.out _ (Ext.refl _)).mono ?_); rintro e1 w1 ⟨rfl, he1⟩)
    go_ret
    exact ⟨ret_bool (by first | (simp; done) | (simp; omega)), he1⟩
def memOk (v W : Int) (cls : List (List Int)) (l : List (List Int)) (a : List Int) : Bool := famR v W cls l && memC l a
theorem famR_clause {v W : Int} {cls : List (List Int)} {l : List (List Int)} (h : famR v W cls l = true) : ∀ b ∈ l, clauseOk v b = true := by
  obtain ⟨h1, h2⟩ := and2_true h
  obtain ⟨u, rfl, hu⟩ := nar_nat h1
  rw [show ((u : Nat) : Int).toNat = u by omega] at h2
  exact (famA_facts (and2_true h2).1).1
theorem memOk_clause {v W : Int} {cls : List (List Int)} {l : List (List Int)} {a : List Int} (h : memOk v W cls l a = true) : clauseOk v a = true := by
  obtain ⟨h1, h2⟩ := and2_true h
  exact famR_clause h1 a (memC_iff.1 h2)
set_option maxRecDepth 100000 in
set_option maxHeartbeats 1600000 in
theorem memberOf_c (v W : Int) (C : Option Addr) (nc dc : Nat) (cls : List (List Int)) (A : Option Addr) (n d : Nat) (l : List (List Int)) (B : Option Addr) (m q : Nat) (a : List Int) (w : World) (hcl : Intss w C nc cls) (h : Intss w A n l) (k : Ints w B m a) :
    Calls Try.prog 102 #[.agg #[.int .i64 v, .slice C nc dc], .int .i64 W, .slice A n d, .slice B m q] w fun e w' => e = .returned (.bool (memOk v W cls l a)) ∧ Ext w w' := by
  have HN := hide (fun Wd (E : Ext w Wd) => narrowOk_c v W C nc dc cls Wd (hcl.ext E))
  have HM := hide (fun Wd (E : Ext w Wd) => hasList_c A n d l B m q a Wd (h.ext E) (k.ext E))
  unfold memOk famR
  generalize memC l a = p at HM ⊢
  cases hn : narOk v cls W
  · rw [hn] at HN; clear hn
    go_enter Try.func102, Try.ntmps102
    go_wp2_with (go_at_call 88; (with_reducible refine (HN.out _ (by (repeat (first | with_reducible exact Ext.refl _ | with_reducible assumption | ((with_reducible refine Ext.setCell ?_ ?_ _); rotate_left; focus (first | omega | (simp <;> omega))) | with_reducible refine Ext.alloc ?_ _ | with_reducible refine Ext.drewN ?_ _ | with_reducible refine Ext.drew ?_ | with_reducible refine Ext.trans ?_ (by with_reducible assumption))))).mono ?_); rintro e1 w1 ⟨rfl, he1⟩)
    go_ret
    exact ⟨rfl, by (repeat (first | with_reducible exact Ext.refl _ | with_reducible assumption | ((with_reducible refine Ext.setCell ?_ ?_ _); rotate_left; focus (first | omega | (simp <;> omega))) | with_reducible refine Ext.alloc ?_ _ | with_reducible refine Ext.drewN ?_ _ | with_reducible refine Ext.drew ?_ | with_reducible refine Ext.trans ?_ (by with_reducible assumption)))⟩
  rw [hn] at HN
  obtain ⟨u, rfl, hu⟩ := nar_nat hn
  obtain ⟨-, -, hW, hc⟩ := nar_facts hn
  rw [show ((u : Nat) : Int).toNat = u by omega]
  have HI := hide (fun Wd (E : Ext w Wd) => isFamily_c u W C nc dc cls A n d l Wd (h.ext E) (hcl.ext E) hc hW hu)
  clear hn hc
  cases hf : famB u cls W l
  · rw [hf] at HI; clear hf
    go_enter Try.func102, Try.ntmps102
    go_wp2_with (first | (go_at_call 88; (with_reducible refine (HN.out _ (by (repeat (first | with_reducible exact Ext.refl _ | with_reducible assumption | ((with_reducible refine Ext.setCell ?_ ?_ _); rotate_left; focus (first | omega | (simp <;> omega))) | with_reducible refine Ext.alloc ?_ _ | with_reducible refine Ext.drewN ?_ _ | with_reducible refine Ext.drew ?_ | with_reducible refine Ext.trans ?_ (by with_reducible assumption))))).mono ?_); rintro e1 w1 ⟨rfl, he1⟩; have bc0 := he1.cell (p := ⟨w.heap.size, 0, none⟩) (u := .int .i64 u) (by first | simp [go_sem] | simp [go_sem, *]); have bf0 := he1.frozen (p := ⟨w.heap.size, 0, none⟩) (by first | omega | (simp <;> omega)) (by first | simp [go_sem] | simp [go_sem, *]); have bc1 := he1.cell (p := ⟨w.heap.size, 1, none⟩) (u := .slice C nc dc) (by first | simp [go_sem] | simp [go_sem, *]); have bf1 := he1.frozen (p := ⟨w.heap.size, 1, none⟩) (by first | omega | (simp <;> omega)) (by first | simp [go_sem] | simp [go_sem, *])) | (go_at_call 92; (with_reducible refine (HI.out _ (by (repeat (first | with_reducible exact Ext.refl _ | with_reducible assumption | ((with_reducible refine Ext.setCell ?_ ?_ _); rotate_left; focus (first | omega | (simp <;> omega))) | with_reducible refine Ext.alloc ?_ _ | with_reducible refine Ext.drewN ?_ _ | with_reducible refine Ext.drew ?_ | with_reducible refine Ext.trans ?_ (by with_reducible assumption))))).mono ?_); rintro e2 w2 ⟨rfl, he2⟩))
    go_ret
    exact ⟨rfl, by (repeat (first | with_reducible exact Ext.refl _ | with_reducible assumption | ((with_reducible refine Ext.setCell ?_ ?_ _); rotate_left; focus (first | omega | (simp <;> omega))) | with_reducible refine Ext.alloc ?_ _ | with_reducible refine Ext.drewN ?_ _ | with_reducible refine Ext.drew ?_ | with_reducible refine Ext.trans ?_ (by with_reducible assumption)))⟩
  · rw [hf] at HI; clear hf
    go_enter Try.func102, Try.ntmps102
    go_wp2_with (first | (go_at_call 88; (with_reducible refine (HN.out _ (by (repeat (first | with_reducible exact Ext.refl _ | with_reducible assumption | ((with_reducible refine Ext.setCell ?_ ?_ _); rotate_left; focus (first | omega | (simp <;> omega))) | with_reducible refine Ext.alloc ?_ _ | with_reducible refine Ext.drewN ?_ _ | with_reducible refine Ext.drew ?_ | with_reducible refine Ext.trans ?_ (by with_reducible assumption))))).mono ?_); rintro e1 w1 ⟨rfl, he1⟩; have bc2 := he1.cell (p := ⟨w.heap.size, 0, none⟩) (u := .int .i64 u) (by first | simp [go_sem] | simp [go_sem, *]); have bf2 := he1.frozen (p := ⟨w.heap.size, 0, none⟩) (by first | omega | (simp <;> omega)) (by first | simp [go_sem] | simp [go_sem, *]); have bc3 := he1.cell (p := ⟨w.heap.size, 1, none⟩) (u := .slice C nc dc) (by first | simp [go_sem] | simp [go_sem, *]); have bf3 := he1.frozen (p := ⟨w.heap.size, 1, none⟩) (by first | omega | (simp <;> omega)) (by first | simp [go_sem] | simp [go_sem, *])) | (go_at_call 92; (with_reducible refine (HI.out _ (by (repeat (first | with_reducible exact Ext.refl _ | with_reducible assumption | ((with_reducible refine Ext.setCell ?_ ?_ _); rotate_left; focus (first | omega | (simp <;> omega))) | with_reducible refine Ext.alloc ?_ _ | with_reducible refine Ext.drewN ?_ _ | with_reducible refine Ext.drew ?_ | with_reducible refine Ext.trans ?_ (by with_reducible assumption))))).mono ?_); rintro e2 w2 ⟨rfl, he2⟩) | (go_at_call 144; (with_reducible refine (HM.out _ (by (repeat (first | with_reducible exact Ext.refl _ | with_reducible assumption | ((with_reducible refine Ext.setCell ?_ ?_ _); rotate_left; focus (first | omega | (simp <;> omega))) | with_reducible refine Ext.alloc ?_ _ | with_reducible refine Ext.drewN ?_ _ | with_reducible refine Ext.drew ?_ | with_reducible refine Ext.trans ?_ (by with_reducible assumption))))).mono ?_); rintro e3 w3 ⟨rfl, he3⟩))
    go_ret
    exact ⟨rfl, by (repeat (first | with_reducible exact Ext.refl _ | with_reducible assumption | ((with_reducible refine Ext.setCell ?_ ?_ _); rotate_left; focus (first | omega | (simp <;> omega))) | with_reducible refine Ext.alloc ?_ _ | with_reducible refine Ext.drewN ?_ _ | with_reducible refine Ext.drew ?_ | with_reducible refine Ext.trans ?_ (by with_reducible assumption)))⟩
end Go.Proofs.Ytebklankehkmhaa
