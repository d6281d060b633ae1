/-
  MeetsFamily on both sides; no condition.
-/
import Derived.Test.YtebklankehkmhaaF12
namespace Go.Proofs.Ytebklankehkmhaa
set_option linter.unusedSimpArgs false
set_option linter.unusedVariables false
open Go.RowKit
def negC (c a : List Int) : Bool := decide (clVal c a < 0)
def meetOk (v W : Int) (cls : List (List Int)) (l : List (List Int)) (c : List Int) : Bool := famR v W cls l && clauseOk v c
def meetR (v W : Int) (cls : List (List Int)) (l : List (List Int)) (c : List Int) : Bool := meetOk v W cls l c && !l.any (negC c)
theorem famR_len {v W : Int} {cls : List (List Int)} {l : List (List Int)} (h : famR v W cls l = true) : l.length ≤ 729 := by
  obtain ⟨h1, h2⟩ := and2_true h
  obtain ⟨u, rfl, hu⟩ := nar_nat h1
  rw [show ((u : Nat) : Int).toNat = u by omega] at h2
  exact fam_len (and2_true h2).1 hu
theorem clause_lits {v : Int} {c : List Int} (h : clauseOk v c = true) : ∀ x ∈ c, -12 ≤ x ∧ x ≤ 12 ∧ x ≠ 0 := by
  obtain ⟨h1, h2, _⟩ := clause_facts h
  intro x hx
  have := h2 x hx
  omega
set_option maxRecDepth 100000 in
set_option maxHeartbeats 3200000 in
theorem spec_MeetsFamily_c (v W : Int) (C : Option Addr) (nc dc : Nat) (cls : List (List Int)) (A : Option Addr) (n d : Nat) (l : List (List Int)) (B : Option Addr) (m q : Nat) (c : List Int) (w : World) (hcl : Intss w C nc cls) (h : IntssC w A n l) (k : Ints w B m c) :
    Calls Try.prog 47 #[.agg #[.int .i64 v, .slice C nc dc], .int .i64 W, .slice A n d, .slice B m q] w fun e w' => e = .returned (.tuple #[.bool (meetR v W cls l c), .bool (meetOk v W cls l c)]) ∧ Ext w w' := by
  have HN := hide (fun Wd (E : Ext w Wd) => l13Asked_c v W C nc dc cls Wd (hcl.ext E))
  have HL := hide h.rd.len
  have hb := h.rd.bound
  have HG := hide (fun Wd (E : Ext w Wd) => l2Clause_c v B m q c Wd (k.ext E))
  cases hn : narOk v cls W
  · have hz : meetOk v W cls l c = false := by unfold meetOk famR; rw [hn]; rfl
    unfold meetR
    rw [hz, Bool.false_and]
    rw [hn] at HN; clear hn hz
    go_enter Try.func47, Try.ntmps47
    go_wp2_with (go_at_call 85; (with_reducible refine (HN.out _ (by (repeat (first | with_reducible exact Ext.refl _ | with_reducible assumption | ((with_reducible refine Ext.setCell ?_ ?_ _); rotate_left; focus (first | omega | (simp <;> omega))) | with_reducible refine Ext.alloc ?_ _ | with_reducible refine Ext.drewN ?_ _ | with_reducible refine Ext.drew ?_ | with_reducible refine Ext.trans ?_ (by with_reducible assumption))))).mono ?_); rintro e1 w1 ⟨rfl, he1⟩)
    go_ret2
    exact ⟨rfl, by (repeat (first | with_reducible exact Ext.refl _ | with_reducible assumption | ((with_reducible refine Ext.setCell ?_ ?_ _); rotate_left; focus (first | omega | (simp <;> omega))) | with_reducible refine Ext.alloc ?_ _ | with_reducible refine Ext.drewN ?_ _ | with_reducible refine Ext.drew ?_ | with_reducible refine Ext.trans ?_ (by with_reducible assumption)))⟩
  rw [hn] at HN
  obtain ⟨u, rfl, hu⟩ := nar_nat hn
  obtain ⟨-, -, hW, hc⟩ := nar_facts hn
  have hfr : famR u W cls l = famB u cls W l := by unfold famR; rw [hn, show ((u : Nat) : Int).toNat = u by omega]; rfl
  by_cases h7 : n ≤ 729
  rotate_left
  · have hz : meetOk u W cls l c = false := by unfold meetOk; rw [hfr, famB_big hu (by have := HL.out; omega)]; rfl
    unfold meetR
    rw [hz, Bool.false_and]
    have h7d : decide ((729 : Int) < (n : Int)) = true := decide_eq_true (by omega)
    clear hn hc hz hfr
    go_enter Try.func47, Try.ntmps47
    go_wp2_with (go_at_call 85; (with_reducible refine (HN.out _ (by (repeat (first | with_reducible exact Ext.refl _ | with_reducible assumption | ((with_reducible refine Ext.setCell ?_ ?_ _); rotate_left; focus (first | omega | (simp <;> omega))) | with_reducible refine Ext.alloc ?_ _ | with_reducible refine Ext.drewN ?_ _ | with_reducible refine Ext.drew ?_ | with_reducible refine Ext.trans ?_ (by with_reducible assumption))))).mono ?_); rintro e1 w1 ⟨rfl, he1⟩; have bc0 := he1.cell (p := ⟨w.heap.size, 0, none⟩) (u := .int .i64 u) (by first | simp [go_sem] | simp [go_sem, *]); have bf0 := he1.frozen (p := ⟨w.heap.size, 0, none⟩) (by first | omega | (simp <;> omega)) (by first | simp [go_sem] | simp [go_sem, *]); have bc1 := he1.cell (p := ⟨w.heap.size, 1, none⟩) (u := .slice C nc dc) (by first | simp [go_sem] | simp [go_sem, *]); have bf1 := he1.frozen (p := ⟨w.heap.size, 1, none⟩) (by first | omega | (simp <;> omega)) (by first | simp [go_sem] | simp [go_sem, *]))
    go_ret2
    exact ⟨rfl, by (repeat (first | with_reducible exact Ext.refl _ | with_reducible assumption | ((with_reducible refine Ext.setCell ?_ ?_ _); rotate_left; focus (first | omega | (simp <;> omega))) | with_reducible refine Ext.alloc ?_ _ | with_reducible refine Ext.drewN ?_ _ | with_reducible refine Ext.drew ?_ | with_reducible refine Ext.trans ?_ (by with_reducible assumption)))⟩
  have h7d : ¬ (729 : Int) < (n : Int) := by omega
  have HI := hide (fun Wd (E : Ext w Wd) => l13Is_c u W C nc dc cls A n d l Wd (h.ext E) (hcl.ext E) (by omega) hc hW hu)
  cases hf : famB u cls W l
  · have hz : meetOk u W cls l c = false := by unfold meetOk; rw [hfr, hf]; rfl
    unfold meetR
    rw [hz, Bool.false_and]
    rw [hf] at HI
    clear hn hc hz hfr hf
    go_enter Try.func47, Try.ntmps47
    go_wp2_with (first | (go_at_call 85; (with_reducible refine (HN.out _ (by (repeat (first | with_reducible exact Ext.refl _ | with_reducible assumption | ((with_reducible refine Ext.setCell ?_ ?_ _); rotate_left; focus (first | omega | (simp <;> omega))) | with_reducible refine Ext.alloc ?_ _ | with_reducible refine Ext.drewN ?_ _ | with_reducible refine Ext.drew ?_ | with_reducible refine Ext.trans ?_ (by with_reducible assumption))))).mono ?_); rintro e1 w1 ⟨rfl, he1⟩; have bc2 := he1.cell (p := ⟨w.heap.size, 0, none⟩) (u := .int .i64 u) (by first | simp [go_sem] | simp [go_sem, *]); have bf2 := he1.frozen (p := ⟨w.heap.size, 0, none⟩) (by first | omega | (simp <;> omega)) (by first | simp [go_sem] | simp [go_sem, *]); have bc3 := he1.cell (p := ⟨w.heap.size, 1, none⟩) (u := .slice C nc dc) (by first | simp [go_sem] | simp [go_sem, *]); have bf3 := he1.frozen (p := ⟨w.heap.size, 1, none⟩) (by first | omega | (simp <;> omega)) (by first | simp [go_sem] | simp [go_sem, *])) | (go_at_call 91; (with_reducible refine (HI.out _ (by (repeat (first | with_reducible exact Ext.refl _ | with_reducible assumption | ((with_reducible refine Ext.setCell ?_ ?_ _); rotate_left; focus (first | omega | (simp <;> omega))) | with_reducible refine Ext.alloc ?_ _ | with_reducible refine Ext.drewN ?_ _ | with_reducible refine Ext.drew ?_ | with_reducible refine Ext.trans ?_ (by with_reducible assumption))))).mono ?_); rintro e2 w2 ⟨rfl, he2⟩))
    go_ret2
    exact ⟨rfl, by (repeat (first | with_reducible exact Ext.refl _ | with_reducible assumption | ((with_reducible refine Ext.setCell ?_ ?_ _); rotate_left; focus (first | omega | (simp <;> omega))) | with_reducible refine Ext.alloc ?_ _ | with_reducible refine Ext.drewN ?_ _ | with_reducible refine Ext.drew ?_ | with_reducible refine Ext.trans ?_ (by with_reducible assumption)))⟩
  rw [hf] at HI
  cases hco : clauseOk u c
  · have hz : meetOk u W cls l c = false := by unfold meetOk; rw [hco, Bool.and_false]
    unfold meetR
    rw [hz, Bool.false_and]
    rw [hco] at HG
    clear hn hc hz hfr hf hco
    go_enter Try.func47, Try.ntmps47
    go_wp2_with (first | (go_at_call 85; (with_reducible refine (HN.out _ (by (repeat (first | with_reducible exact Ext.refl _ | with_reducible assumption | ((with_reducible refine Ext.setCell ?_ ?_ _); rotate_left; focus (first | omega | (simp <;> omega))) | with_reducible refine Ext.alloc ?_ _ | with_reducible refine Ext.drewN ?_ _ | with_reducible refine Ext.drew ?_ | with_reducible refine Ext.trans ?_ (by with_reducible assumption))))).mono ?_); rintro e1 w1 ⟨rfl, he1⟩; have bc4 := he1.cell (p := ⟨w.heap.size, 0, none⟩) (u := .int .i64 u) (by first | simp [go_sem] | simp [go_sem, *]); have bf4 := he1.frozen (p := ⟨w.heap.size, 0, none⟩) (by first | omega | (simp <;> omega)) (by first | simp [go_sem] | simp [go_sem, *]); have bc5 := he1.cell (p := ⟨w.heap.size, 1, none⟩) (u := .slice C nc dc) (by first | simp [go_sem] | simp [go_sem, *]); have bf5 := he1.frozen (p := ⟨w.heap.size, 1, none⟩) (by first | omega | (simp <;> omega)) (by first | simp [go_sem] | simp [go_sem, *])) | (go_at_call 91; (with_reducible refine (HI.out _ (by (repeat (first | with_reducible exact Ext.refl _ | with_reducible assumption | ((with_reducible refine Ext.setCell ?_ ?_ _); rotate_left; focus (first | omega | (simp <;> omega))) | with_reducible refine Ext.alloc ?_ _ | with_reducible refine Ext.drewN ?_ _ | with_reducible refine Ext.drew ?_ | with_reducible refine Ext.trans ?_ (by with_reducible assumption))))).mono ?_); rintro e2 w2 ⟨rfl, he2⟩; have y0 := he2.cell bc4; have y1 := he2.cell bc5) | (go_at_call 93; (with_reducible refine (HG.out _ (by (repeat (first | with_reducible exact Ext.refl _ | with_reducible assumption | ((with_reducible refine Ext.setCell ?_ ?_ _); rotate_left; focus (first | omega | (simp <;> omega))) | with_reducible refine Ext.alloc ?_ _ | with_reducible refine Ext.drewN ?_ _ | with_reducible refine Ext.drew ?_ | with_reducible refine Ext.trans ?_ (by with_reducible assumption))))).mono ?_); rintro e3 w3 ⟨rfl, he3⟩))
    go_ret2
    exact ⟨rfl, by (repeat (first | with_reducible exact Ext.refl _ | with_reducible assumption | ((with_reducible refine Ext.setCell ?_ ?_ _); rotate_left; focus (first | omega | (simp <;> omega))) | with_reducible refine Ext.alloc ?_ _ | with_reducible refine Ext.drewN ?_ _ | with_reducible refine Ext.drew ?_ | with_reducible refine Ext.trans ?_ (by with_reducible assumption)))⟩
  have hz : meetOk u W cls l c = true := by unfold meetOk; rw [hfr, hf, hco]; rfl
  unfold meetR
  rw [hz, Bool.true_and]
  rw [hco] at HG
  have hV := fun (Wd : World) (E : Ext w Wd) (X : Option Addr) (y z : Nat) (a : List Int) (hi : Ints Wd X y a) => l3Value_c B m q c X y z a Wd (k.ext E) hi (clause_lits hco)
  have HV := hide hV
  obtain ⟨r, hr⟩ : ∃ r, r = !l.any (negC c) := ⟨_, rfl⟩
  rw [← hr]
  have HR := hide hr
  clear hn hc hz hfr hf hco hV hr
  go_enter Try.func47, Try.ntmps47
  go_wp2_with fail
  refine (HN.out _ (by (repeat (first | with_reducible exact Ext.refl _ | with_reducible assumption | ((with_reducible refine Ext.setCell ?_ ?_ _); rotate_left; focus (first | omega | (simp <;> omega))) | with_reducible refine Ext.alloc ?_ _ | with_reducible refine Ext.drewN ?_ _ | with_reducible refine Ext.drew ?_ | with_reducible refine Ext.trans ?_ (by with_reducible assumption))))).mono ?_
  rintro e1 w1 ⟨rfl, he1⟩
  have ew1 : Hid (Ext w w1) := hide (Ext.trans ((Ext.refl _).alloc _) he1)
  have bc6 := he1.cell (p := ⟨w.heap.size, 0, none⟩) (u := .int .i64 u) (by first | simp [go_sem] | simp [go_sem, *]); have bf6 := he1.frozen (p := ⟨w.heap.size, 0, none⟩) (by first | omega | (simp <;> omega)) (by first | simp [go_sem] | simp [go_sem, *]); have bc7 := he1.cell (p := ⟨w.heap.size, 1, none⟩) (u := .slice C nc dc) (by first | simp [go_sem] | simp [go_sem, *]); have bf7 := he1.frozen (p := ⟨w.heap.size, 1, none⟩) (by first | omega | (simp <;> omega)) (by first | simp [go_sem] | simp [go_sem, *])
  go_wp2_with fail
  refine (HI.out _ ew1.out).mono ?_
  rintro e2 w2 ⟨rfl, he2⟩
  have ew2 : Hid (Ext w w2) := hide (ew1.out.trans he2)
  have y0 := he2.cell bc6
  go_wp2_with fail
  refine (HG.out _ ew2.out).mono ?_
  rintro e3 w3 ⟨rfl, he3⟩
  have ew3 : Hid (Ext w w3) := hide (ew2.out.trans he3)
  go_wp2_with fail
  refine wp_loopF 47 _ rfl rfl [2, 3] rfl (fun fr wr => Ext w3 wr ∧ ∃ i : Nat, i ≤ n ∧ (fr 10) = .int .i64 i ∧ Hid ((l.take i).any (negC c) = false)) (fun fr wr => n - (intOf (fr 10)).toNat) ?_ ?_
  · (exact ⟨Ext.refl _, 0, by omega, rfl, rfl⟩)
  intro ks fr wr hkept hrel; (try dsimp only at hrel)
  change Code.wp _ _ _ ⟨#[fr 0, fr 1, ks 2, ks 3, fr 4, fr 5, fr 6, fr 7, fr 8, fr 9, fr 10, fr 11, fr 12, fr 13, fr 14, fr 15, fr 16, fr 17, fr 18, fr 19, fr 20, fr 21, fr 22, fr 23, fr 24, fr 25, fr 26, fr 27, fr 28, fr 29, fr 30, fr 31, fr 32, fr 33, fr 34, fr 35, fr 36, fr 37, fr 38, fr 39, fr 40, fr 41, fr 42, fr 43, fr 44, fr 45, fr 46], []⟩ wr
  simp only [KeptV, List.getD_cons_zero, List.getD_cons_succ] at hkept; obtain ⟨hk2, hk3, -⟩ := hkept
  generalize ks 2 = k2 at hk2 ⊢; subst hk2
  generalize ks 3 = k3 at hk3 ⊢; subst hk3
  generalize fr 10 = s10 at hrel ⊢
  obtain ⟨he, i, hi, hs1, hq⟩ := hrel
  subst hs1
  have ewr : Hid (Ext w wr) := hide (ew3.out.trans he)
  by_cases hlt : i < n
  · obtain ⟨ad, xs, X, y, z, rfl, hx, gx, hin⟩ := (h.rd.ext ewr.out).at_ hlt
    have HVx := hide (HV.out wr ewr.out X y z xs hin)
    by_cases hneg : clVal c xs < 0
    · have hq2 : Hid (r = false) := hide (by rw [HR.out, any_true_of (p := negC c) hx (by simpa [negC] using hneg)]; rfl)
      generalize clVal c xs = t at *
      go_wp2_with fail
      refine HVx.out.mono ?_
      rintro e w4 ⟨rfl, he4⟩
      go_wp2_with fail
      go_ret2
      exact ⟨by rw [hq2.out]; rfl, ewr.out.trans he4⟩
    · have hq2 := any_false_take (p := negC c) hx hq (by simpa [negC] using hneg)
      generalize clVal c xs = t at *
      go_wp2_with fail
      refine HVx.out.mono ?_
      rintro e w4 ⟨rfl, he4⟩
      go_wp2_with fail
      exact ⟨⟨(by (repeat (first | exact trivial | refine ⟨rfl, ?_⟩))), he.trans he4, i + 1, by omega, by go_num, hq2⟩, (by simp [intOf] <;> omega)⟩
  · have hq2 : Hid (r = true) := hide (by rw [HR.out]; have := hq.out; rw [List.take_of_length_le (by rw [← HL.out]; omega)] at this; rw [this]; rfl)
    go_wp2_with fail
    go_ret2
    exact ⟨by rw [hq2.out]; rfl, ewr.out⟩
theorem meets_lit_c (pc : Nat) (B : Option Addr) (m q : Nat) (c : List Int) (X : Option Addr) (y z : Nat) (a : List Int) (w : World) (k : Ints w B m c) (hi : Ints w X y a) (hc : ∀ x ∈ c, -12 ≤ x ∧ x ≤ 12 ∧ x ≠ 0) (h0 : w.cell? ⟨pc, 0, none⟩ = some (.slice B m q)) :
    Calls Try.prog 97 (#[.slice X y z] ++ #[.pointer (some ⟨pc, 0, none⟩)]) w fun e w' => e = .returned (.bool (negC c a)) ∧ Ext w w' := by
  have HC := hide (clauseValue_c B m q c X y z a w k hi hc)
  unfold negC
  generalize clVal c a = t at HC ⊢
  clear hc
  go_enter Try.func97, Try.ntmps97
  go_wp2_with (go_at_call 98; (with_reducible refine HC.out.mono ?_); rintro e1 w1 ⟨rfl, he1⟩)
  go_ret
  exact ⟨rfl, he1⟩
theorem meets_lit_enters : Enters Try.prog 97 := enters_of Try.func97 (by kernel_rfl) (by kernel_rfl)
set_option maxRecDepth 100000 in
set_option maxHeartbeats 3200000 in
theorem impl_MeetsFamily_c (v W : Int) (C : Option Addr) (nc dc : Nat) (cls : List (List Int)) (A : Option Addr) (n d : Nat) (l : List (List Int)) (B : Option Addr) (m q : Nat) (c : List Int) (w : World) (hcl : Intss w C nc cls) (h : IntssC w A n l) (k : Ints w B m c) :
    Calls Try.prog 48 #[.agg #[.int .i64 v, .slice C nc dc], .int .i64 W, .slice A n d, .slice B m q] w fun e w' => e = .returned (.tuple #[.bool (meetR v W cls l c), .bool (meetOk v W cls l c)]) ∧ Ext w w' := by
  have HN := hide (fun Wd (E : Ext w Wd) => narrowOk_c v W C nc dc cls Wd (hcl.ext E))
  have HG := hide (fun Wd (E : Ext w Wd) => IsClause_c v B m q c Wd (k.ext E))
  cases hn : narOk v cls W
  · have hz : meetOk v W cls l c = false := by unfold meetOk famR; rw [hn]; rfl
    unfold meetR
    rw [hz, Bool.false_and]
    rw [hn] at HN; clear hn hz
    go_enter Try.func48, Try.ntmps48
    go_wp2_with (go_at_call 88; (with_reducible refine (HN.out _ (by (repeat (first | with_reducible exact Ext.refl _ | with_reducible assumption | ((with_reducible refine Ext.setCell ?_ ?_ _); rotate_left; focus (first | omega | (simp <;> omega))) | with_reducible refine Ext.alloc ?_ _ | with_reducible refine Ext.drewN ?_ _ | with_reducible refine Ext.drew ?_ | with_reducible refine Ext.trans ?_ (by with_reducible assumption))))).mono ?_); rintro e1 w1 ⟨rfl, he1⟩)
    go_ret2
    exact ⟨rfl, by (repeat (first | with_reducible exact Ext.refl _ | with_reducible assumption | ((with_reducible refine Ext.setCell ?_ ?_ _); rotate_left; focus (first | omega | (simp <;> omega))) | with_reducible refine Ext.alloc ?_ _ | with_reducible refine Ext.drewN ?_ _ | with_reducible refine Ext.drew ?_ | with_reducible refine Ext.trans ?_ (by with_reducible assumption)))⟩
  rw [hn] at HN
  obtain ⟨u, rfl, hu⟩ := nar_nat hn
  obtain ⟨-, -, hW, hc⟩ := nar_facts hn
  have hfr : famR u W cls l = famB u cls W l := by unfold famR; rw [hn, show ((u : Nat) : Int).toNat = u by omega]; rfl
  have HI := hide (fun Wd (E : Ext w Wd) => isFamily_c u W C nc dc cls A n d l Wd (h.rd.ext E) (hcl.ext E) hc hW hu)
  cases hf : famB u cls W l
  · have hz : meetOk u W cls l c = false := by unfold meetOk; rw [hfr, hf]; rfl
    unfold meetR
    rw [hz, Bool.false_and]
    rw [hf] at HI
    clear hn hc hz hfr hf
    go_enter Try.func48, Try.ntmps48
    go_wp2_with (first | (go_at_call 88; (with_reducible refine (HN.out _ (by (repeat (first | with_reducible exact Ext.refl _ | with_reducible assumption | ((with_reducible refine Ext.setCell ?_ ?_ _); rotate_left; focus (first | omega | (simp <;> omega))) | with_reducible refine Ext.alloc ?_ _ | with_reducible refine Ext.drewN ?_ _ | with_reducible refine Ext.drew ?_ | with_reducible refine Ext.trans ?_ (by with_reducible assumption))))).mono ?_); rintro e1 w1 ⟨rfl, he1⟩; have bc8 := he1.cell (p := ⟨w.heap.size, 0, none⟩) (u := .int .i64 u) (by first | simp [go_sem] | simp [go_sem, *]); have bf8 := he1.frozen (p := ⟨w.heap.size, 0, none⟩) (by first | omega | (simp <;> omega)) (by first | simp [go_sem] | simp [go_sem, *]); have bc9 := he1.cell (p := ⟨w.heap.size, 1, none⟩) (u := .slice C nc dc) (by first | simp [go_sem] | simp [go_sem, *]); have bf9 := he1.frozen (p := ⟨w.heap.size, 1, none⟩) (by first | omega | (simp <;> omega)) (by first | simp [go_sem] | simp [go_sem, *])) | (go_at_call 92; (with_reducible refine (HI.out _ (by (repeat (first | with_reducible exact Ext.refl _ | with_reducible assumption | ((with_reducible refine Ext.setCell ?_ ?_ _); rotate_left; focus (first | omega | (simp <;> omega))) | with_reducible refine Ext.alloc ?_ _ | with_reducible refine Ext.drewN ?_ _ | with_reducible refine Ext.drew ?_ | with_reducible refine Ext.trans ?_ (by with_reducible assumption))))).mono ?_); rintro e2 w2 ⟨rfl, he2⟩))
    go_ret2
    exact ⟨rfl, by (repeat (first | with_reducible exact Ext.refl _ | with_reducible assumption | ((with_reducible refine Ext.setCell ?_ ?_ _); rotate_left; focus (first | omega | (simp <;> omega))) | with_reducible refine Ext.alloc ?_ _ | with_reducible refine Ext.drewN ?_ _ | with_reducible refine Ext.drew ?_ | with_reducible refine Ext.trans ?_ (by with_reducible assumption)))⟩
  rw [hf] at HI
  cases hco : clauseOk u c
  · have hz : meetOk u W cls l c = false := by unfold meetOk; rw [hco, Bool.and_false]
    unfold meetR
    rw [hz, Bool.false_and]
    rw [hco] at HG
    clear hn hc hz hfr hf hco
    go_enter Try.func48, Try.ntmps48
    go_wp2_with (first | (go_at_call 88; (with_reducible refine (HN.out _ (by (repeat (first | with_reducible exact Ext.refl _ | with_reducible assumption | ((with_reducible refine Ext.setCell ?_ ?_ _); rotate_left; focus (first | omega | (simp <;> omega))) | with_reducible refine Ext.alloc ?_ _ | with_reducible refine Ext.drewN ?_ _ | with_reducible refine Ext.drew ?_ | with_reducible refine Ext.trans ?_ (by with_reducible assumption))))).mono ?_); rintro e1 w1 ⟨rfl, he1⟩; have bc10 := he1.cell (p := ⟨w.heap.size, 0, none⟩) (u := .int .i64 u) (by first | simp [go_sem] | simp [go_sem, *]); have bf10 := he1.frozen (p := ⟨w.heap.size, 0, none⟩) (by first | omega | (simp <;> omega)) (by first | simp [go_sem] | simp [go_sem, *]); have bc11 := he1.cell (p := ⟨w.heap.size, 1, none⟩) (u := .slice C nc dc) (by first | simp [go_sem] | simp [go_sem, *]); have bf11 := he1.frozen (p := ⟨w.heap.size, 1, none⟩) (by first | omega | (simp <;> omega)) (by first | simp [go_sem] | simp [go_sem, *]); have bc12 := he1.cell (p := ⟨w.heap.size + 1, 0, none⟩) (u := .slice B m q) (by first | simp [go_sem] | simp [go_sem, *]); have bf12 := he1.frozen (p := ⟨w.heap.size + 1, 0, none⟩) (by first | omega | (simp <;> omega)) (by first | simp [go_sem] | simp [go_sem, *])) | (go_at_call 92; (with_reducible refine (HI.out _ (by (repeat (first | with_reducible exact Ext.refl _ | with_reducible assumption | ((with_reducible refine Ext.setCell ?_ ?_ _); rotate_left; focus (first | omega | (simp <;> omega))) | with_reducible refine Ext.alloc ?_ _ | with_reducible refine Ext.drewN ?_ _ | with_reducible refine Ext.drew ?_ | with_reducible refine Ext.trans ?_ (by with_reducible assumption))))).mono ?_); rintro e2 w2 ⟨rfl, he2⟩; have y0 := he2.cell bc10; have y1 := he2.cell bc11; have y2 := he2.cell bc12) | (go_at_call 95; (with_reducible refine (HG.out _ (by (repeat (first | with_reducible exact Ext.refl _ | with_reducible assumption | ((with_reducible refine Ext.setCell ?_ ?_ _); rotate_left; focus (first | omega | (simp <;> omega))) | with_reducible refine Ext.alloc ?_ _ | with_reducible refine Ext.drewN ?_ _ | with_reducible refine Ext.drew ?_ | with_reducible refine Ext.trans ?_ (by with_reducible assumption))))).mono ?_); rintro e3 w3 ⟨rfl, he3⟩))
    go_ret2
    exact ⟨rfl, by (repeat (first | with_reducible exact Ext.refl _ | with_reducible assumption | ((with_reducible refine Ext.setCell ?_ ?_ _); rotate_left; focus (first | omega | (simp <;> omega))) | with_reducible refine Ext.alloc ?_ _ | with_reducible refine Ext.drewN ?_ _ | with_reducible refine Ext.drew ?_ | with_reducible refine Ext.trans ?_ (by with_reducible assumption)))⟩
  have hz : meetOk u W cls l c = true := by unfold meetOk; rw [hfr, hf, hco]; rfl
  unfold meetR
  rw [hz, Bool.true_and]
  rw [hco] at HG
  have HCf := hide (fun (Wd : World) (E : Ext w Wd) (pc : Nat) (h0 : Wd.cell? ⟨pc, 0, none⟩ = some (.slice B m q)) => ContainsFunc_rows_mem 97 #[.pointer (some ⟨pc, 0, none⟩)] (negC c) A n d l Wd (h.rd.ext E) meets_lit_enters
    (fun xs X y z wr hx hin hew => meets_lit_c pc B m q c X y z xs wr ((k.ext E).ext hew) hin (clause_lits hco) (hew.cell h0)))
  generalize l.any (negC c) = r at HCf ⊢
  clear hn hc hz hfr hf hco
  go_enter Try.func48, Try.ntmps48
  go_wp2_with fail
  refine (HN.out _ (by (repeat (first | with_reducible exact Ext.refl _ | with_reducible assumption | ((with_reducible refine Ext.setCell ?_ ?_ _); rotate_left; focus (first | omega | (simp <;> omega))) | with_reducible refine Ext.alloc ?_ _ | with_reducible refine Ext.drewN ?_ _ | with_reducible refine Ext.drew ?_ | with_reducible refine Ext.trans ?_ (by with_reducible assumption))))).mono ?_
  rintro e1 w1 ⟨rfl, he1⟩
  have ew1 : Hid (Ext w w1) := hide (Ext.trans (((Ext.refl _).alloc _).alloc _) he1)
  have bc13 := he1.cell (p := ⟨w.heap.size, 0, none⟩) (u := .int .i64 u) (by first | simp [go_sem] | simp [go_sem, *]); have bf13 := he1.frozen (p := ⟨w.heap.size, 0, none⟩) (by first | omega | (simp <;> omega)) (by first | simp [go_sem] | simp [go_sem, *]); have bc14 := he1.cell (p := ⟨w.heap.size, 1, none⟩) (u := .slice C nc dc) (by first | simp [go_sem] | simp [go_sem, *]); have bf14 := he1.frozen (p := ⟨w.heap.size, 1, none⟩) (by first | omega | (simp <;> omega)) (by first | simp [go_sem] | simp [go_sem, *])
  have bc15 := he1.cell (p := ⟨w.heap.size + 1, 0, none⟩) (u := .slice B m q) (by first | simp [go_sem] | simp [go_sem, *]); have bf15 := he1.frozen (p := ⟨w.heap.size + 1, 0, none⟩) (by first | omega | (simp <;> omega)) (by first | simp [go_sem] | simp [go_sem, *])
  go_wp2_with fail
  refine (HI.out _ ew1.out).mono ?_
  rintro e2 w2 ⟨rfl, he2⟩
  have ew2 : Hid (Ext w w2) := hide (ew1.out.trans he2)
  have y0 := he2.cell bc13
  have y1 := he2.cell bc14
  have y2 := he2.cell bc15
  go_wp2_with fail
  refine (HG.out _ ew2.out).mono ?_
  rintro e3 w3 ⟨rfl, he3⟩
  have ew3 : Hid (Ext w w3) := hide (ew2.out.trans he3)
  have x2 := he3.cell y2
  go_wp2_with fail
  refine (HCf.out _ ew3.out _ x2).mono ?_
  rintro e4 w4 ⟨rfl, he4⟩
  go_wp2_with fail
  go_ret2
  exact ⟨rfl, ew3.out.trans he4⟩
end Go.Proofs.Ytebklankehkmhaa
