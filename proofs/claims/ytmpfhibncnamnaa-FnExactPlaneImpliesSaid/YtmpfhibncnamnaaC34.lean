/-
  PlaneImplies: whether an inequality holds at every model of a cnf.
-/
import Derived.Test.YtmpfhibncnamnaaC33
import Derived.Test.YtmpfhibncnamnaaC32
namespace Go.Proofs.Ytmpfhibncnamnaa
set_option linter.unusedSimpArgs false
set_option linter.unusedVariables false
open Go.RowKit

def impOk (v : Int) (cls : List (List Int)) (bd : Int) (xs : List Int) : Bool := cnfOk v cls && ineqOk v bd xs
def impNo (u : Nat) (cls : List (List Int)) (bd : Int) (xs : List Int) : Bool := (List.range (2 ^ u)).any (fun k => allTrue cls k && !planeAt xs bd k)
def impB (v : Int) (cls : List (List Int)) (bd : Int) (xs : List Int) : Bool := impOk v cls bd xs && !impNo v.toNat cls bd xs
theorem l16Plane_ok (v bd : Int) (A : Option Addr) (n c : Nat) (xs : List Int) (w : World) (h : Ints w A n xs) (hv : within v 0 12 = true) :
    Calls Try.prog 89 #[.int .i64 v, .agg #[.slice A n c, .int .i64 bd]] w fun e w' => e = .returned (.bool (ineqOk v bd xs)) ∧ Ext w w' := by
  refine (l16Plane_c v bd A n c xs w h).mono ?_
  rintro e w1 ⟨rfl, he⟩
  exact ⟨ret_bool (by unfold ineqOk; rw [hv, h.len]; simp), he⟩
theorem cnf_vars {v : Int} {cls : List (List Int)} (h : cnfOk v cls = true) : within v 0 12 = true := (and3_true h).1
set_option maxRecDepth 100000 in
set_option maxHeartbeats 1600000 in
theorem spec_PlaneImplies_c (v : Int) (A : Option Addr) (n d : Nat) (cls : List (List Int)) (B : Option Addr) (m c : Nat) (bd : Int) (xs : List Int) (w : World) (h : Intss w A n cls) (hx : Ints w B m xs) :
    Calls Try.prog 49 #[.agg #[.int .i64 v, .slice A n d], .agg #[.slice B m c, .int .i64 bd]] w fun e w' =>
      e = .returned (.tuple #[.bool (impB v cls bd xs), .bool (impOk v cls bd xs)]) ∧ Ext w w' := by
  unfold impB impOk
  cases hq : cnfOk v cls
  · go_enter Try.func49, Try.ntmps49
    go_wp2_with (go_at_call 88; refine (l2Good_c _ _ _ _ cls _ (h.ext (by (repeat (first | with_reducible exact Ext.refl _ | with_reducible assumption | ((with_reducible refine Ext.setCell ?_ ?_ _); rotate_left; focus (first | omega | (simp <;> omega))) | with_reducible refine Ext.alloc ?_ _ | with_reducible refine Ext.drewN ?_ _ | with_reducible refine Ext.drew ?_ | with_reducible refine Ext.trans ?_ (by with_reducible assumption)))))).mono ?_; rw [hq]; rintro e w1 ⟨rfl, he⟩)
    go_ret2
    exact ⟨rfl, by (repeat (first | with_reducible exact Ext.refl _ | with_reducible assumption | ((with_reducible refine Ext.setCell ?_ ?_ _); rotate_left; focus (first | omega | (simp <;> omega))) | with_reducible refine Ext.alloc ?_ _ | with_reducible refine Ext.drewN ?_ _ | with_reducible refine Ext.drew ?_ | with_reducible refine Ext.trans ?_ (by with_reducible assumption)))⟩
  cases hqi : ineqOk v bd xs
  · have hq := hide hq
    have hqi := hide hqi
    go_enter Try.func49, Try.ntmps49
    go_wp2_with (first | (go_at_call 88; refine (l2Good_c _ _ _ _ cls _ (h.ext (by (repeat (first | with_reducible exact Ext.refl _ | with_reducible assumption | ((with_reducible refine Ext.setCell ?_ ?_ _); rotate_left; focus (first | omega | (simp <;> omega))) | with_reducible refine Ext.alloc ?_ _ | with_reducible refine Ext.drewN ?_ _ | with_reducible refine Ext.drew ?_ | with_reducible refine Ext.trans ?_ (by with_reducible assumption)))))).mono ?_; rw [hq.out]; rintro e w1 ⟨rfl, he⟩; have bc0 := he.cell (p := ⟨w.heap.size, 0, none⟩) (u := .int .i64 v) (by first | simp [go_sem] | simp [go_sem, *]); have bf0 := he.frozen (p := ⟨w.heap.size, 0, none⟩) (by first | omega | (simp <;> omega)) (by first | simp [go_sem] | simp [go_sem, *]); have bc1 := he.cell (p := ⟨w.heap.size, 1, none⟩) (u := .slice A n d) (by first | simp [go_sem] | simp [go_sem, *]); have bf1 := he.frozen (p := ⟨w.heap.size, 1, none⟩) (by first | omega | (simp <;> omega)) (by first | simp [go_sem] | simp [go_sem, *]); have bc2 := he.cell (p := ⟨w.heap.size + 1, 0, none⟩) (u := .slice B m c) (by first | simp [go_sem] | simp [go_sem, *]); have bf2 := he.frozen (p := ⟨w.heap.size + 1, 0, none⟩) (by first | omega | (simp <;> omega)) (by first | simp [go_sem] | simp [go_sem, *]); have bc3 := he.cell (p := ⟨w.heap.size + 1, 1, none⟩) (u := .int .i64 bd) (by first | simp [go_sem] | simp [go_sem, *]); have bf3 := he.frozen (p := ⟨w.heap.size + 1, 1, none⟩) (by first | omega | (simp <;> omega)) (by first | simp [go_sem] | simp [go_sem, *])) | (go_at_call 89; refine (l16Plane_ok _ _ _ _ _ xs _ (hx.ext (by (repeat (first | with_reducible exact Ext.refl _ | with_reducible assumption | ((with_reducible refine Ext.setCell ?_ ?_ _); rotate_left; focus (first | omega | (simp <;> omega))) | with_reducible refine Ext.alloc ?_ _ | with_reducible refine Ext.drewN ?_ _ | with_reducible refine Ext.drew ?_ | with_reducible refine Ext.trans ?_ (by with_reducible assumption))))) (cnf_vars hq.out)).mono ?_; rw [hqi.out]; rintro e w2 ⟨rfl, he2⟩))
    go_ret2
    exact ⟨rfl, by (repeat (first | with_reducible exact Ext.refl _ | with_reducible assumption | ((with_reducible refine Ext.setCell ?_ ?_ _); rotate_left; focus (first | omega | (simp <;> omega))) | with_reducible refine Ext.alloc ?_ _ | with_reducible refine Ext.drewN ?_ _ | with_reducible refine Ext.drew ?_ | with_reducible refine Ext.trans ?_ (by with_reducible assumption)))⟩
  simp only [Bool.true_and]
  have HC := hide (cnf_lits hq)
  obtain ⟨hv, hl, hbd, hxs⟩ := ineq_facts hqi
  have HQ := hide hq
  have HQI := hide hqi
  have HX := hide hxs
  have hm : m ≤ 12 := by have := hx.len; omega
  clear hq hqi hxs hl
  obtain ⟨u, rfl⟩ := int_nat hv.1
  have hp := pow_small (show u ≤ 12 by omega)
  have hp2 : ((2 ^ u : Nat) : Int) = (2 : Int) ^ u := by simp
  rw [show ((u : Int)).toNat = u by omega]
  unfold impNo
  obtain ⟨N, hN⟩ : ∃ N : Nat, N = 2 ^ u := ⟨_, rfl⟩
  rw [← hN] at hp2 ⊢
  have HN := hide hp2
  clear hN
  have hN4 : N ≤ 4096 := by omega
  clear hp2
  obtain ⟨r, hr⟩ : ∃ r : Bool, r = (List.range N).any (fun k => allTrue cls k && !planeAt xs bd k) := ⟨_, rfl⟩
  rw [← hr]
  have HR := hide hr
  clear hr
  go_enter Try.func49, Try.ntmps49
  go_wp2_with (first | (go_at_call 88; refine (l2Good_c _ _ _ _ cls _ (h.ext (by (repeat (first | with_reducible exact Ext.refl _ | with_reducible assumption | ((with_reducible refine Ext.setCell ?_ ?_ _); rotate_left; focus (first | omega | (simp <;> omega))) | with_reducible refine Ext.alloc ?_ _ | with_reducible refine Ext.drewN ?_ _ | with_reducible refine Ext.drew ?_ | with_reducible refine Ext.trans ?_ (by with_reducible assumption)))))).mono ?_; rw [HQ.out]; rintro e w1 ⟨rfl, he⟩; have bc4 := he.cell (p := ⟨w.heap.size, 0, none⟩) (u := .int .i64 u) (by first | simp [go_sem] | simp [go_sem, *]); have bf4 := he.frozen (p := ⟨w.heap.size, 0, none⟩) (by first | omega | (simp <;> omega)) (by first | simp [go_sem] | simp [go_sem, *]); have bc5 := he.cell (p := ⟨w.heap.size, 1, none⟩) (u := .slice A n d) (by first | simp [go_sem] | simp [go_sem, *]); have bf5 := he.frozen (p := ⟨w.heap.size, 1, none⟩) (by first | omega | (simp <;> omega)) (by first | simp [go_sem] | simp [go_sem, *]); have bc6 := he.cell (p := ⟨w.heap.size + 1, 0, none⟩) (u := .slice B m c) (by first | simp [go_sem] | simp [go_sem, *]); have bf6 := he.frozen (p := ⟨w.heap.size + 1, 0, none⟩) (by first | omega | (simp <;> omega)) (by first | simp [go_sem] | simp [go_sem, *]); have bc7 := he.cell (p := ⟨w.heap.size + 1, 1, none⟩) (u := .int .i64 bd) (by first | simp [go_sem] | simp [go_sem, *]); have bf7 := he.frozen (p := ⟨w.heap.size + 1, 1, none⟩) (by first | omega | (simp <;> omega)) (by first | simp [go_sem] | simp [go_sem, *])) | (go_at_call 89; refine (l16Plane_ok _ _ _ _ _ xs _ (hx.ext (by (repeat (first | with_reducible exact Ext.refl _ | with_reducible assumption | ((with_reducible refine Ext.setCell ?_ ?_ _); rotate_left; focus (first | omega | (simp <;> omega))) | with_reducible refine Ext.alloc ?_ _ | with_reducible refine Ext.drewN ?_ _ | with_reducible refine Ext.drew ?_ | with_reducible refine Ext.trans ?_ (by with_reducible assumption))))) (cnf_vars HQ.out)).mono ?_; rw [HQI.out]; rintro e w2 ⟨rfl, he2⟩))
  refine wp_loopK _ rfl (fun KK acT wr => ∃ s0 s1 s2 s3 s4 s5 s6 s7 s8 s9 s10 s11 s12 s13 s14 s15 s16 s17 s18 s19 s20 s21 s22 s23 s24 s25 s26 s27 s28 s29 s30 s31 s32 s33 : Value, (KeptM [false, false, true, true, false, false, false, false, false, false, false, false, false, false, false, false, false, false, false, false, false, false, false, false, false, false, false, false, false, false, false, false, false, false] [s0, s1, s2, s3, s4, s5, s6, s7, s8, s9, s10, s11, s12, s13, s14, s15, s16, s17, s18, s19, s20, s21, s22, s23, s24, s25, s26, s27, s28, s29, s30, s31, s32, s33] KK ∧ (Ext ((w.alloc (.cells #[.int .i64 u, .slice A n d] 28)).alloc (.cells #[.slice B m c, .int .i64 bd] 55)) wr ∧ ∃ k : Nat, k ≤ N ∧ s6 = .int .i64 k ∧ Hid ((List.range k).any (fun k => allTrue cls k && !planeAt xs bd k) = false))) ∧ acT = ⟨#[s0, s1, s2, s3, s4, s5, s6, s7, s8, s9, s10, s11, s12, s13, s14, s15, s16, s17, s18, s19, s20, s21, s22, s23, s24, s25, s26, s27, s28, s29, s30, s31, s32, s33], []⟩) (fun acT wr => (fun (s6 : Value) (wr : World) => N - (intOf s6).toNat) (acT.tmps.getD 6 undef) wr) ?_ ?_
  · (refine ⟨_, _, _, _, _, _, _, _, _, _, _, _, _, _, _, _, _, _, _, _, _, _, _, _, _, _, _, _, _, _, _, _, _, _, ⟨(by (repeat (first | exact trivial | refine ⟨rfl, ?_⟩))), ?_⟩, rfl⟩; exact ⟨he.trans he2, 0, by omega, rfl, by simp [Hid]⟩)
  intro _ wr hinv; obtain ⟨s0, s1, s2, s3, s4, s5, s6, s7, s8, s9, s10, s11, s12, s13, s14, s15, s16, s17, s18, s19, s20, s21, s22, s23, s24, s25, s26, s27, s28, s29, s30, s31, s32, s33, ⟨hkept, hrel⟩, rfl⟩ := hinv; simp only [KeptM] at hkept; obtain ⟨rfl, rfl, -⟩ := hkept; (try dsimp only)
  clear he he2
  obtain ⟨he, k, hk, rfl, ht⟩ := hrel
  have b1 := he.cell (p := ⟨w.heap.size, 1, none⟩) (u := .slice A n d) (by simp [go_sem])
  have bc8 := he.cell (p := ⟨w.heap.size, 0, none⟩) (u := .int .i64 u) (by first | simp [go_sem] | simp [go_sem, *]); have bf8 := he.frozen (p := ⟨w.heap.size, 0, none⟩) (by first | omega | (simp <;> omega)) (by first | simp [go_sem] | simp [go_sem, *]); have bc9 := he.cell (p := ⟨w.heap.size, 1, none⟩) (u := .slice A n d) (by first | simp [go_sem] | simp [go_sem, *]); have bf9 := he.frozen (p := ⟨w.heap.size, 1, none⟩) (by first | omega | (simp <;> omega)) (by first | simp [go_sem] | simp [go_sem, *])
  have bc10 := he.cell (p := ⟨w.heap.size + 1, 0, none⟩) (u := .slice B m c) (by first | simp [go_sem] | simp [go_sem, *]); have bf10 := he.frozen (p := ⟨w.heap.size + 1, 0, none⟩) (by first | omega | (simp <;> omega)) (by first | simp [go_sem] | simp [go_sem, *]); have bc11 := he.cell (p := ⟨w.heap.size + 1, 1, none⟩) (u := .int .i64 bd) (by first | simp [go_sem] | simp [go_sem, *]); have bf11 := he.frozen (p := ⟨w.heap.size + 1, 1, none⟩) (by first | omega | (simp <;> omega)) (by first | simp [go_sem] | simp [go_sem, *])
  by_cases hlt : (k : Int) < (2 : Int) ^ u
  · have hkN : k < N := by have := HN.out; omega
    have HP := hide (l16Holds_c B m c k bd xs wr (hx.ext (by (repeat (first | with_reducible exact Ext.refl _ | with_reducible assumption | ((with_reducible refine Ext.setCell ?_ ?_ _); rotate_left; focus (first | omega | (simp <;> omega))) | with_reducible refine Ext.alloc ?_ _ | with_reducible refine Ext.drewN ?_ _ | with_reducible refine Ext.drew ?_ | with_reducible refine Ext.trans ?_ (by with_reducible assumption))))) hm (by omega) hbd HX.out)
    cases hpl : planeAt xs bd k
    · rw [hpl] at HP
      cases hat : allTrue cls k
      · have ht' := any_range_succ (p := fun k => allTrue cls k && !planeAt xs bd k) ht (by simp [hat])
        have hat := hide hat
        clear hpl
        go_wp2_with (first | (go_at_call 90; refine HP.out.mono ?_; rintro e w2 ⟨rfl, he2⟩; have b1' := he2.cell b1) | (go_at_call 91; refine (l5All_c _ _ _ _ cls _ (h.ext (by (repeat (first | with_reducible exact Ext.refl _ | with_reducible assumption | ((with_reducible refine Ext.setCell ?_ ?_ _); rotate_left; focus (first | omega | (simp <;> omega))) | with_reducible refine Ext.alloc ?_ _ | with_reducible refine Ext.drewN ?_ _ | with_reducible refine Ext.drew ?_ | with_reducible refine Ext.trans ?_ (by with_reducible assumption))))) (by omega) (fun c hc => (HC.out c hc).2)).mono ?_; rw [hat.out]; rintro e w3 ⟨rfl, he3⟩))
        exact ⟨⟨(by (repeat (first | exact trivial | refine ⟨rfl, ?_⟩))), (he.trans he2).trans he3, k + 1, by omega, by go_num, ht'⟩, (by simp [intOf] <;> omega)⟩
      · have hr1 : Hid (r = true) := hide (by rw [HR.out]; exact any_range_true hkN (by simp [hat, hpl]))
        have hat := hide hat
        clear hpl
        go_wp2_with (first | (go_at_call 90; refine HP.out.mono ?_; rintro e w2 ⟨rfl, he2⟩; have b1' := he2.cell b1) | (go_at_call 91; refine (l5All_c _ _ _ _ cls _ (h.ext (by (repeat (first | with_reducible exact Ext.refl _ | with_reducible assumption | ((with_reducible refine Ext.setCell ?_ ?_ _); rotate_left; focus (first | omega | (simp <;> omega))) | with_reducible refine Ext.alloc ?_ _ | with_reducible refine Ext.drewN ?_ _ | with_reducible refine Ext.drew ?_ | with_reducible refine Ext.trans ?_ (by with_reducible assumption))))) (by omega) (fun c hc => (HC.out c hc).2)).mono ?_; rw [hat.out]; rintro e w3 ⟨rfl, he3⟩))
        rw [hr1.out]
        go_ret2
        exact ⟨rfl, by (repeat (first | with_reducible exact Ext.refl _ | with_reducible assumption | ((with_reducible refine Ext.setCell ?_ ?_ _); rotate_left; focus (first | omega | (simp <;> omega))) | with_reducible refine Ext.alloc ?_ _ | with_reducible refine Ext.drewN ?_ _ | with_reducible refine Ext.drew ?_ | with_reducible refine Ext.trans ?_ (by with_reducible assumption)))⟩
    · rw [hpl] at HP
      have ht' := any_range_succ (p := fun k => allTrue cls k && !planeAt xs bd k) ht (by simp [hpl])
      clear hpl
      go_wp2_with (first | (go_at_call 90; refine HP.out.mono ?_; rintro e w2 ⟨rfl, he2⟩))
      exact ⟨⟨(by (repeat (first | exact trivial | refine ⟨rfl, ?_⟩))), he.trans he2, k + 1, by omega, by go_num, ht'⟩, (by simp [intOf] <;> omega)⟩
  · have hr0 : r = false := by have hkN : k = N := by have := HN.out; omega
                               rw [HR.out, ← hkN]; exact ht.out
    subst hr0
    go_wp2
    go_ret2
    exact ⟨rfl, by (repeat (first | with_reducible exact Ext.refl _ | with_reducible assumption | ((with_reducible refine Ext.setCell ?_ ?_ _); rotate_left; focus (first | omega | (simp <;> omega))) | with_reducible refine Ext.alloc ?_ _ | with_reducible refine Ext.drewN ?_ _ | with_reducible refine Ext.drew ?_ | with_reducible refine Ext.trans ?_ (by with_reducible assumption)))⟩
theorem PlaneImplies_lit_c (A : Option Addr) (n c k bd' : Nat) (bd : Int) (xs : List Int) (p b : Nat) (w : World) (h : Ints w A n xs) (hn : n ≤ 12) (hk : k ≤ 4096) (hbd : -10000 ≤ bd ∧ bd ≤ 10000) (hxs : ∀ x ∈ xs, -1000 ≤ x ∧ x ≤ 1000)
    (h0 : w.cell? ⟨p, 0, none⟩ = some (.slice A n c)) (h1 : w.cell? ⟨p, 1, none⟩ = some (.int .i64 bd)) (hb : BoxAt w b 4 #[.bool true]) :
    Calls Try.prog 95 #[.int .i64 k, .pointer (some ⟨p, 0, none⟩), .pointer (some ⟨b, 0, none⟩)] w fun e w' =>
      e = .returned (.bool (planeAt xs bd k)) ∧ BoxAt w' b 4 #[.bool (if planeAt xs bd k then true else !true)] ∧ Touch b (b + 1) w w' := by
  have hif : (if planeAt xs bd k then true else !true) = planeAt xs bd k := by cases planeAt xs bd k <;> rfl
  rw [hif]
  have HP := hide (fun W he => planeHolds_c A n c k bd xs W (h.ext he) hn hk hbd hxs)
  generalize planeAt xs bd k = g at HP ⊢
  clear hif hxs
  go_enter Try.func95, Try.ntmps95
  go_wp2_with (go_at_call 96; refine (HP.out _ (by (repeat (first | with_reducible exact Ext.refl _ | with_reducible assumption | ((with_reducible refine Ext.setCell ?_ ?_ _); rotate_left; focus (first | omega | (simp <;> omega))) | with_reducible refine Ext.alloc ?_ _ | with_reducible refine Ext.drewN ?_ _ | with_reducible refine Ext.drew ?_ | with_reducible refine Ext.trans ?_ (by with_reducible assumption))))).mono ?_; rintro e w1 ⟨rfl, he1⟩; have hb1 := hb.ext he1; have c0 := hb1.cell 0 _ rfl; have f0 := hb1.frozen 0; have hb2 := hb1.set 0 (.bool g))
  go_ret
  exact ⟨rfl, by simpa using hb2, (Ext.touch he1 _ _).trans ⟨rfl, rfl, rfl, by simp [World.setCell], fun k _ hk => Below.heap_setCell _ _ _ _ (by simp; omega)⟩⟩
theorem PlaneImplies_lit_enters : Enters Try.prog 95 := enters_of Try.func95 (by kernel_rfl) (by kernel_rfl)
set_option maxRecDepth 100000 in
set_option maxHeartbeats 1600000 in
theorem impl_PlaneImplies_c (v : Int) (A : Option Addr) (n d : Nat) (cls : List (List Int)) (B : Option Addr) (m c : Nat) (bd : Int) (xs : List Int) (w : World) (h : Intss w A n cls) (hx : Ints w B m xs) :
    Calls Try.prog 51 #[.agg #[.int .i64 v, .slice A n d], .agg #[.slice B m c, .int .i64 bd]] w fun e w' =>
      e = .returned (.tuple #[.bool (impB v cls bd xs), .bool (impOk v cls bd xs)]) ∧ Ext w w' := by
  unfold impB impOk
  cases hq : cnfOk v cls
  · go_enter Try.func51, Try.ntmps51
    go_wp2_with (go_at_call 92; refine (IsCnf_c _ _ _ _ cls _ (h.ext (by (repeat (first | with_reducible exact Ext.refl _ | with_reducible assumption | ((with_reducible refine Ext.setCell ?_ ?_ _); rotate_left; focus (first | omega | (simp <;> omega))) | with_reducible refine Ext.alloc ?_ _ | with_reducible refine Ext.drewN ?_ _ | with_reducible refine Ext.drew ?_ | with_reducible refine Ext.trans ?_ (by with_reducible assumption)))))).mono ?_; rw [hq]; rintro e w1 ⟨rfl, he⟩)
    go_ret2
    exact ⟨rfl, by (repeat (first | with_reducible exact Ext.refl _ | with_reducible assumption | ((with_reducible refine Ext.setCell ?_ ?_ _); rotate_left; focus (first | omega | (simp <;> omega))) | with_reducible refine Ext.alloc ?_ _ | with_reducible refine Ext.drewN ?_ _ | with_reducible refine Ext.drew ?_ | with_reducible refine Ext.trans ?_ (by with_reducible assumption)))⟩
  cases hqi : ineqOk v bd xs
  · have hq := hide hq
    have hqi := hide hqi
    go_enter Try.func51, Try.ntmps51
    go_wp2_with (first | (go_at_call 92; refine (IsCnf_c _ _ _ _ cls _ (h.ext (by (repeat (first | with_reducible exact Ext.refl _ | with_reducible assumption | ((with_reducible refine Ext.setCell ?_ ?_ _); rotate_left; focus (first | omega | (simp <;> omega))) | with_reducible refine Ext.alloc ?_ _ | with_reducible refine Ext.drewN ?_ _ | with_reducible refine Ext.drew ?_ | with_reducible refine Ext.trans ?_ (by with_reducible assumption)))))).mono ?_; rw [hq.out]; rintro e w1 ⟨rfl, he⟩; have bc12 := he.cell (p := ⟨w.heap.size, 0, none⟩) (u := .int .i64 v) (by first | simp [go_sem] | simp [go_sem, *]); have bf12 := he.frozen (p := ⟨w.heap.size, 0, none⟩) (by first | omega | (simp <;> omega)) (by first | simp [go_sem] | simp [go_sem, *]); have bc13 := he.cell (p := ⟨w.heap.size, 1, none⟩) (u := .slice A n d) (by first | simp [go_sem] | simp [go_sem, *]); have bf13 := he.frozen (p := ⟨w.heap.size, 1, none⟩) (by first | omega | (simp <;> omega)) (by first | simp [go_sem] | simp [go_sem, *]); have bc14 := he.cell (p := ⟨w.heap.size + 1, 0, none⟩) (u := .slice B m c) (by first | simp [go_sem] | simp [go_sem, *]); have bf14 := he.frozen (p := ⟨w.heap.size + 1, 0, none⟩) (by first | omega | (simp <;> omega)) (by first | simp [go_sem] | simp [go_sem, *]); have bc15 := he.cell (p := ⟨w.heap.size + 1, 1, none⟩) (u := .int .i64 bd) (by first | simp [go_sem] | simp [go_sem, *]); have bf15 := he.frozen (p := ⟨w.heap.size + 1, 1, none⟩) (by first | omega | (simp <;> omega)) (by first | simp [go_sem] | simp [go_sem, *])) | (go_at_call 93; refine (impl_IsInequality_c _ _ _ _ _ xs _ (hx.ext (by (repeat (first | with_reducible exact Ext.refl _ | with_reducible assumption | ((with_reducible refine Ext.setCell ?_ ?_ _); rotate_left; focus (first | omega | (simp <;> omega))) | with_reducible refine Ext.alloc ?_ _ | with_reducible refine Ext.drewN ?_ _ | with_reducible refine Ext.drew ?_ | with_reducible refine Ext.trans ?_ (by with_reducible assumption)))))).mono ?_; rw [hqi.out]; rintro e w2 ⟨rfl, he2⟩))
    go_ret2
    exact ⟨rfl, by (repeat (first | with_reducible exact Ext.refl _ | with_reducible assumption | ((with_reducible refine Ext.setCell ?_ ?_ _); rotate_left; focus (first | omega | (simp <;> omega))) | with_reducible refine Ext.alloc ?_ _ | with_reducible refine Ext.drewN ?_ _ | with_reducible refine Ext.drew ?_ | with_reducible refine Ext.trans ?_ (by with_reducible assumption)))⟩
  simp only [Bool.true_and]
  have hC := fun c hc => (cnf_lits hq c hc).2
  obtain ⟨hv, hl, hbd, hxs⟩ := ineq_facts hqi
  have HQ := hide hq
  have HQI := hide hqi
  have hm : m ≤ 12 := by have := hx.len; omega
  clear hq hqi hl
  obtain ⟨u, rfl⟩ := int_nat hv.1
  rw [show ((u : Int)).toNat = u by omega]
  have hu : u ≤ 12 := by omega
  have hp2 : 2 ^ u ≤ 4096 := by have := pow_small hu; have h3 : ((2 ^ u : Nat) : Int) = (2 : Int) ^ u := by simp
                                omega
  have hM := fun W W' p b (he : Ext w W) (h0 : W.cell? ⟨p, 0, none⟩ = some (.slice B m c)) (h1 : W.cell? ⟨p, 1, none⟩ = some (.int .i64 bd)) (he' : Ext W W') (hb : BoxAt W' b 4 #[.bool true]) (hlo : W.heap.size ≤ b) =>
    models_c 95 #[.pointer (some ⟨p, 0, none⟩), .pointer (some ⟨b, 0, none⟩)] b true (planeAt xs bd) A n d u cls W W' (h.ext he) hu hC he' hb hlo PlaneImplies_lit_enters
      (fun k W2 hk _ h2 hb2 => by simpa using PlaneImplies_lit_c B m c k 0 bd xs p b W2 (hx.ext (he.trans h2)) hm (by omega) hbd hxs (h2.cell h0) (h2.cell h1) hb2)
  have hno : (List.range (2 ^ u)).any (fun k => allTrue cls k && !planeAt xs bd k) = impNo u cls bd xs := rfl
  simp only [hno] at hM
  generalize impNo u cls bd xs = r at hM ⊢
  have hif : (if r = true then !true else true) = !r := by cases r <;> rfl
  simp only [hif] at hM
  have HM := hide hM
  clear hM hif hno hp2 hC hxs
  go_enter Try.func51, Try.ntmps51
  go_wp2_with (first | (go_at_call 92; refine (IsCnf_c _ _ _ _ cls _ (h.ext (by (repeat (first | with_reducible exact Ext.refl _ | with_reducible assumption | ((with_reducible refine Ext.setCell ?_ ?_ _); rotate_left; focus (first | omega | (simp <;> omega))) | with_reducible refine Ext.alloc ?_ _ | with_reducible refine Ext.drewN ?_ _ | with_reducible refine Ext.drew ?_ | with_reducible refine Ext.trans ?_ (by with_reducible assumption)))))).mono ?_; rw [HQ.out]; rintro e w1 ⟨rfl, he⟩; have bc16 := he.cell (p := ⟨w.heap.size, 0, none⟩) (u := .int .i64 u) (by first | simp [go_sem] | simp [go_sem, *]); have bf16 := he.frozen (p := ⟨w.heap.size, 0, none⟩) (by first | omega | (simp <;> omega)) (by first | simp [go_sem] | simp [go_sem, *]); have bc17 := he.cell (p := ⟨w.heap.size, 1, none⟩) (u := .slice A n d) (by first | simp [go_sem] | simp [go_sem, *]); have bf17 := he.frozen (p := ⟨w.heap.size, 1, none⟩) (by first | omega | (simp <;> omega)) (by first | simp [go_sem] | simp [go_sem, *]); have bc18 := he.cell (p := ⟨w.heap.size + 1, 0, none⟩) (u := .slice B m c) (by first | simp [go_sem] | simp [go_sem, *]); have bf18 := he.frozen (p := ⟨w.heap.size + 1, 0, none⟩) (by first | omega | (simp <;> omega)) (by first | simp [go_sem] | simp [go_sem, *]); have bc19 := he.cell (p := ⟨w.heap.size + 1, 1, none⟩) (u := .int .i64 bd) (by first | simp [go_sem] | simp [go_sem, *]); have bf19 := he.frozen (p := ⟨w.heap.size + 1, 1, none⟩) (by first | omega | (simp <;> omega)) (by first | simp [go_sem] | simp [go_sem, *])))
  refine (impl_IsInequality_c _ _ _ _ _ xs _ (hx.ext (by (repeat (first | with_reducible exact Ext.refl _ | with_reducible assumption | ((with_reducible refine Ext.setCell ?_ ?_ _); rotate_left; focus (first | omega | (simp <;> omega))) | with_reducible refine Ext.alloc ?_ _ | with_reducible refine Ext.drewN ?_ _ | with_reducible refine Ext.drew ?_ | with_reducible refine Ext.trans ?_ (by with_reducible assumption)))))).mono ?_
  rw [HQI.out]
  rintro e w2 ⟨rfl, he2⟩
  have e2 := he.trans he2
  have z0 : w.heap.size < w2.heap.size := by have := e2.size; (try simp at this); omega
  have p0 := e2.cell (p := ⟨w.heap.size, 0, none⟩) (u := .int .i64 u) (by simp [go_sem])
  have p1 := e2.cell (p := ⟨w.heap.size, 1, none⟩) (u := .slice A n d) (by simp [go_sem])
  have q0 := e2.cell (p := ⟨w.heap.size + 1, 0, none⟩) (u := .slice B m c) (by simp [go_sem])
  have q1 := e2.cell (p := ⟨w.heap.size + 1, 1, none⟩) (u := .int .i64 bd) (by simp [go_sem])
  go_wp2_with fail
  refine (HM.out w2 _ (w.heap.size + 1) w2.heap.size (by (repeat (first | with_reducible exact Ext.refl _ | with_reducible assumption | ((with_reducible refine Ext.setCell ?_ ?_ _); rotate_left; focus (first | omega | (simp <;> omega))) | with_reducible refine Ext.alloc ?_ _ | with_reducible refine Ext.drewN ?_ _ | with_reducible refine Ext.drew ?_ | with_reducible refine Ext.trans ?_ (by with_reducible assumption)))) q0 q1 ((Ext.refl _).alloc _) (BoxAt.made _ _ _) (Nat.le_refl _)).mono ?_
  rintro e w3 ⟨rfl, hb3, he3⟩
  have c3 := hb3.cell 0 _ rfl
  go_wp2_with fail
  go_ret2
  exact ⟨rfl, by (repeat (first | with_reducible exact Ext.refl _ | with_reducible assumption | ((with_reducible refine Ext.setCell ?_ ?_ _); rotate_left; focus (first | omega | (simp <;> omega))) | with_reducible refine Ext.alloc ?_ _ | with_reducible refine Ext.drewN ?_ _ | with_reducible refine Ext.drew ?_ | with_reducible refine Ext.trans ?_ (by with_reducible assumption)))⟩
end Go.Proofs.Ytmpfhibncnamnaa
