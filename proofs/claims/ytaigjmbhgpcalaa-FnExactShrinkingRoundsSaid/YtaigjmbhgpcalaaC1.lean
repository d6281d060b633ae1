/-
  How a law's statement is closed: what the arguments read as, and that they read so behind a call that turns nothing that was there.
-/
import Derived.Test.YtaigjmbhgpcalaaBase
import Derived.ProofKit
import Derived.OpenShut
import Derived.Lib.SmallJoins
import Derived.Deep.Matrix
import Derived.Test.YtaigjmbhgpcalaaProg

namespace Go.Proofs.Ytaigjmbhgpcalaa
set_option linter.unusedSimpArgs false
set_option linter.unusedVariables false
open Go.ChangeShapes Go.WideShapes Go.ChangeAt Go.RowKit Go.Joins Go.Deep

section
variable {H : Type} {enc : TypeId × Value → H} {P : Program}
theorem trodAll_stays (hl : laidOutB P = true) {W W' : World} (he : Ext W W') {sp : Nat → Bool} : ∀ {ts : List TypeId} {vs : List Value} {ds : List (DataW H)} {ps : List MemPlace},
    (ts.all fun t => P.readableRec t && decide (t < P.types.size)) = true → DataW.TrodAll enc P W 0 (fun _ => true) true ts vs ds ps → (∀ x ∈ ps, x.block < W.heap.size ∧ sp x.block = true) →
    DataW.TrodAll enc P W' 0 sp true ts vs ds ps
  | [], vs, ds, ps, _, h, _ => by
    obtain ⟨rfl, rfl, rfl⟩ := trodAll_nil h
    exact trodAll_mk0
  | t :: ts, vs, ds, ps, ht, h, hx => by
    obtain ⟨v, vs', d, ds', p, p', rfl, rfl, rfl, h1, h2⟩ := trodAll_cons h
    simp only [List.all_cons, Bool.and_eq_true, decide_eq_true_eq] at ht
    obtain ⟨⟨h3, h4⟩, h5⟩ := ht
    exact trodAll_cons_mk (WideElems.Trod_stays hl h3 h4 h1 (fun x hxp => Below.same he (hx x (by simp [hxp])).1) (fun x hxp => (hx x (by simp [hxp])).2))
      (trodAll_stays hl he (by simpa using h5) h2 (fun x hxp => hx x (by simp [hxp])))

theorem post_law {f : Func} {s : ChangeSpec} {W W' : World} {args : Array Value} {ds : List (DataW H)} {before : List MemPlace} {tb : TypeId} (hl : laidOutB P = true)
    (hread : (f.params.toList.all fun t => P.readableRec t && decide (t < P.types.size)) = true) (hrt : f.resultTypes = #[tb]) (hb : P.underlying tb = some .bool) (hsv : s.vars = [])
    (hfn : s.fn H (ds ++ []) = { results := [.lit (.bool true)], args := ds }) (hW : DataW.Whole enc P f.params.toList s.vars false W args.toList ds [] before) (he : Ext W W') :
    s.post enc P f false true false false W args (.bool true) W' := by
  have hlt : ∀ p ∈ before, p.block < W.heap.size := fun p hp => hW.lt p hp
  have hW0 := hW
  obtain ⟨p, q, hA, hV, rfl, hz, hn⟩ := hW
  rw [hsv] at hV
  obtain ⟨_, rfl⟩ := trodVars_none hV
  refine ⟨ds, [], p ++ [], [], p, [], hW0, ?_, ?_, ?_, World.keptBut_mono (fun x hx => ⟨hx, .inr (.inl (by simpa using hx))⟩) (Below.frame he (· ∈ p ++ [])), fun h => by cases h⟩
  · rw [hfn, hrt]
    exact trodAll_cons_mk (shut_bool hb _) trodAll_mk0
  · rw [hfn]
    exact trodAll_stays hl he hread hA fun x hx => ⟨hlt x (by simpa using hx), by simpa using hlt x (by simpa using hx)⟩
  · rw [hfn, hsv]
    exact hV
end

section
variable {H : Type} {enc : TypeId × Value → H} {P : Program} {w : World} {held : Bool} {r : Reach} {b0 : Nat}
theorem ints_cells {t e : TypeId} {fuel : Nat} {v : Value} {x : DataW H × List MemPlace} (ht : P.underlying t = some (.slice e)) (he : P.underlying e = some (.int .i64)) (hc : P.cellsOf e = 1)
    (h : DataW.trod enc P w 0 (fun _ => true) held fuel t [v] = some x) : ∃ A n c xs, v = .slice A n c ∧ Ints w A n xs := by
  rcases open_ints ht he hc h with ⟨hcs, _⟩ | ⟨a, len, cap, zs, hcs, _, hl, hm, hz, _, hcell, _⟩
  · simp at hcs
    subst hcs
    exact ⟨none, 0, 0, [], rfl, rfl, by omega, fun h => absurd rfl h⟩
  · simp at hcs
    subst hcs
    simp at hz
    refine ⟨some a, len, cap, zs.take len, rfl, by simp; omega, by unfold maxLen at hm; omega, fun _ => ⟨a, rfl, fun j u hu => ?_⟩⟩
    rw [List.getElem?_map, List.getElem?_take] at hu
    by_cases hj : j < len
    · rw [if_pos hj] at hu
      have hjz : j < zs.length := by omega
      rw [List.getElem?_eq_getElem hjz] at hu
      simp at hu
      subst hu
      rw [hcell j hjz]
      simp [List.getElem?_eq_getElem hjz]
    · rw [if_neg hj] at hu
      cases hu
theorem ints_open {t e : TypeId} {v : Value} {d : DataW H} {p : List MemPlace} (ht : P.underlying t = some (.slice e)) (he : P.underlying e = some (.int .i64)) (hc : P.cellsOf e = 1)
    (hv : Value.okWide P w r b0 t v) (h : DataW.Trod enc P w 0 (fun _ => true) held t v d p) : ∃ A n c xs, v = .slice A n c ∧ Ints w A n xs := by
  obtain ⟨a, n, c, rfl⟩ := okWide_slice ht hv
  obtain ⟨fuel, hf⟩ := h
  exact ints_cells ht he hc hf
/-- A struct of a slice of ints and an int. -/
theorem intsInt_open {t ts te ti : TypeId} {f0 f1 : Field} {v : Value} {d : DataW H} {p : List MemPlace} (hs : P.underlying t = some (.struct #[f0, f1])) (hone : oneCellFields P #[f0, f1] = true) (hC : P.cellsOf t = 2)
    (h0 : f0.type = ts) (h1 : f1.type = ti) (ht : P.underlying ts = some (.slice te)) (he : P.underlying te = some (.int .i64)) (hc : P.cellsOf te = 1) (hi : P.underlying ti = some (.int .i64))
    (hv : Value.okWide P w r b0 t v) (h : DataW.Trod enc P w 0 (fun _ => true) held t v d p) : ∃ A n c xs b, v = .agg #[.slice A n c, .int .i64 b] ∧ Ints w A n xs := by
  obtain ⟨v0, v1, y0, y1, n, rfl, _, _, k0, k1⟩ := open_agg2 hs hone hC hv h
  rw [h0] at k0
  rw [h1] at k1
  obtain ⟨A, n, c, xs, rfl, hints⟩ := ints_cells ht he hc k0
  obtain ⟨b, hb, _, _⟩ := DataW.trod_int hi k1
  simp at hb
  subst hb
  exact ⟨A, n, c, xs, b, rfl, hints⟩
end
end Go.Proofs.Ytaigjmbhgpcalaa

/-
  What slices of int slices read as, when a law's arguments hold them.
-/
namespace Go.Proofs.Ytaigjmbhgpcalaa
set_option linter.unusedSimpArgs false
set_option linter.unusedVariables false
open Go.ChangeShapes Go.WideShapes Go.ChangeAt Go.RowKit Go.Joins Go.Deep

theorem getElem?_range_if (n j : Nat) : (List.range n)[j]? = if j < n then some j else none := by
  by_cases h : j < n
  · rw [if_pos h, List.getElem?_range h]
  · rw [if_neg h]; exact List.getElem?_eq_none (by simp; omega)
section
variable {H : Type} {enc : TypeId × Value → H} {P : Program} {w : World} {held : Bool} {r : Reach} {b0 : Nat}
theorem rows_cells {t e q : TypeId} {fuel : Nat} {v : Value} {x : DataW H × List MemPlace} (ht : P.underlying t = some (.slice e)) (he : P.underlying e = some (.slice q)) (hq : P.underlying q = some (.int .i64)) (ce : P.cellsOf e = 1) (cq : P.cellsOf q = 1)
    (h : DataW.trod enc P w 0 (fun _ => true) held fuel t [v] = some x) : ∃ A n c xss, v = .slice A n c ∧ Intss w A n xss := by
  rcases open_int_rows ht he hq ce cq h with ⟨hcs, _⟩ | ⟨a, len, cap, A, L, C, Z, hcs, _, hl, hm, _, hrow⟩
  · simp at hcs
    subst hcs
    exact ⟨none, 0, 0, [], rfl, rfl, by omega, [], rfl, fun h => absurd rfl h, by simp⟩
  · simp at hcs
    subst hcs
    refine ⟨some a, len, cap, (List.range len).map fun r => (Z r).take (L r), rfl, by simp, by unfold maxLen at hm; omega, (List.range len).map fun r => Value.slice (A r) (L r) (C r), by simp, fun _ => ⟨a, rfl, fun j u hu => ?_⟩, fun i u xs hu hx => ?_⟩
    · rw [List.getElem?_map, getElem?_range_if] at hu
      by_cases hj : j < len
      · rw [if_pos hj] at hu
        simp at hu
        subst hu
        exact (hrow j (by omega)).1
      · rw [if_neg hj] at hu
        cases hu
    · rw [List.getElem?_map, getElem?_range_if] at hu hx
      by_cases hi : i < len
      · rw [if_pos hi] at hu hx
        simp at hu hx
        subst hu
        subst hx
        obtain ⟨_, hLC, hCm, hZ, _, hnil, hcell⟩ := hrow i (by omega)
        have hlen : ((Z i).take (L i)).length = L i := by simp; omega
        refine ⟨A i, C i, by rw [hlen], by rw [hlen], by rw [hlen]; unfold maxLen at hCm; omega, fun hne => ?_⟩
        have hL : 0 < L i := by
          rcases Nat.eq_zero_or_pos (L i) with h0 | h0
          · exact absurd (by rw [h0]; simp) hne
          · exact h0
        cases hA : A i with
        | none => have := hnil hA; omega
        | some a' =>
          refine ⟨a', rfl, fun j u hu => ?_⟩
          rw [List.getElem?_map, List.getElem?_take] at hu
          by_cases hj : j < L i
          · rw [if_pos hj] at hu
            have hjz : j < (Z i).length := by omega
            rw [List.getElem?_eq_getElem hjz] at hu
            simp at hu
            subst hu
            rw [(hcell a' hA).2 j (by omega)]
            simp [List.getElem?_eq_getElem hjz, List.getD_eq_getElem?_getD]
          · rw [if_neg hj] at hu
            cases hu
      · rw [if_neg hi] at hu
        cases hu
theorem rows_open {t e q : TypeId} {v : Value} {d : DataW H} {p : List MemPlace} (ht : P.underlying t = some (.slice e)) (he : P.underlying e = some (.slice q)) (hq : P.underlying q = some (.int .i64)) (ce : P.cellsOf e = 1) (cq : P.cellsOf q = 1)
    (hv : Value.okWide P w r b0 t v) (h : DataW.Trod enc P w 0 (fun _ => true) held t v d p) : ∃ A n c xss, v = .slice A n c ∧ Intss w A n xss := by
  obtain ⟨a, n, c, rfl⟩ := okWide_slice ht hv
  obtain ⟨fuel, hf⟩ := h
  exact rows_cells ht he hq ce cq hf
/-- A struct of an int and rows. -/
theorem intRows_open {t ts te tq ti : TypeId} {f0 f1 : Field} {v : Value} {d : DataW H} {p : List MemPlace} (hs : P.underlying t = some (.struct #[f0, f1])) (hone : oneCellFields P #[f0, f1] = true) (hC : P.cellsOf t = 2)
    (h0 : f0.type = ti) (h1 : f1.type = ts) (ht : P.underlying ts = some (.slice te)) (he : P.underlying te = some (.slice tq)) (hq : P.underlying tq = some (.int .i64)) (ce : P.cellsOf te = 1) (cq : P.cellsOf tq = 1) (hi : P.underlying ti = some (.int .i64))
    (hv : Value.okWide P w r b0 t v) (h : DataW.Trod enc P w 0 (fun _ => true) held t v d p) : ∃ A n c xss b, v = .agg #[.int .i64 b, .slice A n c] ∧ Intss w A n xss := by
  obtain ⟨v0, v1, y0, y1, n, rfl, _, _, k0, k1⟩ := open_agg2 hs hone hC hv h
  rw [h0] at k0
  rw [h1] at k1
  obtain ⟨A, n, c, xs, rfl, hints⟩ := rows_cells ht he hq ce cq k1
  obtain ⟨b, hb, _, _⟩ := DataW.trod_int hi k0
  simp at hb
  subst hb
  exact ⟨A, n, c, xs, b, rfl, hints⟩
/-- A struct of rows alone. -/
theorem rows1_open {t ts te tq : TypeId} {f0 : Field} {v : Value} {d : DataW H} {p : List MemPlace} (hs : P.underlying t = some (.struct #[f0])) (hone : oneCellFields P #[f0] = true) (hC : P.cellsOf t = 1)
    (h0 : f0.type = ts) (ht : P.underlying ts = some (.slice te)) (he : P.underlying te = some (.slice tq)) (hq : P.underlying tq = some (.int .i64)) (ce : P.cellsOf te = 1) (cq : P.cellsOf tq = 1)
    (hv : Value.okWide P w r b0 t v) (h : DataW.Trod enc P w 0 (fun _ => true) held t v d p) : ∃ A n c xss, v = .agg #[.slice A n c] ∧ Intss w A n xss := by
  obtain ⟨cs, rfl, hsz⟩ := okWide_struct hs hv
  have hsz1 : cs.size = 1 := hsz.trans hC
  obtain ⟨c0, rfl⟩ : ∃ c0, cs = #[c0] := ⟨cs[0], by apply Array.ext; simp [hsz1]; intro i h1 h2; simp at h2; subst h2; rfl⟩
  obtain ⟨fuel, hf⟩ := h
  obtain ⟨y0, n, hx, _, k0⟩ := trod_struct1 hs hf
  obtain ⟨o0, q0⟩ := hone_of hone 0 f0 rfl
  have k1 : DataW.trod enc P w 0 (fun _ => true) held n f0.type [c0] = some y0 := by simpa [Value.cells, o0, q0] using k0
  rw [h0] at k1
  obtain ⟨A, n, c, xs, rfl, hints⟩ := rows_cells ht he hq ce cq k1
  exact ⟨A, n, c, xs, rfl, hints⟩
end
end Go.Proofs.Ytaigjmbhgpcalaa

/-
  Helpers; no condition.
-/
namespace Go.Proofs.Ytaigjmbhgpcalaa
set_option linter.unusedSimpArgs false
set_option linter.unusedVariables false
open Go.RowKit

set_option maxHeartbeats 400000 in
theorem l1In_c (x a b : Int) (w : World) :
    Calls Try.prog 62 #[.int .i64 x, .int .i64 a, .int .i64 b] w fun e w' => e = .returned (.bool (within x a b)) ∧ w = w' := by
  go_enter Try.func62, Try.ntmps62
  go_wp2
  all_goals (go_ret; exact ⟨ret_bool (by simp [within]; try omega), rfl⟩)
set_option maxHeartbeats 400000 in
theorem within_c (x a b : Int) (w : World) :
    Calls Try.prog 44 #[.int .i64 x, .int .i64 a, .int .i64 b] w fun e w' => e = .returned (.bool (within x a b)) ∧ w = w' := by
  go_enter Try.func44, Try.ntmps44
  go_wp2
  all_goals (go_ret; exact ⟨ret_bool (by simp [within]; try omega), rfl⟩)
theorem l2Vars_c (x : Int) (w : World) :
    Calls Try.prog 73 #[.int .i64 x] w fun e w' => e = .returned (.bool (within x 0 12)) ∧ w = w' := by
  go_enter Try.func73, Try.ntmps73
  go_wp2_with (go_at_call 62; refine (l1In_c _ _ _ _).mono ?_; rintro e w' ⟨rfl, rfl⟩)
  go_ret; exact ⟨rfl, rfl⟩
theorem varsOk_c (x : Int) (w : World) :
    Calls Try.prog 66 #[.int .i64 x] w fun e w' => e = .returned (.bool (within x 0 12)) ∧ w = w' := by
  go_enter Try.func66, Try.ntmps66
  go_wp2_with (go_at_call 44; refine (within_c _ _ _ _).mono ?_; rintro e w' ⟨rfl, rfl⟩)
  go_ret; exact ⟨rfl, rfl⟩
theorem l2Lit_c (x v : Int) (w : World) :
    Calls Try.prog 74 #[.int .i64 x, .int .i64 v] w fun e w' => e = .returned (.bool (isLit x v)) ∧ w = w' := by
  go_enter Try.func74, Try.ntmps74
  go_wp2_with (go_at_call 62; refine (l1In_c _ _ _ _).mono ?_; rintro e w' ⟨rfl, rfl⟩)
  all_goals (go_ret; exact ⟨ret_bool (by simp_all [isLit]), rfl⟩)
theorem isLiteral_c (x v : Int) (w : World) :
    Calls Try.prog 79 #[.int .i64 x, .int .i64 v] w fun e w' => e = .returned (.bool (isLit x v)) ∧ w = w' := by
  go_enter Try.func79, Try.ntmps79
  go_wp2_with (go_at_call 44; refine (within_c _ _ _ _).mono ?_; rintro e w' ⟨rfl, rfl⟩)
  all_goals (go_ret; exact ⟨ret_bool (by simp_all [isLit]), rfl⟩)
theorem l2Var_c (v : Int) (w : World) :
    Calls Try.prog 75 #[.int .i64 v] w fun e w' => e = .returned (.int .i64 (absW v)) ∧ w = w' := by
  go_enter Try.func75, Try.ntmps75
  go_wp2
  all_goals (go_ret; exact ⟨ret_int (by simp_all [absW]; try omega), rfl⟩)
theorem abs_c (v : Int) (w : World) :
    Calls Try.prog 80 #[.int .i64 v] w fun e w' => e = .returned (.int .i64 (absW v)) ∧ w = w' := by
  go_enter Try.func80, Try.ntmps80
  go_wp2
  all_goals (go_ret; exact ⟨ret_int (by rw [absW_max]; omega), rfl⟩)
theorem power3_c (n : Nat) (w : World) (hn : n ≤ 6) :
    Calls Try.prog 60 #[.int .i64 n] w fun e w' => e = .returned (.int .i64 (pow3 n)) ∧ w = w' := by
  go_enter Try.func60, Try.ntmps60
  go_wp2
  refine wp_loop (fun acT wr => ∃ s0 s1 s2 s3 s4 s5 s6 s7 s8 s9 s10 : Value, (s4 = .int .i64 n ∧ (wr = w ∧ ∃ k : Nat, k ≤ n ∧ s5 = .int .i64 (k : Int) ∧ s3 = .int .i64 (pow3 k))) ∧ acT = ⟨#[s0, s1, s2, s3, s4, s5, s6, s7, s8, s9, s10], []⟩) (fun acT wr => (fun (s5 : Value) (wr : World) => n - (intOf s5).toNat) (acT.tmps.getD 5 undef) wr) ?_ ?_
  · (refine ⟨_, _, _, _, _, _, _, _, _, _, _, ⟨rfl, ?_⟩, rfl⟩; exact ⟨rfl, 0, Nat.zero_le _, rfl, rfl⟩)
  intro _ wr hinv; obtain ⟨s0, s1, s2, s3, s4, s5, s6, s7, s8, s9, s10, ⟨rfl, hrel⟩, rfl⟩ := hinv; (try dsimp only)
  obtain ⟨rfl, k, hk, rfl, rfl⟩ := hrel
  have hb : pow3 k ≤ 729 := by have := pow3_mono (show k ≤ 6 by omega); have hb6 : pow3 6 = 729 := rfl; omega
  by_cases hlt : k < n
  · go_wp2
    exact ⟨⟨(by first | trivial | rfl), (by first | trivial | rfl), k + 1, by omega, by go_num, by simp only [pow3] <;> go_num⟩, (by simp [intOf] <;> omega)⟩
  · obtain rfl : k = n := by omega
    go_wp2
    go_ret; exact ⟨rfl, rfl⟩
end Go.Proofs.Ytaigjmbhgpcalaa
