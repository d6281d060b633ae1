/-
  Cnfs: which are valid; which bits make one true.
-/
import Derived.Test.YtjlnlicojcfpiaaDoorC5
import Derived.Test.YtjlnlicojcfpiaaDoorC6
import Derived.Test.YtjlnlicojcfpiaaDoorC8
import Derived.Test.YtjlnlicojcfpiaaDoorC12
import Derived.Test.YtjlnlicojcfpiaaDoorC15
namespace Go.Proofs.YtjlnlicojcfpiaaDoor
set_option linter.unusedSimpArgs false
set_option linter.unusedVariables false
open Go.RowKit

def cnfOk (v : Int) (cls : List (List Int)) : Bool := within v 0 12 && decide (cls.length ≤ 60) && cls.all (clauseOk v)
theorem cnf_facts {v : Int} {cls : List (List Int)} (h : cnfOk v cls = true) : (0 ≤ v ∧ v ≤ 12) ∧ cls.length ≤ 60 ∧ ∀ c ∈ cls, clauseOk v c = true := by
  obtain ⟨h1, h2, h3⟩ := and3_true h
  exact ⟨within_true h1, by simpa using h2, fun c hc => List.all_eq_true.1 h3 c hc⟩
theorem cnf_lits {v : Int} {cls : List (List Int)} (h : cnfOk v cls = true) : ∀ c ∈ cls, c.length ≤ 12 ∧ ∀ x ∈ c, -12 ≤ x ∧ x ≤ 12 ∧ x ≠ 0 := by
  obtain ⟨hv, _, hc⟩ := cnf_facts h
  intro c hcc
  obtain ⟨_, h2, h3⟩ := clause_facts (hc c hcc)
  exact ⟨by omega, fun x hx => by have := h2 x hx; omega⟩

set_option maxRecDepth 100000 in
set_option maxHeartbeats 800000 in
theorem l2Good_c (v : Int) (A : Option Addr) (n d : Nat) (cls : List (List Int)) (w : World) (h : Intss w A n cls) :
    Calls Tryd.prog 14 #[.agg #[.int .i64 v, .slice A n d]] w fun e w' => e = .returned (.bool (cnfOk v cls)) ∧ Ext w w' := by
  have hb := h.bound
  have HL := hide h.len
  cases hv : within v 0 12
  · have hf : cnfOk v cls = false := by simp [cnfOk, hv]
    rw [hf]; clear hf
    have HV := hide hv
    clear hv
    go_enter Tryd.func14, Tryd.ntmps14
    go_wp2_with (go_at_call 26; refine (l2Vars_c _ _).mono ?_; rw [HV.out]; rintro e w' ⟨rfl, rfl⟩)
    go_ret; exact ⟨rfl, by (repeat (first | with_reducible exact Ext.refl _ | with_reducible assumption | ((with_reducible refine Ext.setCell ?_ ?_ _); rotate_left; focus (first | omega | (simp <;> omega))) | with_reducible refine Ext.alloc ?_ _ | with_reducible refine Ext.drewN ?_ _ | with_reducible refine Ext.drew ?_ | with_reducible refine Ext.trans ?_ (by with_reducible assumption)))⟩
  · have HV := hide hv
    by_cases hn : n ≤ 60
    · have hf : cnfOk v cls = cls.all (clauseOk v) := by have := h.len; simp [cnfOk, hv]; omega
      rw [hf]; clear hf hv
      go_enter Tryd.func14, Tryd.ntmps14
      go_wp2_with (go_at_call 26; refine (l2Vars_c _ _).mono ?_; rw [HV.out]; rintro e w' ⟨rfl, rfl⟩)
      refine wp_loopK _ rfl (fun KK acT wr => ∃ s0 s1 s2 s3 s4 s5 s6 s7 s8 s9 s10 s11 s12 s13 s14 s15 s16 s17 s18 s19 s20 s21 s22 s23 s24 s25 s26 s27 s28 s29 : Value, (KeptM [false, true, false, false, false, false, false, false, false, false, false, false, false, false, false, false, false, false, false, false, false, false, false, false, false, false, false, false, false, false] [s0, s1, s2, s3, s4, s5, s6, s7, s8, s9, s10, s11, s12, s13, s14, s15, s16, s17, s18, s19, s20, s21, s22, s23, s24, s25, s26, s27, s28, s29] KK ∧ (Ext (w.alloc (.cells #[.int .i64 v, .slice A n d] 28)) wr ∧ ∃ i : Nat, i ≤ n ∧ s3 = .int .i64 i ∧ Hid ((cls.take i).all (clauseOk v) = true))) ∧ acT = ⟨#[s0, s1, s2, s3, s4, s5, s6, s7, s8, s9, s10, s11, s12, s13, s14, s15, s16, s17, s18, s19, s20, s21, s22, s23, s24, s25, s26, s27, s28, s29], []⟩) (fun acT wr => (fun (s3 : Value) (wr : World) => n - (intOf s3).toNat) (acT.tmps.getD 3 undef) wr) ?_ ?_
      · (refine ⟨_, _, _, _, _, _, _, _, _, _, _, _, _, _, _, _, _, _, _, _, _, _, _, _, _, _, _, _, _, _, ⟨(by (repeat (first | exact trivial | refine ⟨rfl, ?_⟩))), ?_⟩, rfl⟩; exact ⟨Ext.refl _, 0, by omega, rfl, by simp [Hid]⟩)
      intro _ wr hinv; obtain ⟨s0, s1, s2, s3, s4, s5, s6, s7, s8, s9, s10, s11, s12, s13, s14, s15, s16, s17, s18, s19, s20, s21, s22, s23, s24, s25, s26, s27, s28, s29, ⟨hkept, hrel⟩, rfl⟩ := hinv; simp only [KeptM] at hkept; obtain ⟨rfl, -⟩ := hkept; (try dsimp only)
      obtain ⟨he, i, hi, rfl, hq⟩ := hrel
      have b0 := he.box 0 _ rfl
      have b1 := he.box 1 _ rfl
      by_cases hlt : i < n
      · obtain ⟨ad, c, B, m, q, rfl, hx, hc, hin⟩ := (h.ext (w' := wr) (by (repeat (first | with_reducible exact Ext.refl _ | with_reducible assumption | ((with_reducible refine Ext.setCell ?_ ?_ _); rotate_left; focus (first | omega | (simp <;> omega))) | with_reducible refine Ext.alloc ?_ _ | with_reducible refine Ext.drewN ?_ _ | with_reducible refine Ext.drew ?_ | with_reducible refine Ext.trans ?_ (by with_reducible assumption))))).at_ hlt
        cases hcl : clauseOk v c
        · have HP := hide (all_false_of hx hcl)
          have HC := hide hcl
          clear hcl
          have hed := (Ext.refl wr).drew
          go_wp2
          go_region_held3 (fun w' => w'.cell? ⟨w.heap.size, 0, none⟩ = some (.int .i64 v) ∧ w'.cell? ⟨w.heap.size, 1, none⟩ = some (.slice (some ad) n d) ∧ w'.cell? (ad.add i) = some (.slice B m q)) (simp [go_sem, *]) (first | (go_at_call 27; refine (l2Clause_c _ _ _ _ c _ (hin.ext (by (repeat (first | with_reducible exact Ext.refl _ | with_reducible assumption | ((with_reducible refine Ext.setCell ?_ ?_ _); rotate_left; focus (first | omega | (simp <;> omega))) | with_reducible refine Ext.alloc ?_ _ | with_reducible refine Ext.drewN ?_ _ | with_reducible refine Ext.drew ?_ | with_reducible refine Ext.trans ?_ (by with_reducible assumption)))))).mono ?_; rw [HC.out]; rintro e w1 ⟨rfl, he1⟩; have g3 := hed.trans he1; have g0 := g3.cell b0; have g1 := g3.cell b1; have g2 := g3.cell hc))
          go_wp2
          go_ret; exact ⟨ret_bool HP.out.symm, by (repeat (first | with_reducible exact Ext.refl _ | with_reducible assumption | ((with_reducible refine Ext.setCell ?_ ?_ _); rotate_left; focus (first | omega | (simp <;> omega))) | with_reducible refine Ext.alloc ?_ _ | with_reducible refine Ext.drewN ?_ _ | with_reducible refine Ext.drew ?_ | with_reducible refine Ext.trans ?_ (by with_reducible assumption)))⟩
        · have hq2 := all_take_succ hx hq hcl
          have HC := hide hcl
          clear hcl
          have hed := (Ext.refl wr).drew
          go_wp2
          go_region_held3 (fun w' => w'.cell? ⟨w.heap.size, 0, none⟩ = some (.int .i64 v) ∧ w'.cell? ⟨w.heap.size, 1, none⟩ = some (.slice (some ad) n d) ∧ w'.cell? (ad.add i) = some (.slice B m q)) (simp [go_sem, *]) (first | (go_at_call 27; refine (l2Clause_c _ _ _ _ c _ (hin.ext (by (repeat (first | with_reducible exact Ext.refl _ | with_reducible assumption | ((with_reducible refine Ext.setCell ?_ ?_ _); rotate_left; focus (first | omega | (simp <;> omega))) | with_reducible refine Ext.alloc ?_ _ | with_reducible refine Ext.drewN ?_ _ | with_reducible refine Ext.drew ?_ | with_reducible refine Ext.trans ?_ (by with_reducible assumption)))))).mono ?_; rw [HC.out]; rintro e w1 ⟨rfl, he1⟩; have g3 := hed.trans he1; have g0 := g3.cell b0; have g1 := g3.cell b1; have g2 := g3.cell hc))
          go_wp2
          exact ⟨⟨(by (repeat (first | exact trivial | refine ⟨rfl, ?_⟩))), he.trans g3, i + 1, by omega, by go_num, hq2⟩, (by simp [intOf] <;> omega)⟩
      · obtain rfl : i = n := by omega
        go_wp2
        go_ret; exact ⟨ret_bool (all_take_all hq (by rw [HL.out]; exact Nat.le_refl _)).symm, by (repeat (first | with_reducible exact Ext.refl _ | with_reducible assumption | ((with_reducible refine Ext.setCell ?_ ?_ _); rotate_left; focus (first | omega | (simp <;> omega))) | with_reducible refine Ext.alloc ?_ _ | with_reducible refine Ext.drewN ?_ _ | with_reducible refine Ext.drew ?_ | with_reducible refine Ext.trans ?_ (by with_reducible assumption)))⟩
    · have hf : cnfOk v cls = false := by have := h.len; simp [cnfOk, hv]; omega
      rw [hf]; clear hf hv
      go_enter Tryd.func14, Tryd.ntmps14
      go_wp2_with (go_at_call 26; refine (l2Vars_c _ _).mono ?_; rw [HV.out]; rintro e w' ⟨rfl, rfl⟩)
      go_ret; exact ⟨rfl, by (repeat (first | with_reducible exact Ext.refl _ | with_reducible assumption | ((with_reducible refine Ext.setCell ?_ ?_ _); rotate_left; focus (first | omega | (simp <;> omega))) | with_reducible refine Ext.alloc ?_ _ | with_reducible refine Ext.drewN ?_ _ | with_reducible refine Ext.drew ?_ | with_reducible refine Ext.trans ?_ (by with_reducible assumption)))⟩
set_option maxRecDepth 100000 in
set_option maxHeartbeats 800000 in
theorem IsCnf_c (v : Int) (A : Option Addr) (n d : Nat) (cls : List (List Int)) (w : World) (h : Intss w A n cls) :
    Calls Tryd.prog 19 #[.agg #[.int .i64 v, .slice A n d]] w fun e w' => e = .returned (.bool (cnfOk v cls)) ∧ Ext w w' := by
  have hb := h.bound
  have HL := hide h.len
  go_enter Tryd.func19, Tryd.ntmps19
  go_wp2
  refine wp_loopK _ rfl (fun KK acT wr => ∃ s0 s1 s2 s3 s4 s5 s6 s7 s8 s9 s10 s11 s12 s13 s14 s15 s16 s17 s18 s19 s20 s21 s22 s23 s24 s25 s26 : Value, (KeptM [false, true, false, true, false, false, true, true, false, false, false, false, false, false, false, false, false, false, true, true, true, true, true, true, true, true, true] [s0, s1, s2, s3, s4, s5, s6, s7, s8, s9, s10, s11, s12, s13, s14, s15, s16, s17, s18, s19, s20, s21, s22, s23, s24, s25, s26] KK ∧ (Ext (w.alloc (.cells #[.int .i64 v, .slice A n d] 28)) wr ∧ ∃ i : Nat, i ≤ n ∧ s8 = .int .i64 i ∧ Hid ((cls.take i).all (clauseOk v) = true))) ∧ acT = ⟨#[s0, s1, s2, s3, s4, s5, s6, s7, s8, s9, s10, s11, s12, s13, s14, s15, s16, s17, s18, s19, s20, s21, s22, s23, s24, s25, s26], []⟩) (fun acT wr => (fun (s8 : Value) (wr : World) => n - (intOf s8).toNat) (acT.tmps.getD 8 undef) wr) ?_ ?_
  · (refine ⟨_, _, _, _, _, _, _, _, _, _, _, _, _, _, _, _, _, _, _, _, _, _, _, _, _, _, _, ⟨(by (repeat (first | exact trivial | refine ⟨rfl, ?_⟩))), ?_⟩, rfl⟩; exact ⟨Ext.refl _, 0, by omega, rfl, by simp [Hid]⟩)
  intro _ wr hinv; obtain ⟨s0, s1, s2, s3, s4, s5, s6, s7, s8, s9, s10, s11, s12, s13, s14, s15, s16, s17, s18, s19, s20, s21, s22, s23, s24, s25, s26, ⟨hkept, hrel⟩, rfl⟩ := hinv; simp only [KeptM] at hkept; obtain ⟨rfl, rfl, rfl, rfl, rfl, rfl, rfl, rfl, rfl, rfl, rfl, rfl, rfl, -⟩ := hkept; (try dsimp only)
  obtain ⟨he, i, hi, rfl, hq⟩ := hrel
  have b0 := he.box 0 _ rfl
  have b1 := he.box 1 _ rfl
  by_cases hlt : i < n
  · obtain ⟨ad, c, B, m, q, rfl, hx, hc, hin⟩ := (h.ext (w' := wr) (by (repeat (first | with_reducible exact Ext.refl _ | with_reducible assumption | ((with_reducible refine Ext.setCell ?_ ?_ _); rotate_left; focus (first | omega | (simp <;> omega))) | with_reducible refine Ext.alloc ?_ _ | with_reducible refine Ext.drewN ?_ _ | with_reducible refine Ext.drew ?_ | with_reducible refine Ext.trans ?_ (by with_reducible assumption))))).at_ hlt
    cases hcl : clauseOk v c
    · have HP := hide (all_false_of hx hcl)
      have HC := hide hcl
      clear hcl
      go_wp2_with (go_at_call 31; refine (IsClause_c _ _ _ _ c _ hin).mono ?_; rw [HC.out]; rintro e w1 ⟨rfl, he1⟩)
      go_ret; exact ⟨ret_bool (by simp [cnfOk, HP.out]), by (repeat (first | with_reducible exact Ext.refl _ | with_reducible assumption | ((with_reducible refine Ext.setCell ?_ ?_ _); rotate_left; focus (first | omega | (simp <;> omega))) | with_reducible refine Ext.alloc ?_ _ | with_reducible refine Ext.drewN ?_ _ | with_reducible refine Ext.drew ?_ | with_reducible refine Ext.trans ?_ (by with_reducible assumption)))⟩
    · have hq2 := all_take_succ hx hq hcl
      have HC := hide hcl
      clear hcl
      go_wp2_with (go_at_call 31; refine (IsClause_c _ _ _ _ c _ hin).mono ?_; rw [HC.out]; rintro e w1 ⟨rfl, he1⟩)
      exact ⟨⟨(by (repeat (first | exact trivial | refine ⟨rfl, ?_⟩))), he.trans he1, i + 1, by omega, by go_num, hq2⟩, (by simp [intOf] <;> omega)⟩
  · obtain rfl : i = n := by omega
    have hall := hide (all_take_all hq (by rw [HL.out]; exact Nat.le_refl _))
    have hf : Hid (cnfOk v cls = (within v 0 12 && decide (i ≤ 60))) := hide (by have := HL.out; simp [cnfOk, hall.out, ← this])
    cases hv : within v 0 12
    · have HV := hide hv
      clear hv
      go_wp2_with (go_at_call 32; refine (varsOk_c _ _).mono ?_; rw [HV.out]; rintro e w' ⟨rfl, rfl⟩)
      go_ret; exact ⟨ret_bool (by rw [hf.out, HV.out]; rfl), by (repeat (first | with_reducible exact Ext.refl _ | with_reducible assumption | ((with_reducible refine Ext.setCell ?_ ?_ _); rotate_left; focus (first | omega | (simp <;> omega))) | with_reducible refine Ext.alloc ?_ _ | with_reducible refine Ext.drewN ?_ _ | with_reducible refine Ext.drew ?_ | with_reducible refine Ext.trans ?_ (by with_reducible assumption)))⟩
    · have HV := hide hv
      clear hv
      by_cases hn : i ≤ 60
      · go_wp2_with (go_at_call 32; refine (varsOk_c _ _).mono ?_; rw [HV.out]; rintro e w' ⟨rfl, rfl⟩)
        go_ret; exact ⟨ret_bool (by rw [hf.out, HV.out]; simp [hn] <;> omega), by (repeat (first | with_reducible exact Ext.refl _ | with_reducible assumption | ((with_reducible refine Ext.setCell ?_ ?_ _); rotate_left; focus (first | omega | (simp <;> omega))) | with_reducible refine Ext.alloc ?_ _ | with_reducible refine Ext.drewN ?_ _ | with_reducible refine Ext.drew ?_ | with_reducible refine Ext.trans ?_ (by with_reducible assumption)))⟩
      · go_wp2_with (go_at_call 32; refine (varsOk_c _ _).mono ?_; rw [HV.out]; rintro e w' ⟨rfl, rfl⟩)
        go_ret; exact ⟨ret_bool (by rw [hf.out, HV.out]; simp [hn] <;> omega), by (repeat (first | with_reducible exact Ext.refl _ | with_reducible assumption | ((with_reducible refine Ext.setCell ?_ ?_ _); rotate_left; focus (first | omega | (simp <;> omega))) | with_reducible refine Ext.alloc ?_ _ | with_reducible refine Ext.drewN ?_ _ | with_reducible refine Ext.drew ?_ | with_reducible refine Ext.trans ?_ (by with_reducible assumption)))⟩

/-! ### Bits -/
def litTrue (b : Nat) (l : Int) : Bool := b.testBit (l.natAbs - 1) == decide (0 < l)
def clTrue (b : Nat) (c : List Int) : Bool := c.any (litTrue b)
def allTrue (cls : List (List Int)) (b : Nat) : Bool := cls.all (clTrue b)
def satB (v : Nat) (cls : List (List Int)) : Bool := (List.range (2 ^ v)).any (allTrue cls)
theorem litTrue_pos (b u : Nat) : litTrue b ((u : Int) + 1) = b.testBit u := by
  unfold litTrue
  rw [show (((u : Int) + 1).natAbs - 1) = u by omega, decide_eq_true (by omega)]; simp
theorem litTrue_neg (b u : Nat) : litTrue b (-((u : Int) + 1)) = !b.testBit u := by
  unfold litTrue
  rw [show ((-((u : Int) + 1)).natAbs - 1) = u by omega, decide_eq_false (by omega)]; simp
theorem any_range_succ {p : Nat → Bool} {k : Nat} (h : Hid ((List.range k).any p = false)) (hp : p k = false) : Hid ((List.range (k + 1)).any p = false) := by
  have h := h.out
  unfold Hid
  rw [List.range_succ, List.any_append, h]; simp [hp]
theorem any_range_true {p : Nat → Bool} {n k : Nat} (hk : k < n) (hp : p k = true) : (List.range n).any p = true := List.any_eq_true.2 ⟨k, by simpa using hk, hp⟩
/-- A literal is plus or minus a variable. -/
theorem lit_cases {x : Int} (h : -12 ≤ x ∧ x ≤ 12 ∧ x ≠ 0) : ∃ u : Nat, u ≤ 11 ∧ (x = (u : Int) + 1 ∨ x = -((u : Int) + 1)) := ⟨x.natAbs - 1, by omega, by omega⟩

end Go.Proofs.YtjlnlicojcfpiaaDoor
