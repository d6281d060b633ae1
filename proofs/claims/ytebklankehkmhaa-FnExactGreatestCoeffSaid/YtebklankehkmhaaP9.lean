/-
  The reference's l16Correct at every step; the first bad step, on both sides; no condition.
-/
import Derived.Test.YtebklankehkmhaaP7
import Derived.Test.YtebklankehkmhaaP80
import Derived.Test.YtebklankehkmhaaP81
import Derived.Test.YtebklankehkmhaaP82
import Derived.Test.YtebklankehkmhaaP83
import Derived.Test.YtebklankehkmhaaP84
import Derived.Test.YtebklankehkmhaaP85
import Derived.Test.YtebklankehkmhaaP86
namespace Go.Proofs.Ytebklankehkmhaa
set_option linter.unusedSimpArgs false
set_option linter.unusedVariables false
open Go.RowKit
set_option maxRecDepth 100000 in
theorem l16Correct_no (v : Nat) (C : Option Addr) (nc dc : Nat) (A : Option Addr) (n c k : Nat) (ss : List Ps) (w : World) (h : Steps w A n ss) (hk : k < n) (hn : n ≤ 400) (hv : v ≤ 12) {xs : List Int} {bd kd a b q : Int} (hx0 : ss[k]? = some (xs, bd, kd, a, b, q)) (hok : ineqOk v bd xs = false) :
    Calls Try.prog 70 #[.agg #[.int .i64 v, .slice C nc dc], .slice A n c, .int .i64 k] w fun e w' => e = .returned (.bool false) ∧ Ext w w' := by
  obtain ⟨g, xs', m, B, e, bd', kd', a', b', q', rfl, hx, c0, hin0, c1, c2, c3, c4, c5⟩ := h.at_ hk
  have hh := hx0.symm.trans hx.out
  simp only [Option.some.injEq, Prod.mk.injEq] at hh
  obtain ⟨rfl, rfl, rfl, rfl, rfl, rfl⟩ := hh
  clear hx hx0
  have hvw : within (v : Int) 0 12 = true := by simp [within]; omega
  have HP1 := hide (fun W (E : Ext w W) => l16Plane_okP v bd B m e xs W (hin0.ext E) hvw)
  rw [hok] at HP1
  clear hok
  have dd0 := ((Ext.refl w).alloc (.cells #[.int .i64 v, .slice C nc dc] 41)).cell c0
  have dd1 := ((Ext.refl w).alloc (.cells #[.int .i64 v, .slice C nc dc] 41)).cell c1
  have dd2 := ((Ext.refl w).alloc (.cells #[.int .i64 v, .slice C nc dc] 41)).cell c2
  have dd3 := ((Ext.refl w).alloc (.cells #[.int .i64 v, .slice C nc dc] 41)).cell c3
  have dd4 := ((Ext.refl w).alloc (.cells #[.int .i64 v, .slice C nc dc] 41)).cell c4
  have dd5 := ((Ext.refl w).alloc (.cells #[.int .i64 v, .slice C nc dc] 41)).cell c5
  go_enter Try.func70, Try.ntmps70
  go_wp2_with fail
  refine (HP1.out _ (by (repeat (first | with_reducible exact Ext.refl _ | with_reducible assumption | ((with_reducible refine Ext.setCell ?_ ?_ _); rotate_left; focus (first | omega | (simp <;> omega))) | with_reducible refine Ext.alloc ?_ _ | with_reducible refine Ext.drewN ?_ _ | with_reducible refine Ext.drew ?_ | with_reducible refine Ext.trans ?_ (by with_reducible assumption))))).mono ?_
  rintro e1 w1 ⟨rfl, he1⟩
  go_wp2_with fail
  go_ret
  exact ⟨rfl, Ext.trans (by (repeat (first | with_reducible exact Ext.refl _ | with_reducible assumption | ((with_reducible refine Ext.setCell ?_ ?_ _); rotate_left; focus (first | omega | (simp <;> omega))) | with_reducible refine Ext.alloc ?_ _ | with_reducible refine Ext.drewN ?_ _ | with_reducible refine Ext.drew ?_ | with_reducible refine Ext.trans ?_ (by with_reducible assumption)))) he1⟩
theorem l16Correct_c (v : Nat) (C : Option Addr) (nc dc : Nat) (cls : List (List Int)) (A : Option Addr) (n c k : Nat) (ss : List Ps) (w : World) (h : Steps w A n ss) (hcl : Intss w C nc cls) (hk : k < n) (hn : n ≤ 400) (hgood : cnfOk v cls = true) :
    Calls Try.prog 70 #[.agg #[.int .i64 v, .slice C nc dc], .slice A n c, .int .i64 k] w fun e w' => e = .returned (.bool (stepB v cls ss k)) ∧ Ext w w' := by
  obtain ⟨xs, bd, kd, a, b, q, hx0⟩ : ∃ xs bd kd a b q, ss[k]? = some (xs, bd, kd, a, b, q) := by
    obtain ⟨g, xs, m, B, e, bd, kd, a, b, q, -, hx, -⟩ := h.at_ hk
    exact ⟨xs, bd, kd, a, b, q, hx.out⟩
  rw [dueB_step hx0]
  cases hok : ineqOk v bd xs
  · exact l16Correct_no v C nc dc A n c k ss w h hk hn (by have := (cnf_facts hgood).1; omega) hx0 hok
  rw [Bool.true_and]
  by_cases h1 : kd = 1
  · subst h1; exact l16Correct_k1 v C nc dc cls A n c k ss w h hcl hk hn hgood hx0 hok
  by_cases h2 : kd = 2
  · subst h2; exact l16Correct_k2 v C nc dc cls A n c k ss w h hcl hk hn hgood hx0 hok
  by_cases h3 : kd = 3
  · subst h3; exact l16Correct_k3 v C nc dc cls A n c k ss w h hcl hk hn hgood hx0 hok
  by_cases h4 : kd = 4
  · subst h4; exact l16Correct_k4 v C nc dc cls A n c k ss w h hcl hk hn hgood hx0 hok
  by_cases h5 : kd = 5
  · subst h5; exact l16Correct_k5 v C nc dc cls A n c k ss w h hcl hk hn hgood hx0 hok
  by_cases h6 : kd = 6
  · subst h6; exact l16Correct_k6 v C nc dc cls A n c k ss w h hcl hk hn hgood hx0 hok
  rw [due_no h1 h2 h3 h4 h5 h6]
  exact l16Correct_other v C nc dc cls A n c k ss w h hcl hk hn hgood hx0 hok h1 h2 h3 h4 h5 h6
theorem badFrom_end {v : Nat} {cls : List (List Int)} {ss : List Ps} {k : Nat} : badFrom v cls ss k 0 = -1 := rfl
set_option maxRecDepth 100000 in
set_option maxHeartbeats 1600000 in
theorem l16First_c (v : Nat) (C : Option Addr) (nc dc : Nat) (cls : List (List Int)) (A : Option Addr) (n c : Nat) (ss : List Ps) (w : World) (h : Steps w A n ss) (hcl : Intss w C nc cls) (hn : n ≤ 400) (hgood : cnfOk v cls = true) :
    Calls Try.prog 76 #[.agg #[.int .i64 v, .slice C nc dc], .slice A n c] w fun e w' => e = .returned (.int .i64 (firstBad v cls ss)) ∧ Ext w w' := by
  have hF : firstBad v cls ss = badFrom v cls ss 0 n := by unfold firstBad; rw [h.len]
  obtain ⟨F, hFF⟩ : ∃ F, F = firstBad v cls ss := ⟨_, rfl⟩
  rw [← hFF]
  rw [← hFF] at hF
  clear hFF
  have HC := hide (fun (k : Nat) (hk : k < n) W (E : Ext w W) => l16Correct_c v C nc dc cls A n c k ss W (h.ext E) (hcl.ext E) hk hn hgood)
  clear hgood
  go_enter Try.func76, Try.ntmps76
  go_wp2
  refine wp_loopK _ rfl (fun KK acT wr => ∃ s0 s1 s2 s3 s4 s5 s6 s7 s8 s9 s10 s11 s12 s13 s14 s15 s16 s17 : Value, (KeptM [false, true, true, false, false, false, false, false, false, false, false, false, false, false, false, false, false, false] [s0, s1, s2, s3, s4, s5, s6, s7, s8, s9, s10, s11, s12, s13, s14, s15, s16, s17] KK ∧ (Ext (w.alloc (.cells #[.int .i64 v, .slice C nc dc] 41)) wr ∧ ∃ i : Nat, i ≤ n ∧ s5 = .int .i64 i ∧ Hid (F = badFrom v cls ss i (n - i)))) ∧ acT = ⟨#[s0, s1, s2, s3, s4, s5, s6, s7, s8, s9, s10, s11, s12, s13, s14, s15, s16, s17], []⟩) (fun acT wr => (fun (s5 : Value) (wr : World) => n - (intOf s5).toNat) (acT.tmps.getD 5 undef) wr) ?_ ?_
  · (refine ⟨_, _, _, _, _, _, _, _, _, _, _, _, _, _, _, _, _, _, ⟨(by (repeat (first | exact trivial | refine ⟨rfl, ?_⟩))), ?_⟩, rfl⟩; exact ⟨Ext.refl _, 0, by omega, rfl, hF⟩)
  intro _ wr hinv; obtain ⟨s0, s1, s2, s3, s4, s5, s6, s7, s8, s9, s10, s11, s12, s13, s14, s15, s16, s17, ⟨hkept, hrel⟩, rfl⟩ := hinv; simp only [KeptM] at hkept; obtain ⟨rfl, rfl, -⟩ := hkept; (try dsimp only)
  obtain ⟨he, i, hi, hs, hq⟩ := hrel
  subst hs
  have b0 := he.box 0 _ rfl
  have b1 := he.box 1 _ rfl
  by_cases hlt : i < n
  · have HC1 := hide (HC.out i hlt)
    cases hb : stepB v cls ss i
    · rw [hb] at HC1
      have hq2 : Hid ((i : Int) = F) := hide (by rw [hq.out, show n - i = (n - i - 1) + 1 by omega, badFrom_miss hb])
      clear hb
      go_wp2_with fail
      refine (HC1.out _ (by (repeat (first | with_reducible exact Ext.refl _ | with_reducible assumption | ((with_reducible refine Ext.setCell ?_ ?_ _); rotate_left; focus (first | omega | (simp <;> omega))) | with_reducible refine Ext.alloc ?_ _ | with_reducible refine Ext.drewN ?_ _ | with_reducible refine Ext.drew ?_ | with_reducible refine Ext.trans ?_ (by with_reducible assumption))))).mono ?_
      rintro e1 w1 ⟨rfl, he1⟩
      go_wp2_with fail
      go_ret
      exact ⟨ret_int hq2.out, by (repeat (first | with_reducible exact Ext.refl _ | with_reducible assumption | ((with_reducible refine Ext.setCell ?_ ?_ _); rotate_left; focus (first | omega | (simp <;> omega))) | with_reducible refine Ext.alloc ?_ _ | with_reducible refine Ext.drewN ?_ _ | with_reducible refine Ext.drew ?_ | with_reducible refine Ext.trans ?_ (by with_reducible assumption)))⟩
    · rw [hb] at HC1
      have hq2 : Hid (F = badFrom v cls ss (i + 1) (n - (i + 1))) := hide (by rw [hq.out, show n - i = (n - (i + 1)) + 1 by omega, badFrom_hit hb])
      clear hb
      go_wp2_with fail
      refine (HC1.out _ (by (repeat (first | with_reducible exact Ext.refl _ | with_reducible assumption | ((with_reducible refine Ext.setCell ?_ ?_ _); rotate_left; focus (first | omega | (simp <;> omega))) | with_reducible refine Ext.alloc ?_ _ | with_reducible refine Ext.drewN ?_ _ | with_reducible refine Ext.drew ?_ | with_reducible refine Ext.trans ?_ (by with_reducible assumption))))).mono ?_
      rintro e1 w1 ⟨rfl, he1⟩
      go_wp2_with fail
      exact ⟨⟨(by (repeat (first | exact trivial | refine ⟨rfl, ?_⟩))), he.trans he1, i + 1, by omega, by go_num, hq2⟩, (by simp [intOf] <;> omega)⟩
  · have hq2 : Hid ((-1 : Int) = F) := hide (by rw [hq.out, show n - i = 0 by omega, badFrom_end])
    go_wp2
    go_ret; exact ⟨ret_int hq2.out, by (repeat (first | with_reducible exact Ext.refl _ | with_reducible assumption | ((with_reducible refine Ext.setCell ?_ ?_ _); rotate_left; focus (first | omega | (simp <;> omega))) | with_reducible refine Ext.alloc ?_ _ | with_reducible refine Ext.drewN ?_ _ | with_reducible refine Ext.drew ?_ | with_reducible refine Ext.trans ?_ (by with_reducible assumption)))⟩
set_option maxRecDepth 100000 in
set_option maxHeartbeats 1600000 in
theorem firstBadPlane_c (v : Nat) (C : Option Addr) (nc dc : Nat) (cls : List (List Int)) (A : Option Addr) (n c : Nat) (ss : List Ps) (w : World) (h : Steps w A n ss) (hcl : Intss w C nc cls) (hn : n ≤ 400) (hgood : cnfOk v cls = true) :
    Calls Try.prog 77 #[.agg #[.int .i64 v, .slice C nc dc], .slice A n c] w fun e w' => e = .returned (.int .i64 (firstBad v cls ss)) ∧ Ext w w' := by
  have hF : firstBad v cls ss = badFrom v cls ss 0 n := by unfold firstBad; rw [h.len]
  obtain ⟨F, hFF⟩ : ∃ F, F = firstBad v cls ss := ⟨_, rfl⟩
  rw [← hFF]
  rw [← hFF] at hF
  clear hFF
  have HC := hide (fun (k : Nat) (hk : k < n) W (E : Ext w W) => planeCorrect_c v C nc dc cls A n c k ss W (h.ext E) (hcl.ext E) hk hn hgood)
  clear hgood
  go_enter Try.func77, Try.ntmps77
  go_wp2
  refine wp_loopK _ rfl (fun KK acT wr => ∃ s0 s1 s2 s3 s4 s5 s6 s7 s8 s9 s10 s11 s12 s13 s14 s15 s16 s17 : Value, (KeptM [false, true, true, false, false, false, false, true, false, false, false, false, false, false, false, false, false, false] [s0, s1, s2, s3, s4, s5, s6, s7, s8, s9, s10, s11, s12, s13, s14, s15, s16, s17] KK ∧ (Ext (w.alloc (.cells #[.int .i64 v, .slice C nc dc] 41)) wr ∧ ∃ i : Nat, i ≤ n ∧ s8 = .int .i64 i ∧ Hid (F = badFrom v cls ss i (n - i)))) ∧ acT = ⟨#[s0, s1, s2, s3, s4, s5, s6, s7, s8, s9, s10, s11, s12, s13, s14, s15, s16, s17], []⟩) (fun acT wr => (fun (s8 : Value) (wr : World) => n - (intOf s8).toNat) (acT.tmps.getD 8 undef) wr) ?_ ?_
  · (refine ⟨_, _, _, _, _, _, _, _, _, _, _, _, _, _, _, _, _, _, ⟨(by (repeat (first | exact trivial | refine ⟨rfl, ?_⟩))), ?_⟩, rfl⟩; exact ⟨Ext.refl _, 0, by omega, rfl, hF⟩)
  intro _ wr hinv; obtain ⟨s0, s1, s2, s3, s4, s5, s6, s7, s8, s9, s10, s11, s12, s13, s14, s15, s16, s17, ⟨hkept, hrel⟩, rfl⟩ := hinv; simp only [KeptM] at hkept; obtain ⟨rfl, rfl, rfl, -⟩ := hkept; (try dsimp only)
  obtain ⟨he, i, hi, hs, hq⟩ := hrel
  subst hs
  have b0 := he.box 0 _ rfl
  have b1 := he.box 1 _ rfl
  by_cases hlt : i < n
  · have HC1 := hide (HC.out i hlt)
    cases hb : stepB v cls ss i
    · rw [hb] at HC1
      have hq2 : Hid ((i : Int) = F) := hide (by rw [hq.out, show n - i = (n - i - 1) + 1 by omega, badFrom_miss hb])
      clear hb
      go_wp2_with fail
      refine (HC1.out _ (by (repeat (first | with_reducible exact Ext.refl _ | with_reducible assumption | ((with_reducible refine Ext.setCell ?_ ?_ _); rotate_left; focus (first | omega | (simp <;> omega))) | with_reducible refine Ext.alloc ?_ _ | with_reducible refine Ext.drewN ?_ _ | with_reducible refine Ext.drew ?_ | with_reducible refine Ext.trans ?_ (by with_reducible assumption))))).mono ?_
      rintro e1 w1 ⟨rfl, he1⟩
      go_wp2_with fail
      go_ret
      exact ⟨ret_int hq2.out, by (repeat (first | with_reducible exact Ext.refl _ | with_reducible assumption | ((with_reducible refine Ext.setCell ?_ ?_ _); rotate_left; focus (first | omega | (simp <;> omega))) | with_reducible refine Ext.alloc ?_ _ | with_reducible refine Ext.drewN ?_ _ | with_reducible refine Ext.drew ?_ | with_reducible refine Ext.trans ?_ (by with_reducible assumption)))⟩
    · rw [hb] at HC1
      have hq2 : Hid (F = badFrom v cls ss (i + 1) (n - (i + 1))) := hide (by rw [hq.out, show n - i = (n - (i + 1)) + 1 by omega, badFrom_hit hb])
      clear hb
      go_wp2_with fail
      refine (HC1.out _ (by (repeat (first | with_reducible exact Ext.refl _ | with_reducible assumption | ((with_reducible refine Ext.setCell ?_ ?_ _); rotate_left; focus (first | omega | (simp <;> omega))) | with_reducible refine Ext.alloc ?_ _ | with_reducible refine Ext.drewN ?_ _ | with_reducible refine Ext.drew ?_ | with_reducible refine Ext.trans ?_ (by with_reducible assumption))))).mono ?_
      rintro e1 w1 ⟨rfl, he1⟩
      go_wp2_with fail
      exact ⟨⟨(by (repeat (first | exact trivial | refine ⟨rfl, ?_⟩))), he.trans he1, i + 1, by omega, by go_num, hq2⟩, (by simp [intOf] <;> omega)⟩
  · have hq2 : Hid ((-1 : Int) = F) := hide (by rw [hq.out, show n - i = 0 by omega, badFrom_end])
    go_wp2
    go_ret; exact ⟨ret_int hq2.out, by (repeat (first | with_reducible exact Ext.refl _ | with_reducible assumption | ((with_reducible refine Ext.setCell ?_ ?_ _); rotate_left; focus (first | omega | (simp <;> omega))) | with_reducible refine Ext.alloc ?_ _ | with_reducible refine Ext.drewN ?_ _ | with_reducible refine Ext.drew ?_ | with_reducible refine Ext.trans ?_ (by with_reducible assumption)))⟩
end Go.Proofs.Ytebklankehkmhaa
