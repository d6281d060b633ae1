/-
  The exports that read one number out of a game.
-/
import Derived.Test.YtmpfhibncnamnaaC45
import Derived.Test.YtmpfhibncnamnaaC32
import Derived.Test.YtmpfhibncnamnaaG2
import Derived.OwnWalk
namespace Go.Proofs.Ytmpfhibncnamnaa
set_option linter.unusedSimpArgs false
set_option linter.unusedVariables false
open Go.RowKit

theorem results_tmp4 {fn : Func} {t u v x : Tmp} (h : fn.results = #[.tmp t, .tmp u, .tmp v, .tmp x]) (tmps : Array Value) (P : Program) (w : World) :
    (results fn tmps).run P w = .ok (.tuple #[tmps.getD t undef, tmps.getD u undef, tmps.getD v undef, tmps.getD x undef]) w := by
  simp [results, h]
def asked (v : Int) (cls : List (List Int)) (a : List Int) : Bool := takes v cls && clauseOk v a
def gameNums (v : Int) (cls : List (List Int)) : Int × Int × Int := if takes v cls then (gAll v.toNat cls).at_ 0 else (0, 0, 0)
theorem Own.of_box {w : World} {g lo N : Nat} {e : TypeId} {cs : Array Value} {us : List Value} (h : BoxAt w g e cs) (hlo : lo ≤ g) (hu : cs.toList = us) (hN : us.length = N) (hm : N ≤ 140737488355328) : Own w lo e 1 (some ⟨g, 0, none⟩) N N us := by
  subst hu
  refine ⟨by omega, .inr ⟨g, N, cs, rfl, hlo, h, Nat.le_refl _, by simp only [maxLen]; omega, by simpa using hN, ?_⟩⟩
  rw [List.take_of_length_le (by omega)]

theorem field_game0 (A B C : Option Addr) (n c m d k e : Nat) (w : World) : (Instr.field 62 (.agg #[.slice A n c, .slice B m d, .slice C k e]) 0).run Try.prog w = .ok (.slice A n c) w := by kernel_rfl
theorem field_game1 (A B C : Option Addr) (n c m d k e : Nat) (w : World) : (Instr.field 62 (.agg #[.slice A n c, .slice B m d, .slice C k e]) 1).run Try.prog w = .ok (.slice B m d) w := by kernel_rfl
theorem field_game2 (A B C : Option Addr) (n c m d k e : Nat) (w : World) : (Instr.field 62 (.agg #[.slice A n c, .slice B m d, .slice C k e]) 2).run Try.prog w = .ok (.slice C k e) w := by kernel_rfl
theorem l12Takes_c (v : Int) (A : Option Addr) (n d : Nat) (cls : List (List Int)) (w : World) (h : Intss w A n cls) :
    Calls Try.prog 54 #[.agg #[.int .i64 v, .slice A n d]] w fun e w' => e = .returned (.bool (takes v cls)) ∧ Ext w w' := by
  unfold takes
  cases h1 : cnfOk v cls
  · go_enter Try.func54, Try.ntmps54
    go_wp2_with fail
    refine (l2Good_c _ _ _ _ cls _ (h.ext (by (repeat (first | with_reducible exact Ext.refl _ | with_reducible assumption | ((with_reducible refine Ext.setCell ?_ ?_ _); rotate_left; focus (first | omega | (simp <;> omega))) | with_reducible refine Ext.alloc ?_ _ | with_reducible refine Ext.drewN ?_ _ | with_reducible refine Ext.drew ?_ | with_reducible refine Ext.trans ?_ (by with_reducible assumption)))))).mono ?_
    rw [h1]
    rintro e w1 ⟨rfl, he⟩
    go_wp2
    go_ret; exact ⟨rfl, by (repeat (first | with_reducible exact Ext.refl _ | with_reducible assumption | ((with_reducible refine Ext.setCell ?_ ?_ _); rotate_left; focus (first | omega | (simp <;> omega))) | with_reducible refine Ext.alloc ?_ _ | with_reducible refine Ext.drewN ?_ _ | with_reducible refine Ext.drew ?_ | with_reducible refine Ext.trans ?_ (by with_reducible assumption)))⟩
  cases h2 : within v 0 6
  · have H1 := hide h1
    have H2 := hide h2
    clear h1 h2
    go_enter Try.func54, Try.ntmps54
    go_wp2_with fail
    refine (l2Good_c _ _ _ _ cls _ (h.ext (by (repeat (first | with_reducible exact Ext.refl _ | with_reducible assumption | ((with_reducible refine Ext.setCell ?_ ?_ _); rotate_left; focus (first | omega | (simp <;> omega))) | with_reducible refine Ext.alloc ?_ _ | with_reducible refine Ext.drewN ?_ _ | with_reducible refine Ext.drew ?_ | with_reducible refine Ext.trans ?_ (by with_reducible assumption)))))).mono ?_
    rw [H1.out]
    rintro e w1 ⟨rfl, he⟩
    have c0 := he.box 0 (.int .i64 v) rfl
    go_wp2_with fail
    refine (l12Size_c _ _).mono ?_
    rw [H2.out]
    rintro e w' ⟨rfl, rfl⟩
    go_wp2
    go_ret; exact ⟨rfl, by (repeat (first | with_reducible exact Ext.refl _ | with_reducible assumption | ((with_reducible refine Ext.setCell ?_ ?_ _); rotate_left; focus (first | omega | (simp <;> omega))) | with_reducible refine Ext.alloc ?_ _ | with_reducible refine Ext.drewN ?_ _ | with_reducible refine Ext.drew ?_ | with_reducible refine Ext.trans ?_ (by with_reducible assumption)))⟩
  · have HC := hide (fun c hc => (cnf_lits h1 c hc).2)
    have hv := within_true h2
    obtain ⟨u, rfl⟩ := int_nat hv.1
    rw [show ((u : Int)).toNat = u by omega]
    have H1 := hide h1
    have H2 := hide h2
    clear h1 h2
    go_enter Try.func54, Try.ntmps54
    go_wp2_with fail
    refine (l2Good_c _ _ _ _ cls _ (h.ext (by (repeat (first | with_reducible exact Ext.refl _ | with_reducible assumption | ((with_reducible refine Ext.setCell ?_ ?_ _); rotate_left; focus (first | omega | (simp <;> omega))) | with_reducible refine Ext.alloc ?_ _ | with_reducible refine Ext.drewN ?_ _ | with_reducible refine Ext.drew ?_ | with_reducible refine Ext.trans ?_ (by with_reducible assumption)))))).mono ?_
    rw [H1.out]
    rintro e w1 ⟨rfl, he⟩
    have c0 := he.box 0 (.int .i64 u) rfl
    have c1 := he.box 1 (.slice A n d) rfl
    go_wp2_with fail
    refine (l12Size_c _ _).mono ?_
    rw [H2.out]
    rintro e w' ⟨rfl, rfl⟩
    go_wp2_with fail
    refine (l5Sat_c _ _ _ _ cls _ (h.ext (by (repeat (first | with_reducible exact Ext.refl _ | with_reducible assumption | ((with_reducible refine Ext.setCell ?_ ?_ _); rotate_left; focus (first | omega | (simp <;> omega))) | with_reducible refine Ext.alloc ?_ _ | with_reducible refine Ext.drewN ?_ _ | with_reducible refine Ext.drew ?_ | with_reducible refine Ext.trans ?_ (by with_reducible assumption))))) (by omega) HC.out).mono ?_
    rintro e w2 ⟨rfl, he2⟩
    go_wp2
    go_ret; exact ⟨rfl, by (repeat (first | with_reducible exact Ext.refl _ | with_reducible assumption | ((with_reducible refine Ext.setCell ?_ ?_ _); rotate_left; focus (first | omega | (simp <;> omega))) | with_reducible refine Ext.alloc ?_ _ | with_reducible refine Ext.drewN ?_ _ | with_reducible refine Ext.drew ?_ | with_reducible refine Ext.trans ?_ (by with_reducible assumption)))⟩
theorem l12Asked_c (v : Int) (A : Option Addr) (n d : Nat) (cls : List (List Int)) (B : Option Addr) (m q : Nat) (a : List Int) (w : World) (h : Intss w A n cls) (k : Ints w B m a) :
    Calls Try.prog 59 #[.agg #[.int .i64 v, .slice A n d], .slice B m q] w fun e w' => e = .returned (.bool (asked v cls a)) ∧ Ext w w' := by
  unfold asked
  cases h1 : takes v cls
  · go_enter Try.func59, Try.ntmps59
    go_wp2_with fail
    refine (l12Takes_c _ _ _ _ cls _ (h.ext (by (repeat (first | with_reducible exact Ext.refl _ | with_reducible assumption | ((with_reducible refine Ext.setCell ?_ ?_ _); rotate_left; focus (first | omega | (simp <;> omega))) | with_reducible refine Ext.alloc ?_ _ | with_reducible refine Ext.drewN ?_ _ | with_reducible refine Ext.drew ?_ | with_reducible refine Ext.trans ?_ (by with_reducible assumption)))))).mono ?_
    rw [h1]
    rintro e w1 ⟨rfl, he⟩
    go_wp2
    go_ret; exact ⟨rfl, by (repeat (first | with_reducible exact Ext.refl _ | with_reducible assumption | ((with_reducible refine Ext.setCell ?_ ?_ _); rotate_left; focus (first | omega | (simp <;> omega))) | with_reducible refine Ext.alloc ?_ _ | with_reducible refine Ext.drewN ?_ _ | with_reducible refine Ext.drew ?_ | with_reducible refine Ext.trans ?_ (by with_reducible assumption)))⟩
  · have H1 := hide h1
    clear h1
    go_enter Try.func59, Try.ntmps59
    go_wp2_with fail
    refine (l12Takes_c _ _ _ _ cls _ (h.ext (by (repeat (first | with_reducible exact Ext.refl _ | with_reducible assumption | ((with_reducible refine Ext.setCell ?_ ?_ _); rotate_left; focus (first | omega | (simp <;> omega))) | with_reducible refine Ext.alloc ?_ _ | with_reducible refine Ext.drewN ?_ _ | with_reducible refine Ext.drew ?_ | with_reducible refine Ext.trans ?_ (by with_reducible assumption)))))).mono ?_
    rw [H1.out]
    rintro e w1 ⟨rfl, he⟩
    have c0 := he.box 0 (.int .i64 v) rfl
    go_wp2_with fail
    refine (l3Good_c _ _ _ _ a _ (k.ext (by (repeat (first | with_reducible exact Ext.refl _ | with_reducible assumption | ((with_reducible refine Ext.setCell ?_ ?_ _); rotate_left; focus (first | omega | (simp <;> omega))) | with_reducible refine Ext.alloc ?_ _ | with_reducible refine Ext.drewN ?_ _ | with_reducible refine Ext.drew ?_ | with_reducible refine Ext.trans ?_ (by with_reducible assumption)))))).mono ?_
    rintro e w2 ⟨rfl, he2⟩
    go_wp2
    go_ret; exact ⟨rfl, by (repeat (first | with_reducible exact Ext.refl _ | with_reducible assumption | ((with_reducible refine Ext.setCell ?_ ?_ _); rotate_left; focus (first | omega | (simp <;> omega))) | with_reducible refine Ext.alloc ?_ _ | with_reducible refine Ext.drewN ?_ _ | with_reducible refine Ext.drew ?_ | with_reducible refine Ext.trans ?_ (by with_reducible assumption)))⟩
theorem newGame_no (v : Int) (A : Option Addr) (n d : Nat) (cls : List (List Int)) (w : World) (h : Intss w A n cls) (ht : takes v cls = false) :
    Calls Try.prog 57 #[.agg #[.int .i64 v, .slice A n d]] w fun e w' => e = .returned (.tuple #[.pointer none, .bool false]) ∧ Ext w w' := by
  rcases and3_false ht with h1 | ⟨h1, h2⟩ | ⟨h1, h2, h3⟩
  · clear ht
    go_enter Try.func57, Try.ntmps57
    go_wp2_with fail
    refine (IsCnf_c _ _ _ _ cls _ (h.ext (by (repeat (first | with_reducible exact Ext.refl _ | with_reducible assumption | ((with_reducible refine Ext.setCell ?_ ?_ _); rotate_left; focus (first | omega | (simp <;> omega))) | with_reducible refine Ext.alloc ?_ _ | with_reducible refine Ext.drewN ?_ _ | with_reducible refine Ext.drew ?_ | with_reducible refine Ext.trans ?_ (by with_reducible assumption)))))).mono ?_
    rw [h1]
    rintro e w1 ⟨rfl, he⟩
    go_wp2
    go_ret2; exact ⟨rfl, by (repeat (first | with_reducible exact Ext.refl _ | with_reducible assumption | ((with_reducible refine Ext.setCell ?_ ?_ _); rotate_left; focus (first | omega | (simp <;> omega))) | with_reducible refine Ext.alloc ?_ _ | with_reducible refine Ext.drewN ?_ _ | with_reducible refine Ext.drew ?_ | with_reducible refine Ext.trans ?_ (by with_reducible assumption)))⟩
  · have hv := (cnf_facts h1).1
    have h6 : (6 : Int) < v := by unfold within at h2; simp at h2; omega
    have H1 := hide h1
    clear h1 h2 ht
    go_enter Try.func57, Try.ntmps57
    go_wp2_with fail
    refine (IsCnf_c _ _ _ _ cls _ (h.ext (by (repeat (first | with_reducible exact Ext.refl _ | with_reducible assumption | ((with_reducible refine Ext.setCell ?_ ?_ _); rotate_left; focus (first | omega | (simp <;> omega))) | with_reducible refine Ext.alloc ?_ _ | with_reducible refine Ext.drewN ?_ _ | with_reducible refine Ext.drew ?_ | with_reducible refine Ext.trans ?_ (by with_reducible assumption)))))).mono ?_
    rw [H1.out]
    rintro e w1 ⟨rfl, he⟩
    have c0 := he.box 0 (.int .i64 v) rfl
    go_wp2
    go_ret2; exact ⟨rfl, by (repeat (first | with_reducible exact Ext.refl _ | with_reducible assumption | ((with_reducible refine Ext.setCell ?_ ?_ _); rotate_left; focus (first | omega | (simp <;> omega))) | with_reducible refine Ext.alloc ?_ _ | with_reducible refine Ext.drewN ?_ _ | with_reducible refine Ext.drew ?_ | with_reducible refine Ext.trans ?_ (by with_reducible assumption)))⟩
  · have hv := within_true h2
    have HC := hide (fun c hc => (cnf_lits h1 c hc).2)
    obtain ⟨u, rfl⟩ := int_nat hv.1
    have h3 : satB u cls = true := by rw [show ((u : Int)).toNat = u by omega] at h3; simpa using h3
    have H1 := hide h1
    have H3 := hide h3
    have hu6 : ((6 : Int) < (u : Int)) = False := by simp; omega
    clear h1 h2 h3 ht
    go_enter Try.func57, Try.ntmps57
    go_wp2_with fail
    refine (IsCnf_c _ _ _ _ cls _ (h.ext (by (repeat (first | with_reducible exact Ext.refl _ | with_reducible assumption | ((with_reducible refine Ext.setCell ?_ ?_ _); rotate_left; focus (first | omega | (simp <;> omega))) | with_reducible refine Ext.alloc ?_ _ | with_reducible refine Ext.drewN ?_ _ | with_reducible refine Ext.drew ?_ | with_reducible refine Ext.trans ?_ (by with_reducible assumption)))))).mono ?_
    rw [H1.out]
    rintro e w1 ⟨rfl, he⟩
    have c0 := he.box 0 (.int .i64 u) rfl
    have c1 := he.box 1 (.slice A n d) rfl
    go_wp2_with fail
    refine (satisfiable_c _ _ _ _ cls _ (h.ext (by (repeat (first | with_reducible exact Ext.refl _ | with_reducible assumption | ((with_reducible refine Ext.setCell ?_ ?_ _); rotate_left; focus (first | omega | (simp <;> omega))) | with_reducible refine Ext.alloc ?_ _ | with_reducible refine Ext.drewN ?_ _ | with_reducible refine Ext.drew ?_ | with_reducible refine Ext.trans ?_ (by with_reducible assumption))))) (by omega) HC.out).mono ?_
    rw [H3.out]
    rintro e w2 ⟨rfl, he2⟩
    go_wp2
    go_ret2; exact ⟨rfl, by (repeat (first | with_reducible exact Ext.refl _ | with_reducible assumption | ((with_reducible refine Ext.setCell ?_ ?_ _); rotate_left; focus (first | omega | (simp <;> omega))) | with_reducible refine Ext.alloc ?_ _ | with_reducible refine Ext.drewN ?_ _ | with_reducible refine Ext.drew ?_ | with_reducible refine Ext.trans ?_ (by with_reducible assumption)))⟩
theorem gameAt_no (v : Int) (A : Option Addr) (n d : Nat) (cls : List (List Int)) (B : Option Addr) (m q : Nat) (a : List Int) (w : World) (h : Intss w A n cls) (k : Ints w B m a) (ht : asked v cls a = false) :
    Calls Try.prog 61 #[.agg #[.int .i64 v, .slice A n d], .slice B m q] w fun e w' => e = .returned (.tuple #[.pointer none, .int .i64 0, .bool false]) ∧ Ext w w' := by
  rcases and2_false ht with h1 | ⟨h1, h2⟩
  · have H1 := hide h1
    clear h1 ht
    go_enter Try.func61, Try.ntmps61
    go_wp2_with fail
    refine (newGame_no _ _ _ _ cls _ (h.ext (by (repeat (first | with_reducible exact Ext.refl _ | with_reducible assumption | ((with_reducible refine Ext.setCell ?_ ?_ _); rotate_left; focus (first | omega | (simp <;> omega))) | with_reducible refine Ext.alloc ?_ _ | with_reducible refine Ext.drewN ?_ _ | with_reducible refine Ext.drew ?_ | with_reducible refine Ext.trans ?_ (by with_reducible assumption))))) H1.out).mono ?_
    rintro e w1 ⟨rfl, he⟩
    go_wp2
    go_ret3; exact ⟨rfl, by (repeat (first | with_reducible exact Ext.refl _ | with_reducible assumption | ((with_reducible refine Ext.setCell ?_ ?_ _); rotate_left; focus (first | omega | (simp <;> omega))) | with_reducible refine Ext.alloc ?_ _ | with_reducible refine Ext.drewN ?_ _ | with_reducible refine Ext.drew ?_ | with_reducible refine Ext.trans ?_ (by with_reducible assumption)))⟩
  · obtain ⟨_, hv, _⟩ := takes_facts h1
    obtain ⟨u, rfl⟩ := int_nat hv.1
    have H1 := hide h1
    have H2 := hide h2
    clear h1 h2 ht
    go_enter Try.func61, Try.ntmps61
    go_wp2_with fail
    refine (newGame_yes u A n d cls _ (h.ext (by (repeat (first | with_reducible exact Ext.refl _ | with_reducible assumption | ((with_reducible refine Ext.setCell ?_ ?_ _); rotate_left; focus (first | omega | (simp <;> omega))) | with_reducible refine Ext.alloc ?_ _ | with_reducible refine Ext.drewN ?_ _ | with_reducible refine Ext.drew ?_ | with_reducible refine Ext.trans ?_ (by with_reducible assumption))))) H1.out).mono ?_
    rintro e w1 ⟨b, g0, g1, g2, g3, ov, rfl, hG, hov, he⟩
    have hov := hide hov
    have c0 := he.box 0 (.int .i64 u) rfl
    go_wp2_with fail
    refine (IsAssignment_c _ _ _ _ a _ (k.ext (by (repeat (first | with_reducible exact Ext.refl _ | with_reducible assumption | ((with_reducible refine Ext.setCell ?_ ?_ _); rotate_left; focus (first | omega | (simp <;> omega))) | with_reducible refine Ext.alloc ?_ _ | with_reducible refine Ext.drewN ?_ _ | with_reducible refine Ext.drew ?_ | with_reducible refine Ext.trans ?_ (by with_reducible assumption)))))).mono ?_
    rw [H2.out]
    rintro e w2 ⟨rfl, he2⟩
    go_wp2
    go_ret3; exact ⟨rfl, by (repeat (first | with_reducible exact Ext.refl _ | with_reducible assumption | ((with_reducible refine Ext.setCell ?_ ?_ _); rotate_left; focus (first | omega | (simp <;> omega))) | with_reducible refine Ext.alloc ?_ _ | with_reducible refine Ext.drewN ?_ _ | with_reducible refine Ext.drew ?_ | with_reducible refine Ext.trans ?_ (by with_reducible assumption)))⟩
theorem gameAt_yes (u : Nat) (A : Option Addr) (n d : Nat) (cls : List (List Int)) (B : Option Addr) (m q : Nat) (a : List Int) (w : World) (h : Intss w A n cls) (k : Ints w B m a) (ht : asked u cls a = true) :
    Calls Try.prog 61 #[.agg #[.int .i64 u, .slice A n d], .slice B m q] w fun e w' => ∃ b g0 g1 g2 g3 ov, e = .returned (.tuple #[.pointer (some ⟨b, 0, none⟩), .int .i64 (codeOf a : Int), .bool true]) ∧
      GameAt w' w.heap.size b g0 g1 g2 g3 u A n d (pow3 u) ov (gAll u cls) ∧ (∀ c, c < pow3 u → ov.getD c false = falseAny cls (codeLits u 1 c)) ∧ Ext w w' := by
  obtain ⟨h1, h2⟩ := and2_true ht
  obtain ⟨_, hv, _⟩ := takes_facts h1
  obtain ⟨_, hc6, hlen⟩ := clause_facts h2
  have hm6 : m ≤ 6 := by have := k.len; omega
  have HC6 := hide (show ∀ x ∈ a, -6 ≤ x ∧ x ≤ 6 ∧ x ≠ 0 from fun x hx => by have := hc6 x hx; omega)
  have H1 := hide h1
  have H2 := hide h2
  clear h1 h2 ht hc6 hlen
  go_enter Try.func61, Try.ntmps61
  go_wp2_with fail
  refine (newGame_yes u A n d cls _ (h.ext (by (repeat (first | with_reducible exact Ext.refl _ | with_reducible assumption | ((with_reducible refine Ext.setCell ?_ ?_ _); rotate_left; focus (first | omega | (simp <;> omega))) | with_reducible refine Ext.alloc ?_ _ | with_reducible refine Ext.drewN ?_ _ | with_reducible refine Ext.drew ?_ | with_reducible refine Ext.trans ?_ (by with_reducible assumption))))) H1.out).mono ?_
  rintro e w1 ⟨b, g0, g1, g2, g3, ov, rfl, hG, hov, he⟩
  have hov := hide hov
  have c0 := he.box 0 (.int .i64 u) rfl
  go_wp2_with fail
  refine (IsAssignment_c _ _ _ _ a _ (k.ext (by (repeat (first | with_reducible exact Ext.refl _ | with_reducible assumption | ((with_reducible refine Ext.setCell ?_ ?_ _); rotate_left; focus (first | omega | (simp <;> omega))) | with_reducible refine Ext.alloc ?_ _ | with_reducible refine Ext.drewN ?_ _ | with_reducible refine Ext.drew ?_ | with_reducible refine Ext.trans ?_ (by with_reducible assumption)))))).mono ?_
  rw [H2.out]
  rintro e w2 ⟨rfl, he2⟩
  go_wp2_with fail
  refine (codeOf_c B m q a _ (k.ext (by (repeat (first | with_reducible exact Ext.refl _ | with_reducible assumption | ((with_reducible refine Ext.setCell ?_ ?_ _); rotate_left; focus (first | omega | (simp <;> omega))) | with_reducible refine Ext.alloc ?_ _ | with_reducible refine Ext.drewN ?_ _ | with_reducible refine Ext.drew ?_ | with_reducible refine Ext.trans ?_ (by with_reducible assumption))))) hm6 HC6.out).mono ?_
  rintro e w3 ⟨rfl, he3⟩
  have hG3 := (hG.ext he2).ext he3
  go_wp2
  go_ret3
  refine ⟨b, g0, g1, g2, g3, ov, rfl, ?_, hov.out, by (repeat (first | with_reducible exact Ext.refl _ | with_reducible assumption | ((with_reducible refine Ext.setCell ?_ ?_ _); rotate_left; focus (first | omega | (simp <;> omega))) | with_reducible refine Ext.alloc ?_ _ | with_reducible refine Ext.drewN ?_ _ | with_reducible refine Ext.drew ?_ | with_reducible refine Ext.trans ?_ (by with_reducible assumption)))⟩
  exact ⟨hG3.box, hG3.over, ⟨hG3.tab.o1, hG3.tab.o2, hG3.tab.o3, hG3.tab.full, hG3.tab.ne, by have := hG3.tab.lo; simp at this; omega⟩, hG3.len, hG3.ne, by have := hG3.lo; simp at this; omega⟩
theorem spec_GameNumbers_c (v : Int) (A : Option Addr) (n d : Nat) (cls : List (List Int)) (w : World) (h : Intss w A n cls) :
    Calls Try.prog 16 #[.agg #[.int .i64 v, .slice A n d]] w fun e w' =>
      e = .returned (.tuple #[.int .i64 (gameNums v cls).1, .int .i64 (gameNums v cls).2.1, .int .i64 (gameNums v cls).2.2, .bool (takes v cls)]) ∧ Ext w w' := by
  unfold gameNums
  cases h1 : takes v cls
  · simp only [Bool.false_eq_true, if_false]
    go_enter Try.func16, Try.ntmps16
    go_wp2_with fail
    refine (l12Takes_c _ _ _ _ cls _ (h.ext (by (repeat (first | with_reducible exact Ext.refl _ | with_reducible assumption | ((with_reducible refine Ext.setCell ?_ ?_ _); rotate_left; focus (first | omega | (simp <;> omega))) | with_reducible refine Ext.alloc ?_ _ | with_reducible refine Ext.drewN ?_ _ | with_reducible refine Ext.drew ?_ | with_reducible refine Ext.trans ?_ (by with_reducible assumption)))))).mono ?_
    rw [h1]
    rintro e w1 ⟨rfl, he⟩
    go_wp2
    refine bodyPost_ret (results_tmp4 rfl _ _ _) rfl ⟨rfl, by (repeat (first | with_reducible exact Ext.refl _ | with_reducible assumption | ((with_reducible refine Ext.setCell ?_ ?_ _); rotate_left; focus (first | omega | (simp <;> omega))) | with_reducible refine Ext.alloc ?_ _ | with_reducible refine Ext.drewN ?_ _ | with_reducible refine Ext.drew ?_ | with_reducible refine Ext.trans ?_ (by with_reducible assumption)))⟩
  · obtain ⟨hc, hv, _⟩ := takes_facts h1
    have HC := hide (fun c hcc => (cnf_lits hc c hcc).2)
    obtain ⟨u, rfl⟩ := int_nat hv.1
    rw [show ((u : Int)).toNat = u by omega]
    have hN0 : 0 < pow3 u := pow3_pos u
    have H1 := hide h1
    clear h1 hc
    simp only [if_true, Tab.at_]
    obtain ⟨x1, hx1⟩ : ∃ x, (gAll u cls).sc.getD 0 0 = x := ⟨_, rfl⟩
    obtain ⟨x2, hx2⟩ : ∃ x, (gAll u cls).sz.getD 0 0 = x := ⟨_, rfl⟩
    obtain ⟨x3, hx3⟩ : ∃ x, (gAll u cls).ht.getD 0 0 = x := ⟨_, rfl⟩
    rw [hx1, hx2, hx3]
    have HX := hide (And.intro hx1 (And.intro hx2 hx3))
    clear hx1 hx2 hx3
    go_enter Try.func16, Try.ntmps16
    go_wp2_with fail
    refine (l12Takes_c _ _ _ _ cls _ (h.ext (by (repeat (first | with_reducible exact Ext.refl _ | with_reducible assumption | ((with_reducible refine Ext.setCell ?_ ?_ _); rotate_left; focus (first | omega | (simp <;> omega))) | with_reducible refine Ext.alloc ?_ _ | with_reducible refine Ext.drewN ?_ _ | with_reducible refine Ext.drew ?_ | with_reducible refine Ext.trans ?_ (by with_reducible assumption)))))).mono ?_
    rw [H1.out]
    rintro e w1 ⟨rfl, he⟩
    have c0 := he.box 0 (.int .i64 u) rfl
    have c1 := he.box 1 (.slice A n d) rfl
    go_wp2_with fail
    refine (l12Play_c u A n d cls _ (h.ext (by (repeat (first | with_reducible exact Ext.refl _ | with_reducible assumption | ((with_reducible refine Ext.setCell ?_ ?_ _); rotate_left; focus (first | omega | (simp <;> omega))) | with_reducible refine Ext.alloc ?_ _ | with_reducible refine Ext.drewN ?_ _ | with_reducible refine Ext.drew ?_ | with_reducible refine Ext.trans ?_ (by with_reducible assumption))))) (by omega) HC.out).mono ?_
    rintro e w2 ⟨g1, g2, g3, rfl, hT, he2⟩
    have f1 := hT.sc hN0
    have f2 := hT.sz hN0
    have f3 := hT.ht hN0
    have l1 := hT.o1.lt
    have l2 := hT.o2.lt
    have l3 := hT.o3.lt
    rw [HX.out.1] at f1
    rw [HX.out.2.1] at f2
    rw [HX.out.2.2] at f3
    go_wp2
    go_region
    go_wp2
    refine bodyPost_ret (results_tmp4 rfl _ _ _) rfl ⟨rfl, by (repeat (first | with_reducible exact Ext.refl _ | with_reducible assumption | ((with_reducible refine Ext.setCell ?_ ?_ _); rotate_left; focus (first | omega | (simp <;> omega))) | with_reducible refine Ext.alloc ?_ _ | with_reducible refine Ext.drewN ?_ _ | with_reducible refine Ext.drew ?_ | with_reducible refine Ext.trans ?_ (by with_reducible assumption)))⟩
theorem impl_GameNumbers_c (v : Int) (A : Option Addr) (n d : Nat) (cls : List (List Int)) (w : World) (h : Intss w A n cls) :
    Calls Try.prog 18 #[.agg #[.int .i64 v, .slice A n d]] w fun e w' =>
      e = .returned (.tuple #[.int .i64 (gameNums v cls).1, .int .i64 (gameNums v cls).2.1, .int .i64 (gameNums v cls).2.2, .bool (takes v cls)]) ∧ Ext w w' := by
  unfold gameNums
  cases h1 : takes v cls
  · simp only [Bool.false_eq_true, if_false]
    go_enter Try.func18, Try.ntmps18
    go_wp2_with fail
    refine (newGame_no _ _ _ _ cls _ (h.ext (by (repeat (first | with_reducible exact Ext.refl _ | with_reducible assumption | ((with_reducible refine Ext.setCell ?_ ?_ _); rotate_left; focus (first | omega | (simp <;> omega))) | with_reducible refine Ext.alloc ?_ _ | with_reducible refine Ext.drewN ?_ _ | with_reducible refine Ext.drew ?_ | with_reducible refine Ext.trans ?_ (by with_reducible assumption))))) h1).mono ?_
    rintro e w1 ⟨rfl, he⟩
    go_wp2
    refine bodyPost_ret (results_tmp4 rfl _ _ _) rfl ⟨rfl, by (repeat (first | with_reducible exact Ext.refl _ | with_reducible assumption | ((with_reducible refine Ext.setCell ?_ ?_ _); rotate_left; focus (first | omega | (simp <;> omega))) | with_reducible refine Ext.alloc ?_ _ | with_reducible refine Ext.drewN ?_ _ | with_reducible refine Ext.drew ?_ | with_reducible refine Ext.trans ?_ (by with_reducible assumption)))⟩
  · obtain ⟨hc, hv, _⟩ := takes_facts h1
    obtain ⟨u, rfl⟩ := int_nat hv.1
    rw [show ((u : Int)).toNat = u by omega]
    have hN0 : 0 < pow3 u := pow3_pos u
    have H1 := hide h1
    clear h1 hc
    simp only [if_true, Tab.at_]
    obtain ⟨x1, hx1⟩ : ∃ x, (gAll u cls).sc.getD 0 0 = x := ⟨_, rfl⟩
    obtain ⟨x2, hx2⟩ : ∃ x, (gAll u cls).sz.getD 0 0 = x := ⟨_, rfl⟩
    obtain ⟨x3, hx3⟩ : ∃ x, (gAll u cls).ht.getD 0 0 = x := ⟨_, rfl⟩
    rw [hx1, hx2, hx3]
    have HX := hide (And.intro hx1 (And.intro hx2 hx3))
    clear hx1 hx2 hx3
    go_enter Try.func18, Try.ntmps18
    go_wp2_with fail
    refine (newGame_yes u A n d cls _ (h.ext (by (repeat (first | with_reducible exact Ext.refl _ | with_reducible assumption | ((with_reducible refine Ext.setCell ?_ ?_ _); rotate_left; focus (first | omega | (simp <;> omega))) | with_reducible refine Ext.alloc ?_ _ | with_reducible refine Ext.drewN ?_ _ | with_reducible refine Ext.drew ?_ | with_reducible refine Ext.trans ?_ (by with_reducible assumption))))) H1.out).mono ?_
    rintro e w1 ⟨b, g0, g1, g2, g3, ov, rfl, hG, hov, he⟩
    have hov := hide hov
    have f1 := hG.tab.sc hN0
    have f2 := hG.tab.sz hN0
    have f3 := hG.tab.ht hN0
    have e3 := hG.box.cell 3 (.slice (some ⟨g1, 0, none⟩) (pow3 u) (pow3 u)) rfl
    have e4 := hG.box.cell 4 (.slice (some ⟨g2, 0, none⟩) (pow3 u) (pow3 u)) rfl
    have e5 := hG.box.cell 5 (.slice (some ⟨g3, 0, none⟩) (pow3 u) (pow3 u)) rfl
    rw [HX.out.1] at f1
    rw [HX.out.2.1] at f2
    rw [HX.out.2.2] at f3
    go_wp2
    go_region
    go_wp2
    refine bodyPost_ret (results_tmp4 rfl _ _ _) rfl ⟨rfl, by (repeat (first | with_reducible exact Ext.refl _ | with_reducible assumption | ((with_reducible refine Ext.setCell ?_ ?_ _); rotate_left; focus (first | omega | (simp <;> omega))) | with_reducible refine Ext.alloc ?_ _ | with_reducible refine Ext.drewN ?_ _ | with_reducible refine Ext.drew ?_ | with_reducible refine Ext.trans ?_ (by with_reducible assumption)))⟩
def num_sc (v : Int) (cls : List (List Int)) (a : List Int) : Int := if asked v cls a then (gAll v.toNat cls).sc.getD (codeOf a) 0 else 0
set_option maxRecDepth 100000 in
theorem spec_ScoreOf_c (v : Int) (A : Option Addr) (n d : Nat) (cls : List (List Int)) (B : Option Addr) (m q : Nat) (a : List Int) (w : World) (h : Intss w A n cls) (k : Ints w B m a) :
    Calls Try.prog 20 #[.agg #[.int .i64 v, .slice A n d], .slice B m q] w fun e w' => e = .returned (.tuple #[.int .i64 (num_sc v cls a), .bool (asked v cls a)]) ∧ Ext w w' := by
  unfold num_sc
  cases h1 : asked v cls a
  · simp only [Bool.false_eq_true, if_false]
    go_enter Try.func20, Try.ntmps20
    go_wp2_with fail
    refine (l12Asked_c _ _ _ _ cls _ _ _ a _ (h.ext (by (repeat (first | with_reducible exact Ext.refl _ | with_reducible assumption | ((with_reducible refine Ext.setCell ?_ ?_ _); rotate_left; focus (first | omega | (simp <;> omega))) | with_reducible refine Ext.alloc ?_ _ | with_reducible refine Ext.drewN ?_ _ | with_reducible refine Ext.drew ?_ | with_reducible refine Ext.trans ?_ (by with_reducible assumption))))) (k.ext (by (repeat (first | with_reducible exact Ext.refl _ | with_reducible assumption | ((with_reducible refine Ext.setCell ?_ ?_ _); rotate_left; focus (first | omega | (simp <;> omega))) | with_reducible refine Ext.alloc ?_ _ | with_reducible refine Ext.drewN ?_ _ | with_reducible refine Ext.drew ?_ | with_reducible refine Ext.trans ?_ (by with_reducible assumption)))))).mono ?_
    rw [h1]
    rintro e w1 ⟨rfl, he⟩
    go_wp2
    go_ret2; exact ⟨rfl, by (repeat (first | with_reducible exact Ext.refl _ | with_reducible assumption | ((with_reducible refine Ext.setCell ?_ ?_ _); rotate_left; focus (first | omega | (simp <;> omega))) | with_reducible refine Ext.alloc ?_ _ | with_reducible refine Ext.drewN ?_ _ | with_reducible refine Ext.drew ?_ | with_reducible refine Ext.trans ?_ (by with_reducible assumption)))⟩
  · obtain ⟨ht, ha⟩ := and2_true h1
    obtain ⟨hc, hv, _⟩ := takes_facts ht
    have HC := hide (fun c hcc => (cnf_lits hc c hcc).2)
    obtain ⟨u, rfl⟩ := int_nat hv.1
    rw [show ((u : Int)).toNat = u by omega]
    obtain ⟨_, hc6, hlen⟩ := clause_facts ha
    have hm6 : m ≤ 6 := by have := k.len; omega
    have HC6 := hide (show ∀ x ∈ a, -6 ≤ x ∧ x ≤ 6 ∧ x ≠ 0 from fun x hx => by have := hc6 x hx; omega)
    have hcd := (asg_code ha).2
    have H1 := hide h1
    clear h1 hc ht ha hc6 hlen
    simp only [if_true]
    obtain ⟨x1, hx1⟩ : ∃ x, (gAll u cls).sc.getD (codeOf a) 0 = x := ⟨_, rfl⟩
    rw [hx1]
    have HX1 := hide hx1
    clear hx1
    go_enter Try.func20, Try.ntmps20
    go_wp2_with fail
    refine (l12Asked_c _ _ _ _ cls _ _ _ a _ (h.ext (by (repeat (first | with_reducible exact Ext.refl _ | with_reducible assumption | ((with_reducible refine Ext.setCell ?_ ?_ _); rotate_left; focus (first | omega | (simp <;> omega))) | with_reducible refine Ext.alloc ?_ _ | with_reducible refine Ext.drewN ?_ _ | with_reducible refine Ext.drew ?_ | with_reducible refine Ext.trans ?_ (by with_reducible assumption))))) (k.ext (by (repeat (first | with_reducible exact Ext.refl _ | with_reducible assumption | ((with_reducible refine Ext.setCell ?_ ?_ _); rotate_left; focus (first | omega | (simp <;> omega))) | with_reducible refine Ext.alloc ?_ _ | with_reducible refine Ext.drewN ?_ _ | with_reducible refine Ext.drew ?_ | with_reducible refine Ext.trans ?_ (by with_reducible assumption)))))).mono ?_
    rw [H1.out]
    rintro e w1 ⟨rfl, he⟩
    have c0 := he.box 0 (.int .i64 u) rfl
    have c1 := he.box 1 (.slice A n d) rfl
    go_wp2_with fail
    have hfd := field_game0
    refine (l12Play_c u A n d cls _ (h.ext (by (repeat (first | with_reducible exact Ext.refl _ | with_reducible assumption | ((with_reducible refine Ext.setCell ?_ ?_ _); rotate_left; focus (first | omega | (simp <;> omega))) | with_reducible refine Ext.alloc ?_ _ | with_reducible refine Ext.drewN ?_ _ | with_reducible refine Ext.drew ?_ | with_reducible refine Ext.trans ?_ (by with_reducible assumption))))) (by omega) HC.out).mono ?_
    rintro e w2 ⟨g1, g2, g3, rfl, hT, he2⟩
    go_wp2_with fail
    refine (l12Code_c B m q a _ (k.ext (by (repeat (first | with_reducible exact Ext.refl _ | with_reducible assumption | ((with_reducible refine Ext.setCell ?_ ?_ _); rotate_left; focus (first | omega | (simp <;> omega))) | with_reducible refine Ext.alloc ?_ _ | with_reducible refine Ext.drewN ?_ _ | with_reducible refine Ext.drew ?_ | with_reducible refine Ext.trans ?_ (by with_reducible assumption))))) hm6 HC6.out).mono ?_
    rintro e w3 ⟨rfl, he3⟩
    have f1 := (hT.ext he3).sc hcd
    rw [HX1.out] at f1
    clear HX1
    generalize codeOf a = cd at *
    go_wp2
    go_ret2; exact ⟨rfl, by (repeat (first | with_reducible exact Ext.refl _ | with_reducible assumption | ((with_reducible refine Ext.setCell ?_ ?_ _); rotate_left; focus (first | omega | (simp <;> omega))) | with_reducible refine Ext.alloc ?_ _ | with_reducible refine Ext.drewN ?_ _ | with_reducible refine Ext.drew ?_ | with_reducible refine Ext.trans ?_ (by with_reducible assumption)))⟩
set_option maxRecDepth 100000 in
theorem impl_ScoreOf_c (v : Int) (A : Option Addr) (n d : Nat) (cls : List (List Int)) (B : Option Addr) (m q : Nat) (a : List Int) (w : World) (h : Intss w A n cls) (k : Ints w B m a) :
    Calls Try.prog 22 #[.agg #[.int .i64 v, .slice A n d], .slice B m q] w fun e w' => e = .returned (.tuple #[.int .i64 (num_sc v cls a), .bool (asked v cls a)]) ∧ Ext w w' := by
  unfold num_sc
  cases h1 : asked v cls a
  · simp only [Bool.false_eq_true, if_false]
    go_enter Try.func22, Try.ntmps22
    go_wp2_with fail
    refine (gameAt_no _ _ _ _ cls _ _ _ a _ (h.ext (by (repeat (first | with_reducible exact Ext.refl _ | with_reducible assumption | ((with_reducible refine Ext.setCell ?_ ?_ _); rotate_left; focus (first | omega | (simp <;> omega))) | with_reducible refine Ext.alloc ?_ _ | with_reducible refine Ext.drewN ?_ _ | with_reducible refine Ext.drew ?_ | with_reducible refine Ext.trans ?_ (by with_reducible assumption))))) (k.ext (by (repeat (first | with_reducible exact Ext.refl _ | with_reducible assumption | ((with_reducible refine Ext.setCell ?_ ?_ _); rotate_left; focus (first | omega | (simp <;> omega))) | with_reducible refine Ext.alloc ?_ _ | with_reducible refine Ext.drewN ?_ _ | with_reducible refine Ext.drew ?_ | with_reducible refine Ext.trans ?_ (by with_reducible assumption))))) h1).mono ?_
    rintro e w1 ⟨rfl, he⟩
    go_wp2
    go_ret2; exact ⟨rfl, by (repeat (first | with_reducible exact Ext.refl _ | with_reducible assumption | ((with_reducible refine Ext.setCell ?_ ?_ _); rotate_left; focus (first | omega | (simp <;> omega))) | with_reducible refine Ext.alloc ?_ _ | with_reducible refine Ext.drewN ?_ _ | with_reducible refine Ext.drew ?_ | with_reducible refine Ext.trans ?_ (by with_reducible assumption)))⟩
  · obtain ⟨ht, ha⟩ := and2_true h1
    obtain ⟨hc, hv, _⟩ := takes_facts ht
    obtain ⟨u, rfl⟩ := int_nat hv.1
    rw [show ((u : Int)).toNat = u by omega]
    have hcd := (asg_code ha).2
    have H1 := hide h1
    clear h1 hc ht ha
    simp only [if_true]
    obtain ⟨x1, hx1⟩ : ∃ x, (gAll u cls).sc.getD (codeOf a) 0 = x := ⟨_, rfl⟩
    rw [hx1]
    have HX1 := hide hx1
    clear hx1
    go_enter Try.func22, Try.ntmps22
    go_wp2_with fail
    refine (gameAt_yes u A n d cls B m q a _ (h.ext (by (repeat (first | with_reducible exact Ext.refl _ | with_reducible assumption | ((with_reducible refine Ext.setCell ?_ ?_ _); rotate_left; focus (first | omega | (simp <;> omega))) | with_reducible refine Ext.alloc ?_ _ | with_reducible refine Ext.drewN ?_ _ | with_reducible refine Ext.drew ?_ | with_reducible refine Ext.trans ?_ (by with_reducible assumption))))) (k.ext (by (repeat (first | with_reducible exact Ext.refl _ | with_reducible assumption | ((with_reducible refine Ext.setCell ?_ ?_ _); rotate_left; focus (first | omega | (simp <;> omega))) | with_reducible refine Ext.alloc ?_ _ | with_reducible refine Ext.drewN ?_ _ | with_reducible refine Ext.drew ?_ | with_reducible refine Ext.trans ?_ (by with_reducible assumption))))) H1.out).mono ?_
    rintro e w1 ⟨b, g0, g1, g2, g3, ov, rfl, hG, hov, he⟩
    have hov := hide hov
    have f1 := hG.tab.sc hcd
    have e3 := hG.box.cell 3 (.slice (some ⟨g1, 0, none⟩) (pow3 u) (pow3 u)) rfl
    rw [HX1.out] at f1
    clear HX1
    generalize codeOf a = cd at *
    go_wp2
    go_ret2; exact ⟨rfl, by (repeat (first | with_reducible exact Ext.refl _ | with_reducible assumption | ((with_reducible refine Ext.setCell ?_ ?_ _); rotate_left; focus (first | omega | (simp <;> omega))) | with_reducible refine Ext.alloc ?_ _ | with_reducible refine Ext.drewN ?_ _ | with_reducible refine Ext.drew ?_ | with_reducible refine Ext.trans ?_ (by with_reducible assumption)))⟩
def num_sz (v : Int) (cls : List (List Int)) (a : List Int) : Int := if asked v cls a then (gAll v.toNat cls).sz.getD (codeOf a) 0 else 0
set_option maxRecDepth 100000 in
theorem spec_SizeOf_c (v : Int) (A : Option Addr) (n d : Nat) (cls : List (List Int)) (B : Option Addr) (m q : Nat) (a : List Int) (w : World) (h : Intss w A n cls) (k : Ints w B m a) :
    Calls Try.prog 24 #[.agg #[.int .i64 v, .slice A n d], .slice B m q] w fun e w' => e = .returned (.tuple #[.int .i64 (num_sz v cls a), .bool (asked v cls a)]) ∧ Ext w w' := by
  unfold num_sz
  cases h1 : asked v cls a
  · simp only [Bool.false_eq_true, if_false]
    go_enter Try.func24, Try.ntmps24
    go_wp2_with fail
    refine (l12Asked_c _ _ _ _ cls _ _ _ a _ (h.ext (by (repeat (first | with_reducible exact Ext.refl _ | with_reducible assumption | ((with_reducible refine Ext.setCell ?_ ?_ _); rotate_left; focus (first | omega | (simp <;> omega))) | with_reducible refine Ext.alloc ?_ _ | with_reducible refine Ext.drewN ?_ _ | with_reducible refine Ext.drew ?_ | with_reducible refine Ext.trans ?_ (by with_reducible assumption))))) (k.ext (by (repeat (first | with_reducible exact Ext.refl _ | with_reducible assumption | ((with_reducible refine Ext.setCell ?_ ?_ _); rotate_left; focus (first | omega | (simp <;> omega))) | with_reducible refine Ext.alloc ?_ _ | with_reducible refine Ext.drewN ?_ _ | with_reducible refine Ext.drew ?_ | with_reducible refine Ext.trans ?_ (by with_reducible assumption)))))).mono ?_
    rw [h1]
    rintro e w1 ⟨rfl, he⟩
    go_wp2
    go_ret2; exact ⟨rfl, by (repeat (first | with_reducible exact Ext.refl _ | with_reducible assumption | ((with_reducible refine Ext.setCell ?_ ?_ _); rotate_left; focus (first | omega | (simp <;> omega))) | with_reducible refine Ext.alloc ?_ _ | with_reducible refine Ext.drewN ?_ _ | with_reducible refine Ext.drew ?_ | with_reducible refine Ext.trans ?_ (by with_reducible assumption)))⟩
  · obtain ⟨ht, ha⟩ := and2_true h1
    obtain ⟨hc, hv, _⟩ := takes_facts ht
    have HC := hide (fun c hcc => (cnf_lits hc c hcc).2)
    obtain ⟨u, rfl⟩ := int_nat hv.1
    rw [show ((u : Int)).toNat = u by omega]
    obtain ⟨_, hc6, hlen⟩ := clause_facts ha
    have hm6 : m ≤ 6 := by have := k.len; omega
    have HC6 := hide (show ∀ x ∈ a, -6 ≤ x ∧ x ≤ 6 ∧ x ≠ 0 from fun x hx => by have := hc6 x hx; omega)
    have hcd := (asg_code ha).2
    have H1 := hide h1
    clear h1 hc ht ha hc6 hlen
    simp only [if_true]
    obtain ⟨x1, hx1⟩ : ∃ x, (gAll u cls).sz.getD (codeOf a) 0 = x := ⟨_, rfl⟩
    rw [hx1]
    have HX1 := hide hx1
    clear hx1
    go_enter Try.func24, Try.ntmps24
    go_wp2_with fail
    refine (l12Asked_c _ _ _ _ cls _ _ _ a _ (h.ext (by (repeat (first | with_reducible exact Ext.refl _ | with_reducible assumption | ((with_reducible refine Ext.setCell ?_ ?_ _); rotate_left; focus (first | omega | (simp <;> omega))) | with_reducible refine Ext.alloc ?_ _ | with_reducible refine Ext.drewN ?_ _ | with_reducible refine Ext.drew ?_ | with_reducible refine Ext.trans ?_ (by with_reducible assumption))))) (k.ext (by (repeat (first | with_reducible exact Ext.refl _ | with_reducible assumption | ((with_reducible refine Ext.setCell ?_ ?_ _); rotate_left; focus (first | omega | (simp <;> omega))) | with_reducible refine Ext.alloc ?_ _ | with_reducible refine Ext.drewN ?_ _ | with_reducible refine Ext.drew ?_ | with_reducible refine Ext.trans ?_ (by with_reducible assumption)))))).mono ?_
    rw [H1.out]
    rintro e w1 ⟨rfl, he⟩
    have c0 := he.box 0 (.int .i64 u) rfl
    have c1 := he.box 1 (.slice A n d) rfl
    go_wp2_with fail
    have hfd := field_game1
    refine (l12Play_c u A n d cls _ (h.ext (by (repeat (first | with_reducible exact Ext.refl _ | with_reducible assumption | ((with_reducible refine Ext.setCell ?_ ?_ _); rotate_left; focus (first | omega | (simp <;> omega))) | with_reducible refine Ext.alloc ?_ _ | with_reducible refine Ext.drewN ?_ _ | with_reducible refine Ext.drew ?_ | with_reducible refine Ext.trans ?_ (by with_reducible assumption))))) (by omega) HC.out).mono ?_
    rintro e w2 ⟨g1, g2, g3, rfl, hT, he2⟩
    go_wp2_with fail
    refine (l12Code_c B m q a _ (k.ext (by (repeat (first | with_reducible exact Ext.refl _ | with_reducible assumption | ((with_reducible refine Ext.setCell ?_ ?_ _); rotate_left; focus (first | omega | (simp <;> omega))) | with_reducible refine Ext.alloc ?_ _ | with_reducible refine Ext.drewN ?_ _ | with_reducible refine Ext.drew ?_ | with_reducible refine Ext.trans ?_ (by with_reducible assumption))))) hm6 HC6.out).mono ?_
    rintro e w3 ⟨rfl, he3⟩
    have f1 := (hT.ext he3).sz hcd
    rw [HX1.out] at f1
    clear HX1
    generalize codeOf a = cd at *
    go_wp2
    go_ret2; exact ⟨rfl, by (repeat (first | with_reducible exact Ext.refl _ | with_reducible assumption | ((with_reducible refine Ext.setCell ?_ ?_ _); rotate_left; focus (first | omega | (simp <;> omega))) | with_reducible refine Ext.alloc ?_ _ | with_reducible refine Ext.drewN ?_ _ | with_reducible refine Ext.drew ?_ | with_reducible refine Ext.trans ?_ (by with_reducible assumption)))⟩
set_option maxRecDepth 100000 in
theorem impl_SizeOf_c (v : Int) (A : Option Addr) (n d : Nat) (cls : List (List Int)) (B : Option Addr) (m q : Nat) (a : List Int) (w : World) (h : Intss w A n cls) (k : Ints w B m a) :
    Calls Try.prog 25 #[.agg #[.int .i64 v, .slice A n d], .slice B m q] w fun e w' => e = .returned (.tuple #[.int .i64 (num_sz v cls a), .bool (asked v cls a)]) ∧ Ext w w' := by
  unfold num_sz
  cases h1 : asked v cls a
  · simp only [Bool.false_eq_true, if_false]
    go_enter Try.func25, Try.ntmps25
    go_wp2_with fail
    refine (gameAt_no _ _ _ _ cls _ _ _ a _ (h.ext (by (repeat (first | with_reducible exact Ext.refl _ | with_reducible assumption | ((with_reducible refine Ext.setCell ?_ ?_ _); rotate_left; focus (first | omega | (simp <;> omega))) | with_reducible refine Ext.alloc ?_ _ | with_reducible refine Ext.drewN ?_ _ | with_reducible refine Ext.drew ?_ | with_reducible refine Ext.trans ?_ (by with_reducible assumption))))) (k.ext (by (repeat (first | with_reducible exact Ext.refl _ | with_reducible assumption | ((with_reducible refine Ext.setCell ?_ ?_ _); rotate_left; focus (first | omega | (simp <;> omega))) | with_reducible refine Ext.alloc ?_ _ | with_reducible refine Ext.drewN ?_ _ | with_reducible refine Ext.drew ?_ | with_reducible refine Ext.trans ?_ (by with_reducible assumption))))) h1).mono ?_
    rintro e w1 ⟨rfl, he⟩
    go_wp2
    go_ret2; exact ⟨rfl, by (repeat (first | with_reducible exact Ext.refl _ | with_reducible assumption | ((with_reducible refine Ext.setCell ?_ ?_ _); rotate_left; focus (first | omega | (simp <;> omega))) | with_reducible refine Ext.alloc ?_ _ | with_reducible refine Ext.drewN ?_ _ | with_reducible refine Ext.drew ?_ | with_reducible refine Ext.trans ?_ (by with_reducible assumption)))⟩
  · obtain ⟨ht, ha⟩ := and2_true h1
    obtain ⟨hc, hv, _⟩ := takes_facts ht
    obtain ⟨u, rfl⟩ := int_nat hv.1
    rw [show ((u : Int)).toNat = u by omega]
    have hcd := (asg_code ha).2
    have H1 := hide h1
    clear h1 hc ht ha
    simp only [if_true]
    obtain ⟨x1, hx1⟩ : ∃ x, (gAll u cls).sz.getD (codeOf a) 0 = x := ⟨_, rfl⟩
    rw [hx1]
    have HX1 := hide hx1
    clear hx1
    go_enter Try.func25, Try.ntmps25
    go_wp2_with fail
    refine (gameAt_yes u A n d cls B m q a _ (h.ext (by (repeat (first | with_reducible exact Ext.refl _ | with_reducible assumption | ((with_reducible refine Ext.setCell ?_ ?_ _); rotate_left; focus (first | omega | (simp <;> omega))) | with_reducible refine Ext.alloc ?_ _ | with_reducible refine Ext.drewN ?_ _ | with_reducible refine Ext.drew ?_ | with_reducible refine Ext.trans ?_ (by with_reducible assumption))))) (k.ext (by (repeat (first | with_reducible exact Ext.refl _ | with_reducible assumption | ((with_reducible refine Ext.setCell ?_ ?_ _); rotate_left; focus (first | omega | (simp <;> omega))) | with_reducible refine Ext.alloc ?_ _ | with_reducible refine Ext.drewN ?_ _ | with_reducible refine Ext.drew ?_ | with_reducible refine Ext.trans ?_ (by with_reducible assumption))))) H1.out).mono ?_
    rintro e w1 ⟨b, g0, g1, g2, g3, ov, rfl, hG, hov, he⟩
    have hov := hide hov
    have f1 := hG.tab.sz hcd
    have e3 := hG.box.cell 4 (.slice (some ⟨g2, 0, none⟩) (pow3 u) (pow3 u)) rfl
    rw [HX1.out] at f1
    clear HX1
    generalize codeOf a = cd at *
    go_wp2
    go_ret2; exact ⟨rfl, by (repeat (first | with_reducible exact Ext.refl _ | with_reducible assumption | ((with_reducible refine Ext.setCell ?_ ?_ _); rotate_left; focus (first | omega | (simp <;> omega))) | with_reducible refine Ext.alloc ?_ _ | with_reducible refine Ext.drewN ?_ _ | with_reducible refine Ext.drew ?_ | with_reducible refine Ext.trans ?_ (by with_reducible assumption)))⟩
def num_ht (v : Int) (cls : List (List Int)) (a : List Int) : Int := if asked v cls a then (gAll v.toNat cls).ht.getD (codeOf a) 0 else 0
set_option maxRecDepth 100000 in
theorem spec_HeightOf_c (v : Int) (A : Option Addr) (n d : Nat) (cls : List (List Int)) (B : Option Addr) (m q : Nat) (a : List Int) (w : World) (h : Intss w A n cls) (k : Ints w B m a) :
    Calls Try.prog 26 #[.agg #[.int .i64 v, .slice A n d], .slice B m q] w fun e w' => e = .returned (.tuple #[.int .i64 (num_ht v cls a), .bool (asked v cls a)]) ∧ Ext w w' := by
  unfold num_ht
  cases h1 : asked v cls a
  · simp only [Bool.false_eq_true, if_false]
    go_enter Try.func26, Try.ntmps26
    go_wp2_with fail
    refine (l12Asked_c _ _ _ _ cls _ _ _ a _ (h.ext (by (repeat (first | with_reducible exact Ext.refl _ | with_reducible assumption | ((with_reducible refine Ext.setCell ?_ ?_ _); rotate_left; focus (first | omega | (simp <;> omega))) | with_reducible refine Ext.alloc ?_ _ | with_reducible refine Ext.drewN ?_ _ | with_reducible refine Ext.drew ?_ | with_reducible refine Ext.trans ?_ (by with_reducible assumption))))) (k.ext (by (repeat (first | with_reducible exact Ext.refl _ | with_reducible assumption | ((with_reducible refine Ext.setCell ?_ ?_ _); rotate_left; focus (first | omega | (simp <;> omega))) | with_reducible refine Ext.alloc ?_ _ | with_reducible refine Ext.drewN ?_ _ | with_reducible refine Ext.drew ?_ | with_reducible refine Ext.trans ?_ (by with_reducible assumption)))))).mono ?_
    rw [h1]
    rintro e w1 ⟨rfl, he⟩
    go_wp2
    go_ret2; exact ⟨rfl, by (repeat (first | with_reducible exact Ext.refl _ | with_reducible assumption | ((with_reducible refine Ext.setCell ?_ ?_ _); rotate_left; focus (first | omega | (simp <;> omega))) | with_reducible refine Ext.alloc ?_ _ | with_reducible refine Ext.drewN ?_ _ | with_reducible refine Ext.drew ?_ | with_reducible refine Ext.trans ?_ (by with_reducible assumption)))⟩
  · obtain ⟨ht, ha⟩ := and2_true h1
    obtain ⟨hc, hv, _⟩ := takes_facts ht
    have HC := hide (fun c hcc => (cnf_lits hc c hcc).2)
    obtain ⟨u, rfl⟩ := int_nat hv.1
    rw [show ((u : Int)).toNat = u by omega]
    obtain ⟨_, hc6, hlen⟩ := clause_facts ha
    have hm6 : m ≤ 6 := by have := k.len; omega
    have HC6 := hide (show ∀ x ∈ a, -6 ≤ x ∧ x ≤ 6 ∧ x ≠ 0 from fun x hx => by have := hc6 x hx; omega)
    have hcd := (asg_code ha).2
    have H1 := hide h1
    clear h1 hc ht ha hc6 hlen
    simp only [if_true]
    obtain ⟨x1, hx1⟩ : ∃ x, (gAll u cls).ht.getD (codeOf a) 0 = x := ⟨_, rfl⟩
    rw [hx1]
    have HX1 := hide hx1
    clear hx1
    go_enter Try.func26, Try.ntmps26
    go_wp2_with fail
    refine (l12Asked_c _ _ _ _ cls _ _ _ a _ (h.ext (by (repeat (first | with_reducible exact Ext.refl _ | with_reducible assumption | ((with_reducible refine Ext.setCell ?_ ?_ _); rotate_left; focus (first | omega | (simp <;> omega))) | with_reducible refine Ext.alloc ?_ _ | with_reducible refine Ext.drewN ?_ _ | with_reducible refine Ext.drew ?_ | with_reducible refine Ext.trans ?_ (by with_reducible assumption))))) (k.ext (by (repeat (first | with_reducible exact Ext.refl _ | with_reducible assumption | ((with_reducible refine Ext.setCell ?_ ?_ _); rotate_left; focus (first | omega | (simp <;> omega))) | with_reducible refine Ext.alloc ?_ _ | with_reducible refine Ext.drewN ?_ _ | with_reducible refine Ext.drew ?_ | with_reducible refine Ext.trans ?_ (by with_reducible assumption)))))).mono ?_
    rw [H1.out]
    rintro e w1 ⟨rfl, he⟩
    have c0 := he.box 0 (.int .i64 u) rfl
    have c1 := he.box 1 (.slice A n d) rfl
    go_wp2_with fail
    have hfd := field_game2
    refine (l12Play_c u A n d cls _ (h.ext (by (repeat (first | with_reducible exact Ext.refl _ | with_reducible assumption | ((with_reducible refine Ext.setCell ?_ ?_ _); rotate_left; focus (first | omega | (simp <;> omega))) | with_reducible refine Ext.alloc ?_ _ | with_reducible refine Ext.drewN ?_ _ | with_reducible refine Ext.drew ?_ | with_reducible refine Ext.trans ?_ (by with_reducible assumption))))) (by omega) HC.out).mono ?_
    rintro e w2 ⟨g1, g2, g3, rfl, hT, he2⟩
    go_wp2_with fail
    refine (l12Code_c B m q a _ (k.ext (by (repeat (first | with_reducible exact Ext.refl _ | with_reducible assumption | ((with_reducible refine Ext.setCell ?_ ?_ _); rotate_left; focus (first | omega | (simp <;> omega))) | with_reducible refine Ext.alloc ?_ _ | with_reducible refine Ext.drewN ?_ _ | with_reducible refine Ext.drew ?_ | with_reducible refine Ext.trans ?_ (by with_reducible assumption))))) hm6 HC6.out).mono ?_
    rintro e w3 ⟨rfl, he3⟩
    have f1 := (hT.ext he3).ht hcd
    rw [HX1.out] at f1
    clear HX1
    generalize codeOf a = cd at *
    go_wp2
    go_ret2; exact ⟨rfl, by (repeat (first | with_reducible exact Ext.refl _ | with_reducible assumption | ((with_reducible refine Ext.setCell ?_ ?_ _); rotate_left; focus (first | omega | (simp <;> omega))) | with_reducible refine Ext.alloc ?_ _ | with_reducible refine Ext.drewN ?_ _ | with_reducible refine Ext.drew ?_ | with_reducible refine Ext.trans ?_ (by with_reducible assumption)))⟩
set_option maxRecDepth 100000 in
theorem impl_HeightOf_c (v : Int) (A : Option Addr) (n d : Nat) (cls : List (List Int)) (B : Option Addr) (m q : Nat) (a : List Int) (w : World) (h : Intss w A n cls) (k : Ints w B m a) :
    Calls Try.prog 27 #[.agg #[.int .i64 v, .slice A n d], .slice B m q] w fun e w' => e = .returned (.tuple #[.int .i64 (num_ht v cls a), .bool (asked v cls a)]) ∧ Ext w w' := by
  unfold num_ht
  cases h1 : asked v cls a
  · simp only [Bool.false_eq_true, if_false]
    go_enter Try.func27, Try.ntmps27
    go_wp2_with fail
    refine (gameAt_no _ _ _ _ cls _ _ _ a _ (h.ext (by (repeat (first | with_reducible exact Ext.refl _ | with_reducible assumption | ((with_reducible refine Ext.setCell ?_ ?_ _); rotate_left; focus (first | omega | (simp <;> omega))) | with_reducible refine Ext.alloc ?_ _ | with_reducible refine Ext.drewN ?_ _ | with_reducible refine Ext.drew ?_ | with_reducible refine Ext.trans ?_ (by with_reducible assumption))))) (k.ext (by (repeat (first | with_reducible exact Ext.refl _ | with_reducible assumption | ((with_reducible refine Ext.setCell ?_ ?_ _); rotate_left; focus (first | omega | (simp <;> omega))) | with_reducible refine Ext.alloc ?_ _ | with_reducible refine Ext.drewN ?_ _ | with_reducible refine Ext.drew ?_ | with_reducible refine Ext.trans ?_ (by with_reducible assumption))))) h1).mono ?_
    rintro e w1 ⟨rfl, he⟩
    go_wp2
    go_ret2; exact ⟨rfl, by (repeat (first | with_reducible exact Ext.refl _ | with_reducible assumption | ((with_reducible refine Ext.setCell ?_ ?_ _); rotate_left; focus (first | omega | (simp <;> omega))) | with_reducible refine Ext.alloc ?_ _ | with_reducible refine Ext.drewN ?_ _ | with_reducible refine Ext.drew ?_ | with_reducible refine Ext.trans ?_ (by with_reducible assumption)))⟩
  · obtain ⟨ht, ha⟩ := and2_true h1
    obtain ⟨hc, hv, _⟩ := takes_facts ht
    obtain ⟨u, rfl⟩ := int_nat hv.1
    rw [show ((u : Int)).toNat = u by omega]
    have hcd := (asg_code ha).2
    have H1 := hide h1
    clear h1 hc ht ha
    simp only [if_true]
    obtain ⟨x1, hx1⟩ : ∃ x, (gAll u cls).ht.getD (codeOf a) 0 = x := ⟨_, rfl⟩
    rw [hx1]
    have HX1 := hide hx1
    clear hx1
    go_enter Try.func27, Try.ntmps27
    go_wp2_with fail
    refine (gameAt_yes u A n d cls B m q a _ (h.ext (by (repeat (first | with_reducible exact Ext.refl _ | with_reducible assumption | ((with_reducible refine Ext.setCell ?_ ?_ _); rotate_left; focus (first | omega | (simp <;> omega))) | with_reducible refine Ext.alloc ?_ _ | with_reducible refine Ext.drewN ?_ _ | with_reducible refine Ext.drew ?_ | with_reducible refine Ext.trans ?_ (by with_reducible assumption))))) (k.ext (by (repeat (first | with_reducible exact Ext.refl _ | with_reducible assumption | ((with_reducible refine Ext.setCell ?_ ?_ _); rotate_left; focus (first | omega | (simp <;> omega))) | with_reducible refine Ext.alloc ?_ _ | with_reducible refine Ext.drewN ?_ _ | with_reducible refine Ext.drew ?_ | with_reducible refine Ext.trans ?_ (by with_reducible assumption))))) H1.out).mono ?_
    rintro e w1 ⟨b, g0, g1, g2, g3, ov, rfl, hG, hov, he⟩
    have hov := hide hov
    have f1 := hG.tab.ht hcd
    have e3 := hG.box.cell 5 (.slice (some ⟨g3, 0, none⟩) (pow3 u) (pow3 u)) rfl
    rw [HX1.out] at f1
    clear HX1
    generalize codeOf a = cd at *
    go_wp2
    go_ret2; exact ⟨rfl, by (repeat (first | with_reducible exact Ext.refl _ | with_reducible assumption | ((with_reducible refine Ext.setCell ?_ ?_ _); rotate_left; focus (first | omega | (simp <;> omega))) | with_reducible refine Ext.alloc ?_ _ | with_reducible refine Ext.drewN ?_ _ | with_reducible refine Ext.drew ?_ | with_reducible refine Ext.trans ?_ (by with_reducible assumption)))⟩
end Go.Proofs.Ytmpfhibncnamnaa
