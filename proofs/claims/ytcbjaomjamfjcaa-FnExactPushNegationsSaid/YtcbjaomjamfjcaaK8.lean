/-
  JoinCircuits: both texts return the same.
-/
import Derived.Test.YtcbjaomjamfjcaaK7
namespace Go.Proofs.Ytcbjaomjamfjcaa
set_option linter.unusedSimpArgs false
set_option linter.unusedVariables false
open Go.RowKit

def joinOk (v kind : Int) (one two : List Gt) : Bool := circB v one && circB v two && (decide (kind = 5) || decide (kind = 6)) && decide (one.length + two.length < 200)
/-- The first circuit, and behind it the first k gates of the second one, moved. -/
def joinTo (one two : List Gt) (k : Nat) : List Gt := one ++ (two.take k).map (moveG (fun x => x + one.length))
def joinG (kind : Int) (one two : List Gt) : List Gt := joinTo one two two.length ++ [(kind, (one.length : Int) - 1, (one.length : Int) + two.length - 1)]
theorem joinTo_succ {one two : List Gt} {i : Nat} {g : Gt} (h : Hid (two[i]? = some g)) : fl (joinTo one two (i + 1)) = fl (joinTo one two i) ++ [(moveG (fun x => x + one.length) g).1, (moveG (fun x => x + one.length) g).2.1, (moveG (fun x => x + one.length) g).2.2] := by
  unfold joinTo
  rw [take_succ_of h, List.map_append, ← List.append_assoc, fl_append]
  rfl
theorem joinG_fl (kind : Int) (one two : List Gt) : fl (joinG kind one two) = fl (joinTo one two two.length) ++ [kind, (one.length : Int) - 1, (one.length : Int) + two.length - 1] := by
  unfold joinG; rw [fl_append]; rfl
theorem joinTo_length (one two : List Gt) {k : Nat} (hk : k ≤ two.length) : (joinTo one two k).length = one.length + k := by
  unfold joinTo; simp [hk]
theorem join_facts {v kind : Int} {one two : List Gt} (h : joinOk v kind one two = true) : (circB v one = true ∧ circB v two = true) ∧ (kind = 5 ∨ kind = 6) ∧ one.length + two.length < 200 := by
  obtain ⟨h1, h2, h3, h4⟩ := and4_true h
  exact ⟨⟨h1, h2⟩, by simpa using h3, by simpa using h4⟩
theorem ObF.empty {e : TypeId} {sz : Nat} {W : World} {lo : Nat} (h : lo ≤ W.heap.size) : ObF e sz (W.alloc (.cells #[] e)) lo (W.heap.size + 1) (some ⟨W.heap.size, 0, none⟩) 0 0 [] :=
  ⟨Own.arr #[] 0 [] h (by decide) (by simp) rfl, fun k hk => by simp [Value.ownBlock] at hk; omega, by omega⟩
theorem ObF.nil {e : TypeId} {sz : Nat} {w : World} {lo hi : Nat} : ObF e sz w lo hi none 0 0 [] := ⟨Own.nil _ _ _ _, by simp [Value.ownBlock], by omega⟩
theorem join_no {v kind : Int} {one two : List Gt} (h : joinOk v kind one two = false) : circB v one = false ∨ (circB v one = true ∧ circB v two = false) ∨ (circB v one = true ∧ circB v two = true ∧ (kind ≠ 5 ∧ kind ≠ 6)) ∨ (circB v one = true ∧ circB v two = true ∧ (kind = 5 ∨ kind = 6) ∧ 200 ≤ one.length + two.length) := by
  rcases and4_false h with h1 | ⟨h1, h2⟩ | ⟨h1, h2, h3⟩ | ⟨h1, h2, h3, h4⟩
  · exact .inl h1
  · exact .inr (.inl ⟨h1, h2⟩)
  · exact .inr (.inr (.inl ⟨h1, h2, by simpa using h3⟩))
  · exact .inr (.inr (.inr ⟨h1, h2, by simpa using h3, by simpa using h4⟩))
theorem Gates.get {w : World} {g n : Nat} {gs : List Gt} (h : Gates w (some ⟨g, 0, none⟩) n gs) {i : Nat} {k a b : Int} (hx : Hid (gs[i]? = some (k, a, b))) :
    w.cell? ⟨g, i * 3, none⟩ = some (.int .i64 k) ∧ w.cell? ⟨g, i * 3 + 1, none⟩ = some (.int .i64 a) ∧ w.cell? ⟨g, i * 3 + 2, none⟩ = some (.int .i64 b) := by
  have hi := (List.getElem?_eq_some_iff.1 hx.out).1
  have hl := h.len
  obtain ⟨g', e, hc⟩ := h.reads (by omega)
  injection e with e
  injection e with e
  subst e
  exact hc _ _ hx.out
set_option maxRecDepth 100000 in
set_option maxHeartbeats 3200000 in
theorem spec_JoinCircuits_o (v kind : Int) (A : Option Addr) (n d : Nat) (gs : List Gt) (B : Option Addr) (m c : Nat) (hs : List Gt) (w : World) (h : Flat 3 w A n (fl gs)) (k : Flat 3 w B m (fl hs)) :
    Calls Try.prog 16 #[.int .i64 v, .int .i64 kind, .slice A n d, .slice B m c] w fun e w' =>
      ∃ A' n' c', e = .returned (.tuple #[.slice A' n' c', .bool (joinOk v kind gs hs)]) ∧ ObF 86 3 w' w.heap.size w'.heap.size A' n' c' (fl (if joinOk v kind gs hs then joinG kind gs hs else [])) ∧ Ext w w' := by
  have hl := hide h.gates.len
  have kl := hide k.gates.len
  have hbn := h.bound
  have hbm := k.bound
  cases hq : joinOk v kind gs hs
  · simp only [Bool.false_eq_true, if_false, fl]
    rcases join_no hq with h1 | ⟨h1, h2⟩ | ⟨h1, h2, h3, h4⟩ | ⟨h1, h2, h3, h4⟩ <;> clear hq
    · have H1 := hide h1
      clear h1
      go_enter Try.func16, Try.ntmps16
      go_wp2_with (go_at_call 66; refine (l6Good_c _ _ _ _ gs _ (h.gates.ext (by (repeat (first | with_reducible exact Ext.refl _ | with_reducible assumption | ((with_reducible refine Ext.setCell ?_ ?_ _); rotate_left; focus (first | omega | (simp <;> omega))) | with_reducible refine Ext.alloc ?_ _ | with_reducible refine Ext.drewN ?_ _ | with_reducible refine Ext.drew ?_ | with_reducible refine Ext.trans ?_ (by with_reducible assumption)))))).mono ?_; rw [H1.out]; rintro e w1 ⟨rfl, he1⟩)
      go_ret2
      exact ⟨_, _, _, rfl, by simpa using ObF.empty (W := w1) (lo := w.heap.size) he1.size, by (repeat (first | with_reducible exact Ext.refl _ | with_reducible assumption | ((with_reducible refine Ext.setCell ?_ ?_ _); rotate_left; focus (first | omega | (simp <;> omega))) | with_reducible refine Ext.alloc ?_ _ | with_reducible refine Ext.drewN ?_ _ | with_reducible refine Ext.drew ?_ | with_reducible refine Ext.trans ?_ (by with_reducible assumption)))⟩
    · have H1 := hide h1
      have H2 := hide h2
      clear h1 h2
      go_enter Try.func16, Try.ntmps16
      go_wp2_with fail
      refine (l6Good_c _ _ _ _ gs _ (h.gates.ext (by (repeat (first | with_reducible exact Ext.refl _ | with_reducible assumption | ((with_reducible refine Ext.setCell ?_ ?_ _); rotate_left; focus (first | omega | (simp <;> omega))) | with_reducible refine Ext.alloc ?_ _ | with_reducible refine Ext.drewN ?_ _ | with_reducible refine Ext.drew ?_ | with_reducible refine Ext.trans ?_ (by with_reducible assumption)))))).mono ?_; rw [H1.out]; rintro e w1 ⟨rfl, he1⟩
      go_wp2_with fail
      refine (l6Good_c _ _ _ _ hs _ (k.gates.ext (by (repeat (first | with_reducible exact Ext.refl _ | with_reducible assumption | ((with_reducible refine Ext.setCell ?_ ?_ _); rotate_left; focus (first | omega | (simp <;> omega))) | with_reducible refine Ext.alloc ?_ _ | with_reducible refine Ext.drewN ?_ _ | with_reducible refine Ext.drew ?_ | with_reducible refine Ext.trans ?_ (by with_reducible assumption)))))).mono ?_; rw [H2.out]; rintro e w2 ⟨rfl, he2⟩
      go_wp2_with fail
      go_ret2
      have he := he1.trans he2
      exact ⟨_, _, _, rfl, by simpa using ObF.empty (W := w2) (lo := w.heap.size) he.size, by (repeat (first | with_reducible exact Ext.refl _ | with_reducible assumption | ((with_reducible refine Ext.setCell ?_ ?_ _); rotate_left; focus (first | omega | (simp <;> omega))) | with_reducible refine Ext.alloc ?_ _ | with_reducible refine Ext.drewN ?_ _ | with_reducible refine Ext.drew ?_ | with_reducible refine Ext.trans ?_ (by with_reducible assumption)))⟩
    · have H1 := hide h1
      have H2 := hide h2
      clear h1 h2
      have h5 : (kind != 5) = true := by simpa using h3
      have h6 : (kind != 6) = true := by simpa using h4
      clear h3 h4
      go_enter Try.func16, Try.ntmps16
      go_wp2_with fail
      refine (l6Good_c _ _ _ _ gs _ (h.gates.ext (by (repeat (first | with_reducible exact Ext.refl _ | with_reducible assumption | ((with_reducible refine Ext.setCell ?_ ?_ _); rotate_left; focus (first | omega | (simp <;> omega))) | with_reducible refine Ext.alloc ?_ _ | with_reducible refine Ext.drewN ?_ _ | with_reducible refine Ext.drew ?_ | with_reducible refine Ext.trans ?_ (by with_reducible assumption)))))).mono ?_; rw [H1.out]; rintro e w1 ⟨rfl, he1⟩
      go_wp2_with fail
      refine (l6Good_c _ _ _ _ hs _ (k.gates.ext (by (repeat (first | with_reducible exact Ext.refl _ | with_reducible assumption | ((with_reducible refine Ext.setCell ?_ ?_ _); rotate_left; focus (first | omega | (simp <;> omega))) | with_reducible refine Ext.alloc ?_ _ | with_reducible refine Ext.drewN ?_ _ | with_reducible refine Ext.drew ?_ | with_reducible refine Ext.trans ?_ (by with_reducible assumption)))))).mono ?_; rw [H2.out]; rintro e w2 ⟨rfl, he2⟩
      go_wp2_with fail
      go_ret2
      have he := he1.trans he2
      exact ⟨_, _, _, rfl, by simpa using ObF.empty (W := w2) (lo := w.heap.size) he.size, by (repeat (first | with_reducible exact Ext.refl _ | with_reducible assumption | ((with_reducible refine Ext.setCell ?_ ?_ _); rotate_left; focus (first | omega | (simp <;> omega))) | with_reducible refine Ext.alloc ?_ _ | with_reducible refine Ext.drewN ?_ _ | with_reducible refine Ext.drew ?_ | with_reducible refine Ext.trans ?_ (by with_reducible assumption)))⟩
    · have H1 := hide h1
      have H2 := hide h2
      clear h1 h2
      rw [← hl.out, ← kl.out] at h4
      have h44 : (200 : Int) ≤ (n : Int) + m := by omega
      clear h4
      rcases h3 with rfl | rfl
      all_goals
        go_enter Try.func16, Try.ntmps16
        go_wp2_with fail
        refine (l6Good_c _ _ _ _ gs _ (h.gates.ext (by (repeat (first | with_reducible exact Ext.refl _ | with_reducible assumption | ((with_reducible refine Ext.setCell ?_ ?_ _); rotate_left; focus (first | omega | (simp <;> omega))) | with_reducible refine Ext.alloc ?_ _ | with_reducible refine Ext.drewN ?_ _ | with_reducible refine Ext.drew ?_ | with_reducible refine Ext.trans ?_ (by with_reducible assumption)))))).mono ?_; rw [H1.out]; rintro e w1 ⟨rfl, he1⟩
        go_wp2_with fail
        refine (l6Good_c _ _ _ _ hs _ (k.gates.ext (by (repeat (first | with_reducible exact Ext.refl _ | with_reducible assumption | ((with_reducible refine Ext.setCell ?_ ?_ _); rotate_left; focus (first | omega | (simp <;> omega))) | with_reducible refine Ext.alloc ?_ _ | with_reducible refine Ext.drewN ?_ _ | with_reducible refine Ext.drew ?_ | with_reducible refine Ext.trans ?_ (by with_reducible assumption)))))).mono ?_; rw [H2.out]; rintro e w2 ⟨rfl, he2⟩
        go_wp2_with fail
        go_ret2
        have he := he1.trans he2
        exact ⟨_, _, _, rfl, by simpa using ObF.empty (W := w2) (lo := w.heap.size) he.size, by (repeat (first | with_reducible exact Ext.refl _ | with_reducible assumption | ((with_reducible refine Ext.setCell ?_ ?_ _); rotate_left; focus (first | omega | (simp <;> omega))) | with_reducible refine Ext.alloc ?_ _ | with_reducible refine Ext.drewN ?_ _ | with_reducible refine Ext.drew ?_ | with_reducible refine Ext.trans ?_ (by with_reducible assumption)))⟩
  · simp only [if_true, joinG_fl]
    obtain ⟨⟨h1, h2⟩, h3, h4⟩ := join_facts hq
    have HG := hide (circ_facts h2).2.2
    have hn1 := (circ_facts h1).2.1.1
    have H1 := hide h1
    have H2 := hide h2
    clear hq h1 h2
    rw [← hl.out] at h4 hn1
    rw [← kl.out] at h4
    have h44 : (n : Int) + m < 200 := by omega
    obtain ⟨g, rfl, -⟩ := h.reads (by omega)
    rw [← hl.out, ← kl.out]
    have HM := hide (show ∀ i g, Hid (hs[i]? = some g) → fl (joinTo gs hs (i + 1)) = fl (joinTo gs hs i) ++ [(moveG (fun x => x + (n : Int)) g).1, (moveG (fun x => x + (n : Int)) g).2.1, (moveG (fun x => x + (n : Int)) g).2.2] from fun i g hg => by have := joinTo_succ (one := gs) hg; rwa [← hl.out] at this)
    have H0 : Hid (fl (joinTo gs hs 0) = fl gs) := hide (by simp [joinTo])
    have hk5 : (kind == 5) = true ∨ (kind == 6) = true := by simpa using h3
    have hkk : (kind != 5) = false ∨ ((kind != 5) = true ∧ (kind != 6) = false) := by rcases h3 with rfl | rfl <;> simp
    clear hk5
    rcases h3 with rfl | rfl
    all_goals
      clear hkk
      go_enter Try.func16, Try.ntmps16
      go_wp2_with fail
      refine (l6Good_c _ _ _ _ gs _ (h.gates.ext (by (repeat (first | with_reducible exact Ext.refl _ | with_reducible assumption | ((with_reducible refine Ext.setCell ?_ ?_ _); rotate_left; focus (first | omega | (simp <;> omega))) | with_reducible refine Ext.alloc ?_ _ | with_reducible refine Ext.drewN ?_ _ | with_reducible refine Ext.drew ?_ | with_reducible refine Ext.trans ?_ (by with_reducible assumption)))))).mono ?_; rw [H1.out]; rintro e w1 ⟨rfl, he1⟩
      go_wp2_with fail
      refine (l6Good_c _ _ _ _ hs _ (k.gates.ext (by (repeat (first | with_reducible exact Ext.refl _ | with_reducible assumption | ((with_reducible refine Ext.setCell ?_ ?_ _); rotate_left; focus (first | omega | (simp <;> omega))) | with_reducible refine Ext.alloc ?_ _ | with_reducible refine Ext.drewN ?_ _ | with_reducible refine Ext.drew ?_ | with_reducible refine Ext.trans ?_ (by with_reducible assumption)))))).mono ?_; rw [H2.out]; rintro e w2 ⟨rfl, he2⟩
      have e12 : Ext w w2 := he1.trans he2
      clear he1 he2
      have hz2 := e12.size
      have h0 : Own (w2.alloc (.cells #[] 86)) w.heap.size 86 3 (some ⟨w2.heap.size, 0, none⟩) 0 0 [] := Own.arr #[] 0 [] hz2 (by decide) rfl rfl
      go_wp2_with (at_builtin; refine wpList_appS rfl _ _ _ 86 rfl Try.underlying24 _ 3 24 info_gate rfl (by decide) rfl h0 g n d ((fl gs).map (Value.int .i64)) rfl (by simpa using h.len) (fl_cell (h.ext (by (repeat (first | with_reducible exact Ext.refl _ | with_reducible assumption | ((with_reducible refine Ext.setCell ?_ ?_ _); rotate_left; focus (first | omega | (simp <;> omega))) | with_reducible refine Ext.alloc ?_ _ | with_reducible refine Ext.drewN ?_ _ | with_reducible refine Ext.drew ?_ | with_reducible refine Ext.trans ?_ (by with_reducible assumption))))) rfl) (one_cells _) (by omega) (by omega) (by simp; omega) ?_; intro A' c' w3 ho' hg'; rw [Nat.zero_add] at ho'; try rw [Nat.zero_add])
      have e3 : Ext w w3 := (show Ext w (w2.alloc (.cells #[] 86)) by (repeat (first | with_reducible exact Ext.refl _ | with_reducible assumption | ((with_reducible refine Ext.setCell ?_ ?_ _); rotate_left; focus (first | omega | (simp <;> omega))) | with_reducible refine Ext.alloc ?_ _ | with_reducible refine Ext.drewN ?_ _ | with_reducible refine Ext.drew ?_ | with_reducible refine Ext.trans ?_ (by with_reducible assumption)))).trans_own (Nat.le_refl _) h0 hg'
      have ho' : Own w3 w.heap.size 86 3 A' n c' ((fl (joinTo gs hs 0)).map (Value.int .i64)) := by rw [H0.out]; simpa using ho'
      have hz3 := e3.size
      clear hg' h0
      have ht0 : Own (w3.alloc (.cells #[] 3)) w.heap.size 3 1 (some ⟨w3.heap.size, 0, none⟩) 0 0 ((upFrom (n : Int) 0).map (Value.int .i64)) := Own.arr #[] 0 [] hz3 (by decide) rfl rfl
      refine wp_loopF 80 _ rfl rfl [1, 2, 3, 66, 67, 68, 69, 70, 71, 72, 73, 74, 75, 76, 77, 78, 79] rfl (fun fr wr => Ext w wr ∧ ∃ i : Nat, i ≤ m ∧ (fr 12) = .int .i64 i ∧ (∃ X y, (fr 10) = .slice X (n + i : Nat) y ∧ Own wr w.heap.size 86 3 X (n + i) y ((fl (joinTo gs hs i)).map (Value.int .i64))) ∧ (∃ X y, (fr 11) = .slice X i y ∧ Own wr w.heap.size 3 1 X i y ((upFrom (n : Int) i).map (Value.int .i64)))) (fun fr wr => m - (intOf (fr 12)).toNat) ?_ ?_
      · (exact ⟨by (repeat (first | with_reducible exact Ext.refl _ | with_reducible assumption | ((with_reducible refine Ext.setCell ?_ ?_ _); rotate_left; focus (first | omega | (simp <;> omega))) | with_reducible refine Ext.alloc ?_ _ | with_reducible refine Ext.drewN ?_ _ | with_reducible refine Ext.drew ?_ | with_reducible refine Ext.trans ?_ (by with_reducible assumption))), 0, by omega, rfl, ⟨_, _, rfl, ho'.alloc _⟩, ⟨_, _, rfl, ht0⟩⟩)
      intro ks fr wr hkept hrel; (try dsimp only at hrel)
      change Code.wp _ _ _ ⟨#[fr 0, ks 1, ks 2, ks 3, fr 4, fr 5, fr 6, fr 7, fr 8, fr 9, fr 10, fr 11, fr 12, fr 13, fr 14, fr 15, fr 16, fr 17, fr 18, fr 19, fr 20, fr 21, fr 22, fr 23, fr 24, fr 25, fr 26, fr 27, fr 28, fr 29, fr 30, fr 31, fr 32, fr 33, fr 34, fr 35, fr 36, fr 37, fr 38, fr 39, fr 40, fr 41, fr 42, fr 43, fr 44, fr 45, fr 46, fr 47, fr 48, fr 49, fr 50, fr 51, fr 52, fr 53, fr 54, fr 55, fr 56, fr 57, fr 58, fr 59, fr 60, fr 61, fr 62, fr 63, fr 64, fr 65, ks 66, ks 67, ks 68, ks 69, ks 70, ks 71, ks 72, ks 73, ks 74, ks 75, ks 76, ks 77, ks 78, ks 79], []⟩ wr
      simp only [KeptV, List.getD_cons_zero, List.getD_cons_succ] at hkept; obtain ⟨hk1, hk2, hk3, hk66, hk67, hk68, hk69, hk70, hk71, hk72, hk73, hk74, hk75, hk76, hk77, hk78, hk79, -⟩ := hkept
      generalize ks 1 = k1 at hk1 ⊢; subst hk1
      generalize ks 2 = k2 at hk2 ⊢; subst hk2
      generalize ks 3 = k3 at hk3 ⊢; subst hk3
      generalize ks 66 = k66 at hk66 ⊢; subst hk66
      generalize ks 67 = k67 at hk67 ⊢; subst hk67
      generalize ks 68 = k68 at hk68 ⊢; subst hk68
      generalize ks 69 = k69 at hk69 ⊢; subst hk69
      generalize ks 70 = k70 at hk70 ⊢; subst hk70
      generalize ks 71 = k71 at hk71 ⊢; subst hk71
      generalize ks 72 = k72 at hk72 ⊢; subst hk72
      generalize ks 73 = k73 at hk73 ⊢; subst hk73
      generalize ks 74 = k74 at hk74 ⊢; subst hk74
      generalize ks 75 = k75 at hk75 ⊢; subst hk75
      generalize ks 76 = k76 at hk76 ⊢; subst hk76
      generalize ks 77 = k77 at hk77 ⊢; subst hk77
      generalize ks 78 = k78 at hk78 ⊢; subst hk78
      generalize ks 79 = k79 at hk79 ⊢; subst hk79
      generalize fr 10 = s10 at hrel ⊢
      generalize fr 11 = s11 at hrel ⊢
      generalize fr 12 = s12 at hrel ⊢
      clear e3 ho' ht0 hz3 hz2 e12
      obtain ⟨he, i, hi, hs1, ⟨X, y, hs2, hox⟩, ⟨X2, y2, hs3, hot⟩⟩ := hrel
      subst hs1; subst hs2; subst hs3
      by_cases hlt : i < m
      · obtain ⟨gb, kk, a, b, rfl, hx, c0, c1, c2⟩ := (k.gates.ext he).at_ hlt
        have hgood := HG.out i _ hx.out
        have HN := hide (HM.out i _ hx)
        have hsz := he.size
        go_wp2_with ((at_builtin; refine wpList_app rfl _ _ _ _ rfl Try.underlying37 _ 1 8 info_int rfl (by decide) rfl hot 1 [.int .i64 ((n : Int) + (i : Int))] (by first | rfl | simp [go_sem]) rfl ?_ ?_ ?_ ?_ ?_; (intro u hu; simp at hu; first | (subst hu; rfl) | (rcases hu with rfl | rfl <;> rfl) | (rcases hu with rfl | rfl | rfl <;> rfl) | (rcases hu with rfl | rfl | rfl | rfl <;> rfl) | (rcases hu with rfl | rfl | rfl | rfl | rfl <;> rfl) | (rcases hu with rfl | rfl | rfl | rfl | rfl | rfl <;> rfl)); omega; omega; (first | omega | (simp; omega)); intro A' c' w' ho' hg' hb'); have e1 : Ext w w' := he.trans_own (Nat.le_refl _) hot hg'; obtain ⟨c0', c1', c2'⟩ := (k.gates.ext e1).get hx)
        have ox1 := hox.kept hg' (hox.ne_type hot (by decide))
        have ot1 : Own w' w.heap.size 3 1 A' (i + 1) c' ((upFrom (n : Int) (i + 1)).map (Value.int .i64)) := by rw [upFrom_succ]; simpa using ho'
        clear he hot hg' hox ho' hb'
        refine (l6Moved_c kk a b A' (i + 1) c' (upFrom (n : Int) (i + 1)) (fun x => x + (n : Int)) _ (ot1.ints (by omega)) (fun x hxi => ⟨x.toNat, by have := hgood.2.1 x hxi; omega, by have := hgood.2.1 x hxi; rw [upFrom_get (by omega)]; congr 1; omega⟩)).mono ?_
        obtain ⟨⟨q1, q2, q3⟩, hG⟩ : ∃ G, moveG (fun x => x + (n : Int)) (kk, a, b) = G := ⟨_, rfl⟩
        rw [hG] at HN ⊢
        clear hG hgood hx
        dsimp only at HN ⊢
        rintro e w4 ⟨rfl, he4⟩
        have e4 := e1.trans he4
        have ox4 := ox1.ext he4
        have ot4 := ot1.ext he4
        have hz4 := e4.size
        clear he4 ox1 ot1 e1
        go_wp2_with (at_builtin; refine wpList_app rfl _ _ _ _ rfl Try.underlying24 _ 3 24 info_gate rfl (by decide) rfl ox4 1 [.int .i64 q1, .int .i64 q2, .int .i64 q3] (by first | rfl | simp [go_sem]) rfl ?_ ?_ ?_ ?_ ?_; (intro u hu; simp at hu; first | (subst hu; rfl) | (rcases hu with rfl | rfl <;> rfl) | (rcases hu with rfl | rfl | rfl <;> rfl) | (rcases hu with rfl | rfl | rfl | rfl <;> rfl) | (rcases hu with rfl | rfl | rfl | rfl | rfl <;> rfl) | (rcases hu with rfl | rfl | rfl | rfl | rfl | rfl <;> rfl)); omega; omega; (first | omega | (simp; omega)); intro A' c' w' ho' hg' hb')
        have HO := hide ho'
        have HE := hide (e4.trans_own (Nat.le_refl _) ox4 hg')
        have HT := hide (ot4.kept hg' (ot4.ne_type ox4 (by decide)))
        clear ho' e4 ox4 ot4 hg' hb'
        exact ⟨⟨(by (repeat (first | exact trivial | refine ⟨rfl, ?_⟩))), HE.out, i + 1, by omega, by go_num, ⟨_, _, rfl, by rw [HN.out, List.map_append, ← Nat.add_assoc]; exact HO.out⟩, ⟨_, _, rfl, HT.out⟩⟩, (by simp [intOf] <;> omega)⟩
      · obtain rfl : i = m := by omega
        have hsz := he.size
        clear hot
        go_wp2_with (at_builtin; refine wpList_app rfl _ _ _ _ rfl Try.underlying24 _ 3 24 info_gate rfl (by decide) rfl hox 1 [.int .i64 _, .int .i64 ((n : Int) - 1), .int .i64 ((n : Int) + i - 1)] (by first | rfl | simp [go_sem]) rfl ?_ ?_ ?_ ?_ ?_; (intro u hu; simp at hu; first | (subst hu; rfl) | (rcases hu with rfl | rfl <;> rfl) | (rcases hu with rfl | rfl | rfl <;> rfl) | (rcases hu with rfl | rfl | rfl | rfl <;> rfl) | (rcases hu with rfl | rfl | rfl | rfl | rfl <;> rfl) | (rcases hu with rfl | rfl | rfl | rfl | rfl | rfl <;> rfl)); omega; omega; (first | omega | (simp; omega)); intro A' c' w' ho' hg' hb')
        go_ret2
        exact ⟨_, _, _, rfl, ObF.of (by simpa using ho') (by omega), he.trans_own (Nat.le_refl _) hox hg'⟩
theorem Join_lit_c (x : Int) (n b : Nat) (w : World) (hx : 0 ≤ x ∧ x ≤ 1000000) (hn : n ≤ 1000000) (hc : w.cell? ⟨b, 0, none⟩ = some (.int .i64 n)) :
    Calls Try.prog 72 #[.int .i64 x, .pointer (some ⟨b, 0, none⟩)] w fun e w' => e = .returned (.int .i64 (x + n)) ∧ Ext w w' := by
  go_enter Try.func72, Try.ntmps72
  go_wp2
  go_ret
  exact ⟨rfl, Ext.refl _⟩
theorem Join_lit_enters : Enters Try.prog 72 := enters_of Try.func72 (by kernel_rfl) (by kernel_rfl)
set_option maxRecDepth 100000 in
set_option maxHeartbeats 3200000 in
theorem impl_JoinCircuits_o (v kind : Int) (A : Option Addr) (n d : Nat) (gs : List Gt) (B : Option Addr) (m c : Nat) (hs : List Gt) (w : World) (h : Flat 3 w A n (fl gs)) (k : Flat 3 w B m (fl hs)) :
    Calls Try.prog 18 #[.int .i64 v, .int .i64 kind, .slice A n d, .slice B m c] w fun e w' =>
      ∃ A' n' c', e = .returned (.tuple #[.slice A' n' c', .bool (joinOk v kind gs hs)]) ∧ ObF 86 3 w' w.heap.size w'.heap.size A' n' c' (fl (if joinOk v kind gs hs then joinG kind gs hs else [])) ∧ Ext w w' := by
  have hl := hide h.gates.len
  have kl := hide k.gates.len
  have hbn := h.bound
  have hbm := k.bound
  cases hq : joinOk v kind gs hs
  · simp only [Bool.false_eq_true, if_false, fl]
    rcases join_no hq with h1 | ⟨h1, h2⟩ | ⟨h1, h2, h3, h4⟩ | ⟨h1, h2, h3, h4⟩ <;> clear hq
    · have H1 := hide h1
      clear h1
      go_enter Try.func18, Try.ntmps18
      go_wp2_with (go_at_call 69; refine (impl_IsCircuit_c _ _ _ _ gs _ (h.gates.ext (by (repeat (first | with_reducible exact Ext.refl _ | with_reducible assumption | ((with_reducible refine Ext.setCell ?_ ?_ _); rotate_left; focus (first | omega | (simp <;> omega))) | with_reducible refine Ext.alloc ?_ _ | with_reducible refine Ext.drewN ?_ _ | with_reducible refine Ext.drew ?_ | with_reducible refine Ext.trans ?_ (by with_reducible assumption)))))).mono ?_; rw [H1.out]; rintro e w1 ⟨rfl, he1⟩)
      go_ret2
      exact ⟨_, _, _, rfl, ObF.nil, by (repeat (first | with_reducible exact Ext.refl _ | with_reducible assumption | ((with_reducible refine Ext.setCell ?_ ?_ _); rotate_left; focus (first | omega | (simp <;> omega))) | with_reducible refine Ext.alloc ?_ _ | with_reducible refine Ext.drewN ?_ _ | with_reducible refine Ext.drew ?_ | with_reducible refine Ext.trans ?_ (by with_reducible assumption)))⟩
    · have H1 := hide h1
      have H2 := hide h2
      clear h1 h2
      go_enter Try.func18, Try.ntmps18
      go_wp2_with fail
      refine (impl_IsCircuit_c _ _ _ _ gs _ (h.gates.ext (by (repeat (first | with_reducible exact Ext.refl _ | with_reducible assumption | ((with_reducible refine Ext.setCell ?_ ?_ _); rotate_left; focus (first | omega | (simp <;> omega))) | with_reducible refine Ext.alloc ?_ _ | with_reducible refine Ext.drewN ?_ _ | with_reducible refine Ext.drew ?_ | with_reducible refine Ext.trans ?_ (by with_reducible assumption)))))).mono ?_; rw [H1.out]; rintro e w1 ⟨rfl, he1⟩
      go_wp2_with fail
      refine (impl_IsCircuit_c _ _ _ _ hs _ (k.gates.ext (by (repeat (first | with_reducible exact Ext.refl _ | with_reducible assumption | ((with_reducible refine Ext.setCell ?_ ?_ _); rotate_left; focus (first | omega | (simp <;> omega))) | with_reducible refine Ext.alloc ?_ _ | with_reducible refine Ext.drewN ?_ _ | with_reducible refine Ext.drew ?_ | with_reducible refine Ext.trans ?_ (by with_reducible assumption)))))).mono ?_; rw [H2.out]; rintro e w2 ⟨rfl, he2⟩
      go_wp2_with fail
      go_ret2
      exact ⟨_, _, _, rfl, ObF.nil, by (repeat (first | with_reducible exact Ext.refl _ | with_reducible assumption | ((with_reducible refine Ext.setCell ?_ ?_ _); rotate_left; focus (first | omega | (simp <;> omega))) | with_reducible refine Ext.alloc ?_ _ | with_reducible refine Ext.drewN ?_ _ | with_reducible refine Ext.drew ?_ | with_reducible refine Ext.trans ?_ (by with_reducible assumption)))⟩
    · have H1 := hide h1
      have H2 := hide h2
      clear h1 h2
      have h5 : (kind != 5) = true := by simpa using h3
      have h6 : (kind != 6) = true := by simpa using h4
      clear h3 h4
      go_enter Try.func18, Try.ntmps18
      go_wp2_with fail
      refine (impl_IsCircuit_c _ _ _ _ gs _ (h.gates.ext (by (repeat (first | with_reducible exact Ext.refl _ | with_reducible assumption | ((with_reducible refine Ext.setCell ?_ ?_ _); rotate_left; focus (first | omega | (simp <;> omega))) | with_reducible refine Ext.alloc ?_ _ | with_reducible refine Ext.drewN ?_ _ | with_reducible refine Ext.drew ?_ | with_reducible refine Ext.trans ?_ (by with_reducible assumption)))))).mono ?_; rw [H1.out]; rintro e w1 ⟨rfl, he1⟩
      go_wp2_with fail
      refine (impl_IsCircuit_c _ _ _ _ hs _ (k.gates.ext (by (repeat (first | with_reducible exact Ext.refl _ | with_reducible assumption | ((with_reducible refine Ext.setCell ?_ ?_ _); rotate_left; focus (first | omega | (simp <;> omega))) | with_reducible refine Ext.alloc ?_ _ | with_reducible refine Ext.drewN ?_ _ | with_reducible refine Ext.drew ?_ | with_reducible refine Ext.trans ?_ (by with_reducible assumption)))))).mono ?_; rw [H2.out]; rintro e w2 ⟨rfl, he2⟩
      go_wp2_with fail
      go_ret2
      exact ⟨_, _, _, rfl, ObF.nil, by (repeat (first | with_reducible exact Ext.refl _ | with_reducible assumption | ((with_reducible refine Ext.setCell ?_ ?_ _); rotate_left; focus (first | omega | (simp <;> omega))) | with_reducible refine Ext.alloc ?_ _ | with_reducible refine Ext.drewN ?_ _ | with_reducible refine Ext.drew ?_ | with_reducible refine Ext.trans ?_ (by with_reducible assumption)))⟩
    · have H1 := hide h1
      have H2 := hide h2
      clear h1 h2
      rw [← hl.out, ← kl.out] at h4
      have h44 : (200 : Int) ≤ (n : Int) + m := by omega
      clear h4
      rcases h3 with rfl | rfl
      all_goals
        go_enter Try.func18, Try.ntmps18
        go_wp2_with fail
        refine (impl_IsCircuit_c _ _ _ _ gs _ (h.gates.ext (by (repeat (first | with_reducible exact Ext.refl _ | with_reducible assumption | ((with_reducible refine Ext.setCell ?_ ?_ _); rotate_left; focus (first | omega | (simp <;> omega))) | with_reducible refine Ext.alloc ?_ _ | with_reducible refine Ext.drewN ?_ _ | with_reducible refine Ext.drew ?_ | with_reducible refine Ext.trans ?_ (by with_reducible assumption)))))).mono ?_; rw [H1.out]; rintro e w1 ⟨rfl, he1⟩
        have b1 := he1.box 0 _ rfl
        go_wp2_with fail
        refine (impl_IsCircuit_c _ _ _ _ hs _ (k.gates.ext (by (repeat (first | with_reducible exact Ext.refl _ | with_reducible assumption | ((with_reducible refine Ext.setCell ?_ ?_ _); rotate_left; focus (first | omega | (simp <;> omega))) | with_reducible refine Ext.alloc ?_ _ | with_reducible refine Ext.drewN ?_ _ | with_reducible refine Ext.drew ?_ | with_reducible refine Ext.trans ?_ (by with_reducible assumption)))))).mono ?_; rw [H2.out]; rintro e w2 ⟨rfl, he2⟩
        have b2 := he2.cell b1
        go_wp2_with fail
        go_ret2
        exact ⟨_, _, _, rfl, ObF.nil, by (repeat (first | with_reducible exact Ext.refl _ | with_reducible assumption | ((with_reducible refine Ext.setCell ?_ ?_ _); rotate_left; focus (first | omega | (simp <;> omega))) | with_reducible refine Ext.alloc ?_ _ | with_reducible refine Ext.drewN ?_ _ | with_reducible refine Ext.drew ?_ | with_reducible refine Ext.trans ?_ (by with_reducible assumption)))⟩
  · simp only [if_true, joinG_fl]
    obtain ⟨⟨h1, h2⟩, h3, h4⟩ := join_facts hq
    have HG := hide (circ_facts h2).2.2
    have hn1 := (circ_facts h1).2.1.1
    have H1 := hide h1
    have H2 := hide h2
    clear hq h1 h2
    rw [← hl.out] at h4 hn1
    rw [← kl.out] at h4
    have h44 : (n : Int) + m < 200 := by omega
    obtain ⟨g, rfl, -⟩ := h.reads (by omega)
    rw [← hl.out, ← kl.out]
    have HM := hide (show ∀ i g, Hid (hs[i]? = some g) → fl (joinTo gs hs (i + 1)) = fl (joinTo gs hs i) ++ [(moveG (fun x => x + (n : Int)) g).1, (moveG (fun x => x + (n : Int)) g).2.1, (moveG (fun x => x + (n : Int)) g).2.2] from fun i g hg => by have := joinTo_succ (one := gs) hg; rwa [← hl.out] at this)
    have H0 : Hid (fl (joinTo gs hs 0) = fl gs) := hide (by simp [joinTo])
    rcases h3 with rfl | rfl
    all_goals
      go_enter Try.func18, Try.ntmps18
      go_wp2_with fail
      refine (impl_IsCircuit_c _ _ _ _ gs _ (h.gates.ext (by (repeat (first | with_reducible exact Ext.refl _ | with_reducible assumption | ((with_reducible refine Ext.setCell ?_ ?_ _); rotate_left; focus (first | omega | (simp <;> omega))) | with_reducible refine Ext.alloc ?_ _ | with_reducible refine Ext.drewN ?_ _ | with_reducible refine Ext.drew ?_ | with_reducible refine Ext.trans ?_ (by with_reducible assumption)))))).mono ?_; rw [H1.out]; rintro e w1 ⟨rfl, he1⟩
      have b1 := he1.box 0 _ rfl
      go_wp2_with fail
      refine (impl_IsCircuit_c _ _ _ _ hs _ (k.gates.ext (by (repeat (first | with_reducible exact Ext.refl _ | with_reducible assumption | ((with_reducible refine Ext.setCell ?_ ?_ _); rotate_left; focus (first | omega | (simp <;> omega))) | with_reducible refine Ext.alloc ?_ _ | with_reducible refine Ext.drewN ?_ _ | with_reducible refine Ext.drew ?_ | with_reducible refine Ext.trans ?_ (by with_reducible assumption)))))).mono ?_; rw [H2.out]; rintro e w2 ⟨rfl, he2⟩
      have b2 := he2.cell b1
      have hb2 : BoxAt w2 w.heap.size 3 #[.int .i64 n] := ((BoxAt.made w _ _).ext he1).ext he2
      have e12 : Ext w w2 := ((Ext.refl w).alloc _).trans (he1.trans he2)
      clear he1 he2 b1
      go_wp2_with fail
      refine (Clone_gates_c g n d gs _ (h.ext (by (repeat (first | with_reducible exact Ext.refl _ | with_reducible assumption | ((with_reducible refine Ext.setCell ?_ ?_ _); rotate_left; focus (first | omega | (simp <;> omega))) | with_reducible refine Ext.alloc ?_ _ | with_reducible refine Ext.drewN ?_ _ | with_reducible refine Ext.drew ?_ | with_reducible refine Ext.trans ?_ (by with_reducible assumption))))) (by omega)).mono ?_
      rintro e w3 ⟨A', c', rfl, ho', he3⟩
      have b3 := hb2.ext he3
      have e3 : Ext w w3 := e12.trans he3
      have ho' : Own w3 w.heap.size 86 3 A' n c' ((fl (joinTo gs hs 0)).map (Value.int .i64)) := by rw [H0.out]; exact ho'.lower e12.size
      clear he3 e12 b2 hb2
      go_wp2_with fail
      refine wp_loopF 67 _ rfl rfl [1, 10, 44, 45, 57, 58, 59, 60, 61, 62, 63, 64, 65, 66] rfl (fun fr wr => Ext w wr ∧ BoxAt wr w.heap.size 3 #[.int .i64 n] ∧ ∃ i : Nat, i ≤ m ∧ (fr 46) = .int .i64 i ∧ (∃ X y, (fr 11) = .slice X (n + i : Nat) y ∧ Own wr w.heap.size 86 3 X (n + i) y ((fl (joinTo gs hs i)).map (Value.int .i64)))) (fun fr wr => m - (intOf (fr 46)).toNat) ?_ ?_
      · (exact ⟨e3, b3, 0, by omega, rfl, ⟨_, _, rfl, ho'⟩⟩)
      intro ks fr wr hkept hrel; (try dsimp only at hrel)
      change Code.wp _ _ _ ⟨#[fr 0, ks 1, fr 2, fr 3, fr 4, fr 5, fr 6, fr 7, fr 8, fr 9, ks 10, fr 11, fr 12, fr 13, fr 14, fr 15, fr 16, fr 17, fr 18, fr 19, fr 20, fr 21, fr 22, fr 23, fr 24, fr 25, fr 26, fr 27, fr 28, fr 29, fr 30, fr 31, fr 32, fr 33, fr 34, fr 35, fr 36, fr 37, fr 38, fr 39, fr 40, fr 41, fr 42, fr 43, ks 44, ks 45, fr 46, fr 47, fr 48, fr 49, fr 50, fr 51, fr 52, fr 53, fr 54, fr 55, fr 56, ks 57, ks 58, ks 59, ks 60, ks 61, ks 62, ks 63, ks 64, ks 65, ks 66], []⟩ wr
      simp only [KeptV, List.getD_cons_zero, List.getD_cons_succ] at hkept; obtain ⟨hk1, hk10, hk44, hk45, hk57, hk58, hk59, hk60, hk61, hk62, hk63, hk64, hk65, hk66, -⟩ := hkept
      generalize ks 1 = k1 at hk1 ⊢; subst hk1
      generalize ks 10 = k10 at hk10 ⊢; subst hk10
      generalize ks 44 = k44 at hk44 ⊢; subst hk44
      generalize ks 45 = k45 at hk45 ⊢; subst hk45
      generalize ks 57 = k57 at hk57 ⊢; subst hk57
      generalize ks 58 = k58 at hk58 ⊢; subst hk58
      generalize ks 59 = k59 at hk59 ⊢; subst hk59
      generalize ks 60 = k60 at hk60 ⊢; subst hk60
      generalize ks 61 = k61 at hk61 ⊢; subst hk61
      generalize ks 62 = k62 at hk62 ⊢; subst hk62
      generalize ks 63 = k63 at hk63 ⊢; subst hk63
      generalize ks 64 = k64 at hk64 ⊢; subst hk64
      generalize ks 65 = k65 at hk65 ⊢; subst hk65
      generalize ks 66 = k66 at hk66 ⊢; subst hk66
      generalize fr 11 = s11 at hrel ⊢
      generalize fr 46 = s46 at hrel ⊢
      clear e3 ho' b3
      obtain ⟨he, hbx, i, hi, hs1, ⟨X, y, hs2, hox⟩⟩ := hrel
      subst hs1; subst hs2
      have hbc := hbx.cell 0 _ rfl
      by_cases hlt : i < m
      · obtain ⟨gb, kk, a, b, rfl, hx, c0, c1, c2⟩ := (k.gates.ext he).at_ hlt
        have hgood := HG.out i _ hx.out
        have HN := hide (HM.out i _ hx)
        have hsz := he.size
        go_wp2_with fail
        refine (moved_c kk a b 72 #[.pointer (some ⟨w.heap.size, 0, none⟩)] (fun x => x + (n : Int)) _ Join_lit_enters (fun x hxi wq hxt => Join_lit_c x n w.heap.size wq (by have := hgood.2.1 x hxi; omega) (by omega) (hxt.cell (((Ext.refl wr).alloc _).cell hbc)))).mono ?_
        obtain ⟨⟨q1, q2, q3⟩, hG⟩ : ∃ G, moveG (fun x => x + (n : Int)) (kk, a, b) = G := ⟨_, rfl⟩
        rw [hG] at HN ⊢
        clear hG hgood hx
        dsimp only at HN ⊢
        rintro e w4 ⟨rfl, he4⟩
        have e14 : Ext wr w4 := by (repeat (first | with_reducible exact Ext.refl _ | with_reducible assumption | ((with_reducible refine Ext.setCell ?_ ?_ _); rotate_left; focus (first | omega | (simp <;> omega))) | with_reducible refine Ext.alloc ?_ _ | with_reducible refine Ext.drewN ?_ _ | with_reducible refine Ext.drew ?_ | with_reducible refine Ext.trans ?_ (by with_reducible assumption)))
        have e4 := he.trans e14
        have hbx4 := hbx.ext e14
        have ox4 := hox.ext e14
        have hz4 := e4.size
        clear he4 e14 he hox hbx hbc hsz
        go_wp2_with (at_builtin; refine wpList_app rfl _ _ _ _ rfl Try.underlying24 _ 3 24 info_gate rfl (by decide) rfl ox4 1 [.int .i64 q1, .int .i64 q2, .int .i64 q3] (by first | rfl | simp [go_sem]) rfl ?_ ?_ ?_ ?_ ?_; (intro u hu; simp at hu; first | (subst hu; rfl) | (rcases hu with rfl | rfl <;> rfl) | (rcases hu with rfl | rfl | rfl <;> rfl) | (rcases hu with rfl | rfl | rfl | rfl <;> rfl) | (rcases hu with rfl | rfl | rfl | rfl | rfl <;> rfl) | (rcases hu with rfl | rfl | rfl | rfl | rfl | rfl <;> rfl)); omega; omega; (first | omega | (simp; omega)); intro A' c' w' ho' hg' hb')
        have HO := hide ho'
        have HE := hide (e4.trans_own (Nat.le_refl _) ox4 hg')
        have HB := hide (hbx4.grown ox4 (by decide) hg')
        clear ho' e4 ox4 hg' hb' hbx4
        exact ⟨⟨(by (repeat (first | exact trivial | refine ⟨rfl, ?_⟩))), HE.out, HB.out, i + 1, by omega, by go_num, ⟨_, _, rfl, by rw [HN.out, List.map_append, ← Nat.add_assoc]; exact HO.out⟩⟩, (by simp [intOf] <;> omega)⟩
      · obtain rfl : i = m := by omega
        have hsz := he.size
        go_wp2_with (at_builtin; refine wpList_app rfl _ _ _ _ rfl Try.underlying24 _ 3 24 info_gate rfl (by decide) rfl hox 1 [.int .i64 _, .int .i64 ((n : Int) - 1), .int .i64 ((n : Int) + i - 1)] (by first | rfl | simp [go_sem]) rfl ?_ ?_ ?_ ?_ ?_; (intro u hu; simp at hu; first | (subst hu; rfl) | (rcases hu with rfl | rfl <;> rfl) | (rcases hu with rfl | rfl | rfl <;> rfl) | (rcases hu with rfl | rfl | rfl | rfl <;> rfl) | (rcases hu with rfl | rfl | rfl | rfl | rfl <;> rfl) | (rcases hu with rfl | rfl | rfl | rfl | rfl | rfl <;> rfl)); omega; omega; (first | omega | (simp; omega)); intro A' c' w' ho' hg' hb')
        go_ret2
        exact ⟨_, _, _, rfl, ObF.of (by simpa using ho') (by omega), he.trans_own (Nat.le_refl _) hox hg'⟩
end Go.Proofs.Ytcbjaomjamfjcaa
