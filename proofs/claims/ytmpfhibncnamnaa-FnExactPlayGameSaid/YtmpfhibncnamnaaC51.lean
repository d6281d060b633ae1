/-
  TreeVariable.
-/
import Derived.Test.YtmpfhibncnamnaaC50
import Derived.Test.YtmpfhibncnamnaaG3
namespace Go.Proofs.Ytmpfhibncnamnaa
set_option linter.unusedSimpArgs false
set_option linter.unusedVariables false
open Go.RowKit

theorem fstV_hit {p : Nat → Bool} : ∀ (vs : List Nat), (∃ v ∈ vs, p v = true) → (∀ v ∈ vs, 1 ≤ v) → 1 ≤ fstV p vs
  | v :: vs, ⟨u, hu, hp⟩, h1 => by
    rw [fstV]
    split
    · exact h1 v (by simp)
    · rename_i hv
      simp only [List.mem_cons] at hu
      rcases hu with rfl | hu
      · exact absurd hp hv
      · exact fstV_hit vs ⟨u, hu, hp⟩ (fun w hw => h1 w (by simp [hw]))
/-- Where a game is not over a variable gives the size. -/
theorem tree_some {n : Nat} {cls : List (List Int)} {a : List Int} (h : askedOpen n cls a = true) : 1 ≤ treeOf n (gAll n cls) (codeOf a) := by
  obtain ⟨h1, hf0⟩ := and2_true h
  have hf : falseAny cls a = false := by simpa using hf0
  obtain ⟨ht, ha⟩ := and2_true h1
  obtain ⟨hc, hv, hs⟩ := takes_facts ht
  rw [show ((n : Int)).toNat = n by omega] at hs
  obtain ⟨hrt, hcd⟩ := asg_code ha
  obtain ⟨_, hr, _⟩ := clause_facts ha
  have hrise := rises_of ha a.length 0 (by omega) 0 (fun x hx => by have := hr x (List.mem_of_getElem? hx); omega)
  have hne : opens n (codeOf a) ≠ [] := by
    intro he
    have hol := openList_code (n := n) (code := codeOf a)
    rw [hrt, he] at hol
    have := total_sat (n := n) (cls := cls) (by simpa using hrise) (fun c hcc x hx => (clause_facts ((cnf_facts hc).2.2 c hcc)).2.1 x hx) (by simpa using hol) hf
    rw [hs] at this; cases this
  obtain ⟨v, hvm, hve⟩ := gSt_size (T := gAll n cls) (code := codeOf a) _ hne
  refine fstV_hit _ ⟨v, hvm, ?_⟩ (fun u hu => (mem_varsTo (List.mem_filter.1 hu).1).1)
  have hrow := gAll_row cls hcd
  rw [gRow, hrt, hf] at hrow
  simp only [Bool.false_eq_true, if_false] at hrow
  have h2 : (gAll n cls).sz.getD (codeOf a) 0 = (gSt (gAll n cls) (codeOf a) (opens n (codeOf a))).2.2.1 := by rw [← hrow]; rfl
  rw [goodT, h2, hve]
  simp [gOne]
def treeVar (v : Int) (cls : List (List Int)) (a : List Int) : Nat := if askedOpen v cls a then treeOf v.toNat (gAll v.toNat cls) (codeOf a) else 0

set_option maxRecDepth 100000 in
set_option maxHeartbeats 4000000 in
theorem treeVariable_c (n L b g0 g1 g2 g3 N : Nat) (A : Option Addr) (m d : Nat) (ov : List Bool) (T : Tab) (B : Option Addr) (y0 q : Nat) (a : List Int) (w : World) (hG : GameAt w L b g0 g1 g2 g3 n A m d N ov T) (k : Ints w B y0 a) (hn : n ≤ 6) (hN : N = pow3 n) (ha : clauseOk n a = true) :
    Calls Try.prog 77 #[.pointer (some ⟨b, 0, none⟩), .slice B y0 q] w fun e w' => e = .returned (.int .i64 (treeOf n T (codeOf a) : Int)) ∧ Ext w w' := by
  have hN6 : N ≤ 729 := by have := pow3_mono hn; have h6 : pow3 6 = 729 := rfl; omega
  obtain ⟨hrt, hcd⟩ := asg_code ha
  obtain ⟨_, hc6, hlen⟩ := clause_facts ha
  have hm6 : y0 ≤ 6 := by have := k.len; omega
  have HC6 := hide (show ∀ x ∈ a, -6 ≤ x ∧ x ≤ 6 ∧ x ≠ 0 from fun x hx => by have := hc6 x hx; omega)
  have hol := openList_code (n := n) (code := codeOf a)
  rw [hrt] at hol
  rw [← hN] at hcd
  have HN := hide hN
  obtain ⟨code, hcode⟩ : ∃ c, codeOf a = c := ⟨_, rfl⟩
  rw [hcode] at hol hcd ⊢
  have HCD := hide hcode
  have HOL := hide hol
  clear hN hc6 hlen hrt hol hcode ha
  have c0 := hG.box.cell 0 (.int .i64 n) rfl
  go_enter Try.func77, Try.ntmps77
  go_wp2_with fail
  refine (codeOf_c B y0 q a _ (k.ext (by (repeat (first | with_reducible exact Ext.refl _ | with_reducible assumption | ((with_reducible refine Ext.setCell ?_ ?_ _); rotate_left; focus (first | omega | (simp <;> omega))) | with_reducible refine Ext.alloc ?_ _ | with_reducible refine Ext.drewN ?_ _ | with_reducible refine Ext.drew ?_ | with_reducible refine Ext.trans ?_ (by with_reducible assumption))))) hm6 HC6.out).mono ?_
  rw [HCD.out]
  rintro e w1 ⟨rfl, he1⟩
  have c0 := he1.cell c0
  go_wp2_with fail
  refine (openVars_c n B y0 q a _ (k.ext (by (repeat (first | with_reducible exact Ext.refl _ | with_reducible assumption | ((with_reducible refine Ext.setCell ?_ ?_ _); rotate_left; focus (first | omega | (simp <;> omega))) | with_reducible refine Ext.alloc ?_ _ | with_reducible refine Ext.drewN ?_ _ | with_reducible refine Ext.drew ?_ | with_reducible refine Ext.trans ?_ (by with_reducible assumption))))) (by omega)).mono ?_
  rw [HOL.out]
  rintro e w3 ⟨X, y, z, rfl, ho, hyn, he3⟩
  have hI : Ints w3 X y (natInts (opens n code)) := ho.ints (by omega)
  have HYL := hide hI.len
  have hG3 := hG.ext (w' := w3) (by (repeat (first | with_reducible exact Ext.refl _ | with_reducible assumption | ((with_reducible refine Ext.setCell ?_ ?_ _); rotate_left; focus (first | omega | (simp <;> omega))) | with_reducible refine Ext.alloc ?_ _ | with_reducible refine Ext.drewN ?_ _ | with_reducible refine Ext.drew ?_ | with_reducible refine Ext.trans ?_ (by with_reducible assumption))))
  have ew3 : Ext w w3 := by (repeat (first | with_reducible exact Ext.refl _ | with_reducible assumption | ((with_reducible refine Ext.setCell ?_ ?_ _); rotate_left; focus (first | omega | (simp <;> omega))) | with_reducible refine Ext.alloc ?_ _ | with_reducible refine Ext.drewN ?_ _ | with_reducible refine Ext.drew ?_ | with_reducible refine Ext.trans ?_ (by with_reducible assumption)))
  clear ho c0 hG he1 he3
  go_wp2_with fail
  refine wp_loopF 56 _ rfl rfl [0, 5, 16, 17] rfl (fun fr wr => Ext w3 wr ∧ ∃ k : Nat, k ≤ y ∧ (fr 18) = .int .i64 k ∧ Hid (fstV (goodT T code) ((opens n code).drop k) = treeOf n T code)) (fun fr wr => y - (intOf (fr 18)).toNat) ?_ ?_
  · (exact ⟨Ext.refl _, 0, by omega, by go_num, rfl⟩)
  intro ks fr wr hkept hrel; (try dsimp only at hrel)
  change Code.wp _ _ _ ⟨#[ks 0, fr 1, fr 2, fr 3, fr 4, ks 5, fr 6, fr 7, fr 8, fr 9, fr 10, fr 11, fr 12, fr 13, fr 14, fr 15, ks 16, ks 17, fr 18, fr 19, fr 20, fr 21, fr 22, fr 23, fr 24, fr 25, fr 26, fr 27, fr 28, fr 29, fr 30, fr 31, fr 32, fr 33, fr 34, fr 35, fr 36, fr 37, fr 38, fr 39, fr 40, fr 41, fr 42, fr 43, fr 44, fr 45, fr 46, fr 47, fr 48, fr 49, fr 50, fr 51, fr 52, fr 53, fr 54, fr 55], []⟩ wr
  simp only [KeptV, List.getD_cons_zero, List.getD_cons_succ] at hkept; obtain ⟨hk0, hk5, hk16, hk17, -⟩ := hkept
  generalize ks 0 = k0 at hk0 ⊢; subst hk0
  generalize ks 5 = k5 at hk5 ⊢; subst hk5
  generalize ks 16 = k16 at hk16 ⊢; subst hk16
  generalize ks 17 = k17 at hk17 ⊢; subst hk17
  generalize fr 18 = s18 at hrel ⊢
  obtain ⟨he, k', hk, hs1, hq⟩ := hrel
  subst hs1
  by_cases hlt : k' < y
  · obtain ⟨ad, x, rfl, hx, hcx⟩ := (hI.ext he).at_ hlt
    obtain ⟨v, hv, rfl⟩ := natInts_get hx
    have hvo := List.mem_filter.1 (List.mem_of_getElem? hv.out)
    have hvr := mem_varsTo hvo.1
    have hcodes := open_codes (n := n) (by rw [← HN.out]; exact hcd) hvr hvo.2
    rw [← HN.out] at hcodes
    have hst := fstV_drop (p := goodT T code) hv
    rw [hq.out] at hst
    obtain ⟨u, rfl⟩ : ∃ u, v = u + 1 := ⟨v - 1, by omega⟩
    have hu : u ≤ 5 := by omega
    have hp3 : pow3 u ≤ 729 := by have := pow3_mono (show u ≤ 6 by omega); have h6 : pow3 6 = 729 := rfl; omega
    have hG4 := hG3.ext he
    have hge1 : gNo code (u + 1) = code + pow3 u := rfl
    have hge2 : gYes code (u + 1) = code + 2 * pow3 u := rfl
    rw [hge1, hge2] at hcodes
    have hgood : goodT T code (u + 1) = (wrap64 (T.sz.getD (code + pow3 u) 0 + T.sz.getD (code + 2 * pow3 u) 0) == T.sz.getD code 0) := rfl
    rw [hgood] at hst
    have q0 := hG4.tab.sz hcd
    have q1 := hG4.tab.sz (show code + pow3 u < N by omega)
    have q2 := hG4.tab.sz (show code + 2 * pow3 u < N by omega)
    have e4 := hG4.box.cell 4 (.slice (some ⟨g2, 0, none⟩) N N) rfl
    have HP := hide (fun W => power3_c u W (by omega))
    clear hgood hvo hvr hv hx hge1 hge2
    generalize T.sz.getD (code + pow3 u) 0 = s1 at *
    generalize T.sz.getD (code + 2 * pow3 u) 0 = s2 at *
    generalize T.sz.getD code 0 = s0 at *
    generalize pow3 u = p at *
    have hcx : wr.cell? (ad.add k') = some (.int .i64 ((u : Int) + 1)) := by rw [hcx]; rfl
    have ha1 : (0 : Int) ≤ (code : Int) + p := by omega
    have ha2 : (code : Int) + p < N := by omega
    have ha3 : ((code : Int) + p).toNat = code + p := by omega
    have ha4 : (0 : Int) ≤ (code : Int) + 2 * p := by omega
    have ha5 : (code : Int) + 2 * p < N := by omega
    have ha6 : ((code : Int) + 2 * p).toNat = code + 2 * p := by omega
    clear hcodes
    by_cases hg : wrap64 (s1 + s2) = s0
    · have hq2 : Hid (((u : Int) + 1) = (treeOf n T code : Nat)) := hide (by rw [hst]; simp [hg])
      have hgt : (wrap64 (s1 + s2) == s0) = true := by simpa using hg
      clear hst hg
      go_wp2_with fail
      go_quiet ((go_at_call 85; first | (refine quiet_left (HP.out _)) | (refine quiet_left2 (HP.out _))))
      go_wp2
      go_ret; exact ⟨ret_int (by rw [← hq2.out]), by (repeat (first | with_reducible exact Ext.refl _ | with_reducible assumption | ((with_reducible refine Ext.setCell ?_ ?_ _); rotate_left; focus (first | omega | (simp <;> omega))) | with_reducible refine Ext.alloc ?_ _ | with_reducible refine Ext.drewN ?_ _ | with_reducible refine Ext.drew ?_ | with_reducible refine Ext.trans ?_ (by with_reducible assumption)))⟩
    · have hq2 : Hid (fstV (goodT T code) ((opens n code).drop (k' + 1)) = treeOf n T code) := hide (by rw [hst]; simp [hg])
      have hgf : (wrap64 (s1 + s2) == s0) = false := by simpa using hg
      clear hst hg
      go_wp2_with fail
      go_quiet ((go_at_call 85; first | (refine quiet_left (HP.out _)) | (refine quiet_left2 (HP.out _))))
      go_wp2
      exact ⟨⟨(by (repeat (first | exact trivial | refine ⟨rfl, ?_⟩))), by (repeat (first | with_reducible exact Ext.refl _ | with_reducible assumption | ((with_reducible refine Ext.setCell ?_ ?_ _); rotate_left; focus (first | omega | (simp <;> omega))) | with_reducible refine Ext.alloc ?_ _ | with_reducible refine Ext.drewN ?_ _ | with_reducible refine Ext.drew ?_ | with_reducible refine Ext.trans ?_ (by with_reducible assumption))), k' + 1, by omega, by go_num, hq2⟩, (by simp [intOf] <;> omega)⟩
  · have hz : Hid (treeOf n T code = 0) := hide (by rw [← hq.out, List.drop_eq_nil_of_le (by have := HYL.out; simp [natInts] at this; omega)]; rfl)
    go_wp2
    go_ret; exact ⟨ret_int (by rw [hz.out]; rfl), by (repeat (first | with_reducible exact Ext.refl _ | with_reducible assumption | ((with_reducible refine Ext.setCell ?_ ?_ _); rotate_left; focus (first | omega | (simp <;> omega))) | with_reducible refine Ext.alloc ?_ _ | with_reducible refine Ext.drewN ?_ _ | with_reducible refine Ext.drew ?_ | with_reducible refine Ext.trans ?_ (by with_reducible assumption)))⟩
set_option maxRecDepth 100000 in
set_option maxHeartbeats 4000000 in
theorem spec_TreeVariable_c (v : Int) (A : Option Addr) (n d : Nat) (cls : List (List Int)) (B : Option Addr) (m q : Nat) (a : List Int) (w : World) (h : Intss w A n cls) (k : Ints w B m a) :
    Calls Try.prog 39 #[.agg #[.int .i64 v, .slice A n d], .slice B m q] w fun e w' => e = .returned (.tuple #[.int .i64 (treeVar v cls a : Int), .bool (askedOpen v cls a)]) ∧ Ext w w' := by
  unfold treeVar
  cases h0 : askedOpen v cls a
  · simp only [Bool.false_eq_true, if_false]
    rcases and2_false h0 with h1 | ⟨h1, h2⟩
    · go_enter Try.func39, Try.ntmps39
      go_wp2_with fail
      refine (l12Asked_c _ _ _ _ cls _ _ _ a _ (h.ext (by (repeat (first | with_reducible exact Ext.refl _ | with_reducible assumption | ((with_reducible refine Ext.setCell ?_ ?_ _); rotate_left; focus (first | omega | (simp <;> omega))) | with_reducible refine Ext.alloc ?_ _ | with_reducible refine Ext.drewN ?_ _ | with_reducible refine Ext.drew ?_ | with_reducible refine Ext.trans ?_ (by with_reducible assumption))))) (k.ext (by (repeat (first | with_reducible exact Ext.refl _ | with_reducible assumption | ((with_reducible refine Ext.setCell ?_ ?_ _); rotate_left; focus (first | omega | (simp <;> omega))) | with_reducible refine Ext.alloc ?_ _ | with_reducible refine Ext.drewN ?_ _ | with_reducible refine Ext.drew ?_ | with_reducible refine Ext.trans ?_ (by with_reducible assumption)))))).mono ?_
      rw [h1]
      rintro e w1 ⟨rfl, he⟩
      go_wp2
      go_ret2; exact ⟨rfl, by (repeat (first | with_reducible exact Ext.refl _ | with_reducible assumption | ((with_reducible refine Ext.setCell ?_ ?_ _); rotate_left; focus (first | omega | (simp <;> omega))) | with_reducible refine Ext.alloc ?_ _ | with_reducible refine Ext.drewN ?_ _ | with_reducible refine Ext.drew ?_ | with_reducible refine Ext.trans ?_ (by with_reducible assumption)))⟩
    · have h2 : falseAny cls a = true := by simpa using h2
      obtain ⟨ht, ha⟩ := and2_true h1
      obtain ⟨hc, hv, _⟩ := takes_facts ht
      have HC := hide (fun c hcc => (cnf_lits hc c hcc).2)
      have H1 := hide h1
      have H2 := hide h2
      clear h0 h1 h2 hc ht ha
      go_enter Try.func39, Try.ntmps39
      go_wp2_with fail
      refine (l12Asked_c _ _ _ _ cls _ _ _ a _ (h.ext (by (repeat (first | with_reducible exact Ext.refl _ | with_reducible assumption | ((with_reducible refine Ext.setCell ?_ ?_ _); rotate_left; focus (first | omega | (simp <;> omega))) | with_reducible refine Ext.alloc ?_ _ | with_reducible refine Ext.drewN ?_ _ | with_reducible refine Ext.drew ?_ | with_reducible refine Ext.trans ?_ (by with_reducible assumption))))) (k.ext (by (repeat (first | with_reducible exact Ext.refl _ | with_reducible assumption | ((with_reducible refine Ext.setCell ?_ ?_ _); rotate_left; focus (first | omega | (simp <;> omega))) | with_reducible refine Ext.alloc ?_ _ | with_reducible refine Ext.drewN ?_ _ | with_reducible refine Ext.drew ?_ | with_reducible refine Ext.trans ?_ (by with_reducible assumption)))))).mono ?_
      rw [H1.out]
      rintro e w1 ⟨rfl, he⟩
      have c0 := he.box 0 (.int .i64 v) rfl
      have c1 := he.box 1 (.slice A n d) rfl
      go_wp2_with fail
      refine (l12False_c v A n d cls B m q a _ (h.ext (by (repeat (first | with_reducible exact Ext.refl _ | with_reducible assumption | ((with_reducible refine Ext.setCell ?_ ?_ _); rotate_left; focus (first | omega | (simp <;> omega))) | with_reducible refine Ext.alloc ?_ _ | with_reducible refine Ext.drewN ?_ _ | with_reducible refine Ext.drew ?_ | with_reducible refine Ext.trans ?_ (by with_reducible assumption))))) (k.ext (by (repeat (first | with_reducible exact Ext.refl _ | with_reducible assumption | ((with_reducible refine Ext.setCell ?_ ?_ _); rotate_left; focus (first | omega | (simp <;> omega))) | with_reducible refine Ext.alloc ?_ _ | with_reducible refine Ext.drewN ?_ _ | with_reducible refine Ext.drew ?_ | with_reducible refine Ext.trans ?_ (by with_reducible assumption))))) HC.out).mono ?_
      rw [H2.out]
      rintro e w2 ⟨rfl, he2⟩
      go_wp2
      go_ret2; exact ⟨rfl, by (repeat (first | with_reducible exact Ext.refl _ | with_reducible assumption | ((with_reducible refine Ext.setCell ?_ ?_ _); rotate_left; focus (first | omega | (simp <;> omega))) | with_reducible refine Ext.alloc ?_ _ | with_reducible refine Ext.drewN ?_ _ | with_reducible refine Ext.drew ?_ | with_reducible refine Ext.trans ?_ (by with_reducible assumption)))⟩
  simp only [if_true]
  obtain ⟨h1, hf0⟩ := and2_true h0
  have hf : falseAny cls a = false := by simpa using hf0
  obtain ⟨ht, ha⟩ := and2_true h1
  obtain ⟨hc, hv, _⟩ := takes_facts ht
  have HC := hide (fun c hcc => (cnf_lits hc c hcc).2)
  obtain ⟨u, rfl⟩ := int_nat hv.1
  rw [show ((u : Int)).toNat = u by omega]
  obtain ⟨_, hc6, hlen⟩ := clause_facts ha
  have hm6 : m ≤ 6 := by have := k.len; omega
  have HC6 := hide (show ∀ x ∈ a, -6 ≤ x ∧ x ≤ 6 ∧ x ≠ 0 from fun x hx => by have := hc6 x hx; omega)
  have hcd := (asg_code ha).2
  have hsome := tree_some h0
  have hfil : fstV (fun v => openAt (codeOf a) v && goodT (gAll u cls) (codeOf a) v) (varsTo u) = treeOf u (gAll u cls) (codeOf a) := fstV_filter _ _ _
  rw [← hfil] at hsome ⊢
  clear hfil
  have hn : u ≤ 6 := by omega
  obtain ⟨N, hN⟩ : ∃ N, N = pow3 u := ⟨_, rfl⟩
  have hN6 : N ≤ 729 := by have := pow3_mono hn; have h6 : pow3 6 = 729 := rfl; omega
  have hPl := fun W (hI : Intss W A n cls) => l12Play_c u A n d cls W hI hn HC.out
  rw [← hN] at hcd hPl
  have HPl := hide hPl
  have HN := hide hN
  have H1 := hide h1
  have H2 := hide hf
  clear h1 hf hc ht ha hc6 hlen h0 hf0 hN hPl
  obtain ⟨code, hcode⟩ : ∃ c, codeOf a = c := ⟨_, rfl⟩
  rw [hcode] at hcd hsome ⊢
  have HCD := hide hcode
  clear hcode
  obtain ⟨T, hT0⟩ : ∃ T, gAll u cls = T := ⟨_, rfl⟩
  rw [hT0] at HPl hsome ⊢
  clear hT0
  have HSome := hide hsome
  clear hsome
  have hfd := field_game1
  go_enter Try.func39, Try.ntmps39
  go_wp2_with fail
  refine (l12Asked_c _ _ _ _ cls _ _ _ a _ (h.ext (by (repeat (first | with_reducible exact Ext.refl _ | with_reducible assumption | ((with_reducible refine Ext.setCell ?_ ?_ _); rotate_left; focus (first | omega | (simp <;> omega))) | with_reducible refine Ext.alloc ?_ _ | with_reducible refine Ext.drewN ?_ _ | with_reducible refine Ext.drew ?_ | with_reducible refine Ext.trans ?_ (by with_reducible assumption))))) (k.ext (by (repeat (first | with_reducible exact Ext.refl _ | with_reducible assumption | ((with_reducible refine Ext.setCell ?_ ?_ _); rotate_left; focus (first | omega | (simp <;> omega))) | with_reducible refine Ext.alloc ?_ _ | with_reducible refine Ext.drewN ?_ _ | with_reducible refine Ext.drew ?_ | with_reducible refine Ext.trans ?_ (by with_reducible assumption)))))).mono ?_
  rw [H1.out]
  rintro e w1 ⟨rfl, he⟩
  have c0 := he.box 0 (.int .i64 u) rfl
  have c1 := he.box 1 (.slice A n d) rfl
  go_wp2_with fail
  refine (l12False_c u A n d cls B m q a _ (h.ext (by (repeat (first | with_reducible exact Ext.refl _ | with_reducible assumption | ((with_reducible refine Ext.setCell ?_ ?_ _); rotate_left; focus (first | omega | (simp <;> omega))) | with_reducible refine Ext.alloc ?_ _ | with_reducible refine Ext.drewN ?_ _ | with_reducible refine Ext.drew ?_ | with_reducible refine Ext.trans ?_ (by with_reducible assumption))))) (k.ext (by (repeat (first | with_reducible exact Ext.refl _ | with_reducible assumption | ((with_reducible refine Ext.setCell ?_ ?_ _); rotate_left; focus (first | omega | (simp <;> omega))) | with_reducible refine Ext.alloc ?_ _ | with_reducible refine Ext.drewN ?_ _ | with_reducible refine Ext.drew ?_ | with_reducible refine Ext.trans ?_ (by with_reducible assumption))))) HC.out).mono ?_
  rw [H2.out]
  rintro e w2 ⟨rfl, he2⟩
  have c0 := he2.cell c0
  have c1 := he2.cell c1
  go_wp2_with fail
  refine (HPl.out _ (h.ext (by (repeat (first | with_reducible exact Ext.refl _ | with_reducible assumption | ((with_reducible refine Ext.setCell ?_ ?_ _); rotate_left; focus (first | omega | (simp <;> omega))) | with_reducible refine Ext.alloc ?_ _ | with_reducible refine Ext.drewN ?_ _ | with_reducible refine Ext.drew ?_ | with_reducible refine Ext.trans ?_ (by with_reducible assumption)))))).mono ?_
  rintro e w3 ⟨g1, g2, g3, rfl, hT, he3⟩
  have c0 := he3.cell c0
  go_wp2_with fail
  refine (l12Code_c B m q a _ (k.ext (by (repeat (first | with_reducible exact Ext.refl _ | with_reducible assumption | ((with_reducible refine Ext.setCell ?_ ?_ _); rotate_left; focus (first | omega | (simp <;> omega))) | with_reducible refine Ext.alloc ?_ _ | with_reducible refine Ext.drewN ?_ _ | with_reducible refine Ext.drew ?_ | with_reducible refine Ext.trans ?_ (by with_reducible assumption))))) hm6 HC6.out).mono ?_
  rw [HCD.out]
  rintro e w4 ⟨rfl, he4⟩
  have c0 := he4.cell c0
  have hT4 := hT.ext he4
  have e4 : Ext w w4 := by (repeat (first | with_reducible exact Ext.refl _ | with_reducible assumption | ((with_reducible refine Ext.setCell ?_ ?_ _); rotate_left; focus (first | omega | (simp <;> omega))) | with_reducible refine Ext.alloc ?_ _ | with_reducible refine Ext.drewN ?_ _ | with_reducible refine Ext.drew ?_ | with_reducible refine Ext.trans ?_ (by with_reducible assumption)))
  clear he he2 he3 he4 hT
  go_wp2
  obtain ⟨W2, hW2⟩ : ∃ W, W = w4.alloc (.cells #[.slice (some ⟨g1, 0, none⟩) N N, .slice (some ⟨g2, 0, none⟩) N N, .slice (some ⟨g3, 0, none⟩) N N] 62) := ⟨_, rfl⟩
  have eW : Ext w4 W2 := by rw [hW2]; exact (Ext.refl _).alloc _
  have b0 : W2.cell? ⟨w.heap.size, 0, none⟩ = some (.int .i64 u) := eW.cell c0
  have b1 : W2.cell? ⟨w4.heap.size, 1, none⟩ = some (.slice (some ⟨g2, 0, none⟩) N N) := by rw [hW2]; exact (BoxAt.made _ _ _).cell 1 _ rfl
  rw [← hW2]
  clear hW2 c0 c1
  refine wp_loopF 59 _ rfl rfl [1, 2, 6, 7] rfl (fun fr wr => Ext W2 wr ∧ ∃ j : Nat, j ≤ u ∧ (fr 8) = .int .i64 ((j + 1 : Nat) : Int) ∧ Hid (fstV (fun v => openAt code v && goodT T code v) ((varsTo u).drop j) = fstV (fun v => openAt code v && goodT T code v) (varsTo u))) (fun fr wr => u + 1 - (intOf (fr 8)).toNat) ?_ ?_
  · (exact ⟨Ext.refl _, 0, by omega, by go_num, rfl⟩)
  intro ks fr wr hkept hrel; (try dsimp only at hrel)
  change Code.wp _ _ _ ⟨#[fr 0, ks 1, ks 2, fr 3, fr 4, fr 5, ks 6, ks 7, fr 8, fr 9, fr 10, fr 11, fr 12, fr 13, fr 14, fr 15, fr 16, fr 17, fr 18, fr 19, fr 20, fr 21, fr 22, fr 23, fr 24, fr 25, fr 26, fr 27, fr 28, fr 29, fr 30, fr 31, fr 32, fr 33, fr 34, fr 35, fr 36, fr 37, fr 38, fr 39, fr 40, fr 41, fr 42, fr 43, fr 44, fr 45, fr 46, fr 47, fr 48, fr 49, fr 50, fr 51, fr 52, fr 53, fr 54, fr 55, fr 56, fr 57, fr 58], []⟩ wr
  simp only [KeptV, List.getD_cons_zero, List.getD_cons_succ] at hkept; obtain ⟨hk1, hk2, hk6, hk7, -⟩ := hkept
  generalize ks 1 = k1 at hk1 ⊢; subst hk1
  generalize ks 2 = k2 at hk2 ⊢; subst hk2
  generalize ks 6 = k6 at hk6 ⊢; subst hk6
  generalize ks 7 = k7 at hk7 ⊢; subst hk7
  generalize fr 8 = s8 at hrel ⊢
  obtain ⟨he, j, hj, hs1, hq⟩ := hrel
  subst hs1
  have c0 := he.cell b0
  have c1 := he.cell b1
  by_cases hlt : j < u
  · have HA := hide (fun W => l12After_c code j W (by omega) (by omega))
    have hst := fstV_drop (p := fun v => openAt code v && goodT T code v) (hide (varsTo_get hlt))
    rw [hq.out] at hst
    cases hop : openAt code (j + 1)
    · rw [hop] at HA hst
      have hq2 : Hid (fstV (fun v => openAt code v && goodT T code v) ((varsTo u).drop (j + 1)) = fstV (fun v => openAt code v && goodT T code v) (varsTo u)) := hide (by rw [hst]; simp)
      clear hop hst
      go_wp2_with fail
      refine (HA.out _).mono ?_
      rintro e w6 ⟨rfl, he6⟩
      go_wp2_with fail
      go_quiet (fail)
      go_wp2_with fail
      exact ⟨⟨(by (repeat (first | exact trivial | refine ⟨rfl, ?_⟩))), by (repeat (first | with_reducible exact Ext.refl _ | with_reducible assumption | ((with_reducible refine Ext.setCell ?_ ?_ _); rotate_left; focus (first | omega | (simp <;> omega))) | with_reducible refine Ext.alloc ?_ _ | with_reducible refine Ext.drewN ?_ _ | with_reducible refine Ext.drew ?_ | with_reducible refine Ext.trans ?_ (by with_reducible assumption))), j + 1, by omega, by go_num, hq2⟩, (by simp [intOf] <;> omega)⟩
    · have hcodes := open_codes (n := u) (by rw [← HN.out]; exact hcd) (v := j + 1) ⟨by omega, by omega⟩ hop
      rw [← HN.out] at hcodes
      rw [hop] at HA hst
      clear hop
      have hp3 : pow3 j ≤ 729 := by have := pow3_mono (show j ≤ 6 by omega); have h6 : pow3 6 = 729 := rfl; omega
      have hge1 : gNo code (j + 1) = code + pow3 j := rfl
      have hge2 : gYes code (j + 1) = code + 2 * pow3 j := rfl
      have hT2 := hT4.ext (eW.trans he)
      have hgood : goodT T code (j + 1) = (wrap64 (T.sz.getD (code + pow3 j) 0 + T.sz.getD (code + 2 * pow3 j) 0) == T.sz.getD code 0) := rfl
      rw [hgood] at hst
      rw [hge1, hge2] at HA hcodes
      have f5 := hT2.sz (show code + pow3 j < N by omega)
      have f6 := hT2.sz (show code + 2 * pow3 j < N by omega)
      have q1 := hT2.sz hcd
      clear hge1 hge2 hgood
      generalize T.sz.getD (code + pow3 j) 0 = s1 at *
      generalize T.sz.getD (code + 2 * pow3 j) 0 = s2 at *
      generalize T.sz.getD code 0 = s0 at *
      generalize pow3 j = p at *
      have ha1 : (0 : Int) ≤ (code : Int) + p := by omega
      have ha2 : (code : Int) + p < N := by omega
      have ha3 : ((code : Int) + p).toNat = code + p := by omega
      have ha4 : (0 : Int) ≤ (code : Int) + 2 * p := by omega
      have ha5 : (code : Int) + 2 * p < N := by omega
      have ha6 : ((code : Int) + 2 * p).toNat = code + 2 * p := by omega
      clear hcodes
      by_cases hg : wrap64 (s1 + s2) = s0
      · have hq2 : Hid (((j + 1 : Nat) : Int) = (fstV (fun v => openAt code v && goodT T code v) (varsTo u) : Nat)) := hide (by rw [hst]; simp [hg])
        have hgt : (wrap64 (s1 + s2) == s0) = true := by simpa using hg
        clear hst hg
        go_wp2_with fail
        refine (HA.out _).mono ?_
        rintro e w6 ⟨rfl, he6⟩
        have f5 := he6.cell f5; have f6 := he6.cell f6; have q1 := he6.cell q1; have c0 := he6.cell c0; have c1 := he6.cell c1
        (try rw [show ((code + p : Nat) : Int) = (code : Int) + p by omega])
        (try rw [show ((code + 2 * p : Nat) : Int) = (code : Int) + 2 * p by omega])
        go_wp2_with fail
        go_quiet (fail)
        go_wp2_with fail
        go_ret2; exact ⟨by rw [← hq2.out]; rfl, by (repeat (first | with_reducible exact Ext.refl _ | with_reducible assumption | ((with_reducible refine Ext.setCell ?_ ?_ _); rotate_left; focus (first | omega | (simp <;> omega))) | with_reducible refine Ext.alloc ?_ _ | with_reducible refine Ext.drewN ?_ _ | with_reducible refine Ext.drew ?_ | with_reducible refine Ext.trans ?_ (by with_reducible assumption)))⟩
      · have hq2 : Hid (fstV (fun v => openAt code v && goodT T code v) ((varsTo u).drop (j + 1)) = fstV (fun v => openAt code v && goodT T code v) (varsTo u)) := hide (by rw [hst]; simp [hg])
        have hgf : (wrap64 (s1 + s2) == s0) = false := by simpa using hg
        clear hst hg
        go_wp2_with fail
        refine (HA.out _).mono ?_
        rintro e w6 ⟨rfl, he6⟩
        have f5 := he6.cell f5; have f6 := he6.cell f6; have q1 := he6.cell q1; have c0 := he6.cell c0; have c1 := he6.cell c1
        (try rw [show ((code + p : Nat) : Int) = (code : Int) + p by omega])
        (try rw [show ((code + 2 * p : Nat) : Int) = (code : Int) + 2 * p by omega])
        go_wp2_with fail
        go_quiet (fail)
        go_wp2_with fail
        exact ⟨⟨(by (repeat (first | exact trivial | refine ⟨rfl, ?_⟩))), by (repeat (first | with_reducible exact Ext.refl _ | with_reducible assumption | ((with_reducible refine Ext.setCell ?_ ?_ _); rotate_left; focus (first | omega | (simp <;> omega))) | with_reducible refine Ext.alloc ?_ _ | with_reducible refine Ext.drewN ?_ _ | with_reducible refine Ext.drew ?_ | with_reducible refine Ext.trans ?_ (by with_reducible assumption))), j + 1, by omega, by go_num, hq2⟩, (by simp [intOf] <;> omega)⟩
  · obtain rfl : j = u := by omega
    exfalso
    have h1 := hq.out
    rw [List.drop_eq_nil_of_le (by rw [varsTo_length]; exact Nat.le_refl _)] at h1
    have h2 := HSome.out
    rw [← h1] at h2
    simp [fstV] at h2
set_option maxRecDepth 100000 in
set_option maxHeartbeats 1600000 in
theorem impl_TreeVariable_c (v : Int) (A : Option Addr) (n d : Nat) (cls : List (List Int)) (B : Option Addr) (m q : Nat) (a : List Int) (w : World) (h : Intss w A n cls) (k : Ints w B m a) :
    Calls Try.prog 40 #[.agg #[.int .i64 v, .slice A n d], .slice B m q] w fun e w' => e = .returned (.tuple #[.int .i64 (treeVar v cls a : Int), .bool (askedOpen v cls a)]) ∧ Ext w w' := by
  unfold treeVar askedOpen
  cases h1 : asked v cls a
  · simp only [Bool.false_and, Bool.false_eq_true, if_false]
    go_enter Try.func40, Try.ntmps40
    go_wp2_with fail
    refine (gameAt_no _ _ _ _ cls _ _ _ a _ (h.ext (by (repeat (first | with_reducible exact Ext.refl _ | with_reducible assumption | ((with_reducible refine Ext.setCell ?_ ?_ _); rotate_left; focus (first | omega | (simp <;> omega))) | with_reducible refine Ext.alloc ?_ _ | with_reducible refine Ext.drewN ?_ _ | with_reducible refine Ext.drew ?_ | with_reducible refine Ext.trans ?_ (by with_reducible assumption))))) (k.ext (by (repeat (first | with_reducible exact Ext.refl _ | with_reducible assumption | ((with_reducible refine Ext.setCell ?_ ?_ _); rotate_left; focus (first | omega | (simp <;> omega))) | with_reducible refine Ext.alloc ?_ _ | with_reducible refine Ext.drewN ?_ _ | with_reducible refine Ext.drew ?_ | with_reducible refine Ext.trans ?_ (by with_reducible assumption))))) h1).mono ?_
    rintro e w1 ⟨rfl, he⟩
    go_wp2
    go_ret2; exact ⟨rfl, by (repeat (first | with_reducible exact Ext.refl _ | with_reducible assumption | ((with_reducible refine Ext.setCell ?_ ?_ _); rotate_left; focus (first | omega | (simp <;> omega))) | with_reducible refine Ext.alloc ?_ _ | with_reducible refine Ext.drewN ?_ _ | with_reducible refine Ext.drew ?_ | with_reducible refine Ext.trans ?_ (by with_reducible assumption)))⟩
  obtain ⟨ht, ha⟩ := and2_true h1
  obtain ⟨hc, hv, _⟩ := takes_facts ht
  obtain ⟨u, rfl⟩ := int_nat hv.1
  rw [show ((u : Int)).toNat = u by omega]
  obtain ⟨hrt, hcd⟩ := asg_code ha
  have H1 := hide h1
  have HRT := hide hrt
  have HA := hide ha
  clear h1 hc ht ha hrt
  cases h2 : falseAny cls a
  all_goals
    simp only [Bool.not_false, Bool.and_true, if_true, Bool.not_true, Bool.and_false, Bool.false_eq_true, if_false]
    have H2 := hide h2
    clear h2
    obtain ⟨cd, hcd2⟩ : ∃ c, codeOf a = c := ⟨_, rfl⟩
    have HCD := hide hcd2
    rw [hcd2] at hcd
    clear hcd2
    go_enter Try.func40, Try.ntmps40
    go_wp2_with fail
    refine (gameAt_yes u A n d cls B m q a _ (h.ext (by (repeat (first | with_reducible exact Ext.refl _ | with_reducible assumption | ((with_reducible refine Ext.setCell ?_ ?_ _); rotate_left; focus (first | omega | (simp <;> omega))) | with_reducible refine Ext.alloc ?_ _ | with_reducible refine Ext.drewN ?_ _ | with_reducible refine Ext.drew ?_ | with_reducible refine Ext.trans ?_ (by with_reducible assumption))))) (k.ext (by (repeat (first | with_reducible exact Ext.refl _ | with_reducible assumption | ((with_reducible refine Ext.setCell ?_ ?_ _); rotate_left; focus (first | omega | (simp <;> omega))) | with_reducible refine Ext.alloc ?_ _ | with_reducible refine Ext.drewN ?_ _ | with_reducible refine Ext.drew ?_ | with_reducible refine Ext.trans ?_ (by with_reducible assumption))))) H1.out).mono ?_
    rw [HCD.out]
    rintro e w1 ⟨b, g0, g1, g2, g3, ov, rfl, hG, hov, he⟩
    have hf := hG.ov hcd
    rw [hov cd hcd, ← HCD.out, HRT.out, H2.out, HCD.out] at hf
    have hov := hide hov
    have e2 := hG.box.cell 2 (.slice (some ⟨g0, 0, none⟩) (pow3 u) (pow3 u)) rfl
    have e1 : Ext w w1 := by (repeat (first | with_reducible exact Ext.refl _ | with_reducible assumption | ((with_reducible refine Ext.setCell ?_ ?_ _); rotate_left; focus (first | omega | (simp <;> omega))) | with_reducible refine Ext.alloc ?_ _ | with_reducible refine Ext.drewN ?_ _ | with_reducible refine Ext.drew ?_ | with_reducible refine Ext.trans ?_ (by with_reducible assumption)))
    go_wp2_with fail
  · refine (treeVariable_c u _ b g0 g1 g2 g3 (pow3 u) A n d ov (gAll u cls) B m q a _ hG (k.ext e1) (by omega) rfl HA.out).mono ?_
    rintro e w2 ⟨rfl, he2⟩
    go_wp2
    go_ret2; exact ⟨rfl, by (repeat (first | with_reducible exact Ext.refl _ | with_reducible assumption | ((with_reducible refine Ext.setCell ?_ ?_ _); rotate_left; focus (first | omega | (simp <;> omega))) | with_reducible refine Ext.alloc ?_ _ | with_reducible refine Ext.drewN ?_ _ | with_reducible refine Ext.drew ?_ | with_reducible refine Ext.trans ?_ (by with_reducible assumption)))⟩
  · go_ret2; exact ⟨rfl, e1⟩
end Go.Proofs.Ytmpfhibncnamnaa
