/-
  The program's methods proverVariable, treeVariable.
-/
import Derived.Test.YtmpfhibncnamnaaC48
namespace Go.Proofs.Ytmpfhibncnamnaa
set_option linter.unusedSimpArgs false
set_option linter.unusedVariables false
open Go.RowKit

theorem natInts_get {vs : List Nat} {k : Nat} {x : Int} (h : Hid ((natInts vs)[k]? = some x)) : ∃ v, Hid (vs[k]? = some v) ∧ x = (v : Int) := by
  have h := h.out
  rw [natInts, List.getElem?_map] at h
  cases hv : vs[k]? with
  | none => rw [hv] at h; simp at h
  | some v => rw [hv] at h; simp at h; exact ⟨v, hide rfl, h.symm⟩
set_option maxRecDepth 100000 in
set_option maxHeartbeats 4000000 in
theorem proverVariable_c (n L b g0 g1 g2 g3 code N : Nat) (A : Option Addr) (m d : Nat) (ov : List Bool) (T : Tab) (w : World) (hG : GameAt w L b g0 g1 g2 g3 n A m d N ov T) (hn : n ≤ 6) (hN : N = pow3 n) (hc : code < N) :
    Calls Try.prog 76 #[.pointer (some ⟨b, 0, none⟩), .int .i64 code] w fun e w' => e = .returned (.int .i64 (proverOf n T code : Int)) ∧ Ext w w' := by
  have hN6 : N ≤ 729 := by have := pow3_mono hn; have h6 : pow3 6 = 729 := rfl; omega
  have HN := hide hN
  clear hN
  have c0 := hG.box.cell 0 (.int .i64 n) rfl
  have HOL := hide (openList_code (n := n) (code := code))
  go_enter Try.func76, Try.ntmps76
  go_wp2_with fail
  go_region_held3 (fun w' => w'.cell? ⟨b, 0, none⟩ = some (.int .i64 n)) (exact (show Ext w _ by (repeat (first | with_reducible exact Ext.refl _ | with_reducible assumption | ((with_reducible refine Ext.setCell ?_ ?_ _); rotate_left; focus (first | omega | (simp <;> omega))) | with_reducible refine Ext.alloc ?_ _ | with_reducible refine Ext.drewN ?_ _ | with_reducible refine Ext.drew ?_ | with_reducible refine Ext.trans ?_ (by with_reducible assumption)))).cell c0) (first | (go_at_call 70; refine (ofCode_c n code _ hn (by omega)).mono ?_; rintro e w1 ⟨X1, y1, z1, rfl, ho1, hy1, he1⟩) | (go_at_call 69; refine (openVars_c n X1 y1 z1 (codeLits n 1 code) _ ((ho1.ints (by omega)).ext (by (repeat (first | with_reducible exact Ext.refl _ | with_reducible assumption | ((with_reducible refine Ext.setCell ?_ ?_ _); rotate_left; focus (first | omega | (simp <;> omega))) | with_reducible refine Ext.alloc ?_ _ | with_reducible refine Ext.drewN ?_ _ | with_reducible refine Ext.drew ?_ | with_reducible refine Ext.trans ?_ (by with_reducible assumption))))) (by omega)).mono ?_; rintro e w3 ⟨X, y, z, rfl, ho, hyn, he3⟩; have ew3 : Ext w w3 := (by (repeat (first | with_reducible exact Ext.refl _ | with_reducible assumption | ((with_reducible refine Ext.setCell ?_ ?_ _); rotate_left; focus (first | omega | (simp <;> omega))) | with_reducible refine Ext.alloc ?_ _ | with_reducible refine Ext.drewN ?_ _ | with_reducible refine Ext.drew ?_ | with_reducible refine Ext.trans ?_ (by with_reducible assumption))))))
  rw [HOL.out] at ho
  have hI : Ints w3 X y (natInts (opens n code)) := ho.ints (by omega)
  have HYL := hide hI.len
  have hG3 := hG.ext ew3
  clear ho1 ho c0 hG
  go_wp2_with fail
  refine wp_loopF 40 _ rfl rfl [0, 1, 19, 20] rfl (fun fr wr => Ext w3 wr ∧ ∃ k : Nat, k ≤ y ∧ (fr 21) = .int .i64 k ∧ Hid (fstV (goodS T code) ((opens n code).drop k) = proverOf n T code)) (fun fr wr => y - (intOf (fr 21)).toNat) ?_ ?_
  · (exact ⟨Ext.refl _, 0, by omega, by go_num, rfl⟩)
  intro ks fr wr hkept hrel; (try dsimp only at hrel)
  change Code.wp _ _ _ ⟨#[ks 0, ks 1, fr 2, fr 3, fr 4, fr 5, fr 6, fr 7, fr 8, fr 9, fr 10, fr 11, fr 12, fr 13, fr 14, fr 15, fr 16, fr 17, fr 18, ks 19, ks 20, fr 21, fr 22, fr 23, fr 24, fr 25, fr 26, fr 27, fr 28, fr 29, fr 30, fr 31, fr 32, fr 33, fr 34, fr 35, fr 36, fr 37, fr 38, fr 39], []⟩ wr
  simp only [KeptV, List.getD_cons_zero, List.getD_cons_succ] at hkept; obtain ⟨hk0, hk1, hk19, hk20, -⟩ := hkept
  generalize ks 0 = k0 at hk0 ⊢; subst hk0
  generalize ks 1 = k1 at hk1 ⊢; subst hk1
  generalize ks 19 = k19 at hk19 ⊢; subst hk19
  generalize ks 20 = k20 at hk20 ⊢; subst hk20
  generalize fr 21 = s21 at hrel ⊢
  obtain ⟨he, k, hk, hs1, hq⟩ := hrel
  subst hs1
  by_cases hlt : k < y
  · obtain ⟨ad, x, rfl, hx, hcx⟩ := (hI.ext he).at_ hlt
    obtain ⟨v, hv, rfl⟩ := natInts_get hx
    have hvo := List.mem_filter.1 (List.mem_of_getElem? hv.out)
    have hvr := mem_varsTo hvo.1
    have hcodes := open_codes (n := n) (by rw [← HN.out]; exact hc) hvr hvo.2
    rw [← HN.out] at hcodes
    have hst := fstV_drop (p := goodS T code) hv
    rw [hq.out] at hst
    obtain ⟨u, rfl⟩ : ∃ u, v = u + 1 := ⟨v - 1, by omega⟩
    have hu : u ≤ 5 := by omega
    have hG4 := hG3.ext he
    have hpts := fun W (he' : Ext wr W) => points_c b (some ⟨g1, 0, none⟩) N N T.sc code u W (hG4.tab.o1.ints hG4.tab.full.sc (by omega) |>.ext he') ((hG4.box.ext he').cell 3 _ rfl) hu (by omega) hN6
    have hgood : goodS T code (u + 1) = (gPts (T.sc.getD (gNo code (u + 1)) 0) (T.sc.getD (gYes code (u + 1)) 0) == T.sc.getD code 0) := rfl
    rw [hgood] at hst
    have q1 := hG4.tab.sc hc
    have e3 := hG4.box.cell 3 (.slice (some ⟨g1, 0, none⟩) N N) rfl
    clear hgood hvo hvr hv hx hcodes
    generalize T.sc.getD (gNo code (u + 1)) 0 = s1 at *
    generalize T.sc.getD (gYes code (u + 1)) 0 = s2 at *
    generalize T.sc.getD code 0 = s0 at *
    have HB := hide (fun W => best_pts s1 s2 W)
    have HPT := hide hpts
    clear hpts
    generalize hP : gPts s1 s2 = P1 at *
    clear hP
    have hcx : wr.cell? (ad.add k) = some (.int .i64 ((u : Int) + 1)) := by rw [hcx]; rfl
    by_cases hg : P1 = s0
    · have hq2 : Hid (((u : Int) + 1) = (proverOf n T code : Nat)) := hide (by rw [hst]; simp [hg])
      clear hst
      go_wp2_with fail
      go_region_held3 (fun w' => w'.cell? ⟨b, 3, none⟩ = some (.slice (some ⟨g1, 0, none⟩) N N) ∧ w'.cell? ⟨g1, code, none⟩ = some (.int .i64 s0)) (exact ⟨(show Ext wr _ by (repeat (first | with_reducible exact Ext.refl _ | with_reducible assumption | ((with_reducible refine Ext.setCell ?_ ?_ _); rotate_left; focus (first | omega | (simp <;> omega))) | with_reducible refine Ext.alloc ?_ _ | with_reducible refine Ext.drewN ?_ _ | with_reducible refine Ext.drew ?_ | with_reducible refine Ext.trans ?_ (by with_reducible assumption)))).cell e3, (show Ext wr _ by (repeat (first | with_reducible exact Ext.refl _ | with_reducible assumption | ((with_reducible refine Ext.setCell ?_ ?_ _); rotate_left; focus (first | omega | (simp <;> omega))) | with_reducible refine Ext.alloc ?_ _ | with_reducible refine Ext.drewN ?_ _ | with_reducible refine Ext.drew ?_ | with_reducible refine Ext.trans ?_ (by with_reducible assumption)))).cell q1⟩) (first | (go_at_call 84; refine (HPT.out _ (by (repeat (first | with_reducible exact Ext.refl _ | with_reducible assumption | ((with_reducible refine Ext.setCell ?_ ?_ _); rotate_left; focus (first | omega | (simp <;> omega))) | with_reducible refine Ext.alloc ?_ _ | with_reducible refine Ext.drewN ?_ _ | with_reducible refine Ext.drew ?_ | with_reducible refine Ext.trans ?_ (by with_reducible assumption))))).mono ?_; rintro e w4 ⟨rfl, he4⟩) | (go_at_call 71; refine (HB.out _).mono ?_; rintro e w5 ⟨rfl, he5⟩; have h5 : Ext wr w5 := (by (repeat (first | with_reducible exact Ext.refl _ | with_reducible assumption | ((with_reducible refine Ext.setCell ?_ ?_ _); rotate_left; focus (first | omega | (simp <;> omega))) | with_reducible refine Ext.alloc ?_ _ | with_reducible refine Ext.drewN ?_ _ | with_reducible refine Ext.drew ?_ | with_reducible refine Ext.trans ?_ (by with_reducible assumption))))))
      go_wp2
      go_ret; exact ⟨ret_int (by rw [← hq2.out]), by (repeat (first | with_reducible exact Ext.refl _ | with_reducible assumption | ((with_reducible refine Ext.setCell ?_ ?_ _); rotate_left; focus (first | omega | (simp <;> omega))) | with_reducible refine Ext.alloc ?_ _ | with_reducible refine Ext.drewN ?_ _ | with_reducible refine Ext.drew ?_ | with_reducible refine Ext.trans ?_ (by with_reducible assumption)))⟩
    · have hq2 : Hid (fstV (goodS T code) ((opens n code).drop (k + 1)) = proverOf n T code) := hide (by rw [hst]; simp [hg])
      have hgf : (P1 == s0) = false := by simpa using hg
      clear hst
      go_wp2_with fail
      go_region_held3 (fun w' => w'.cell? ⟨b, 3, none⟩ = some (.slice (some ⟨g1, 0, none⟩) N N) ∧ w'.cell? ⟨g1, code, none⟩ = some (.int .i64 s0)) (exact ⟨(show Ext wr _ by (repeat (first | with_reducible exact Ext.refl _ | with_reducible assumption | ((with_reducible refine Ext.setCell ?_ ?_ _); rotate_left; focus (first | omega | (simp <;> omega))) | with_reducible refine Ext.alloc ?_ _ | with_reducible refine Ext.drewN ?_ _ | with_reducible refine Ext.drew ?_ | with_reducible refine Ext.trans ?_ (by with_reducible assumption)))).cell e3, (show Ext wr _ by (repeat (first | with_reducible exact Ext.refl _ | with_reducible assumption | ((with_reducible refine Ext.setCell ?_ ?_ _); rotate_left; focus (first | omega | (simp <;> omega))) | with_reducible refine Ext.alloc ?_ _ | with_reducible refine Ext.drewN ?_ _ | with_reducible refine Ext.drew ?_ | with_reducible refine Ext.trans ?_ (by with_reducible assumption)))).cell q1⟩) (first | (go_at_call 84; refine (HPT.out _ (by (repeat (first | with_reducible exact Ext.refl _ | with_reducible assumption | ((with_reducible refine Ext.setCell ?_ ?_ _); rotate_left; focus (first | omega | (simp <;> omega))) | with_reducible refine Ext.alloc ?_ _ | with_reducible refine Ext.drewN ?_ _ | with_reducible refine Ext.drew ?_ | with_reducible refine Ext.trans ?_ (by with_reducible assumption))))).mono ?_; rintro e w4 ⟨rfl, he4⟩) | (go_at_call 71; refine (HB.out _).mono ?_; rintro e w5 ⟨rfl, he5⟩; have h5 : Ext wr w5 := (by (repeat (first | with_reducible exact Ext.refl _ | with_reducible assumption | ((with_reducible refine Ext.setCell ?_ ?_ _); rotate_left; focus (first | omega | (simp <;> omega))) | with_reducible refine Ext.alloc ?_ _ | with_reducible refine Ext.drewN ?_ _ | with_reducible refine Ext.drew ?_ | with_reducible refine Ext.trans ?_ (by with_reducible assumption))))))
      have hen := hide (he.trans h5)
      go_wp2
      exact ⟨⟨(by (repeat (first | exact trivial | refine ⟨rfl, ?_⟩))), hen.out, k + 1, by omega, by go_num, hq2⟩, (by simp [intOf] <;> omega)⟩
  · have hz : Hid (proverOf n T code = 0) := hide (by rw [← hq.out, List.drop_eq_nil_of_le (by have := HYL.out; simp [natInts] at this; omega)]; rfl)
    go_wp2
    go_ret; exact ⟨ret_int (by rw [hz.out]; rfl), by (repeat (first | with_reducible exact Ext.refl _ | with_reducible assumption | ((with_reducible refine Ext.setCell ?_ ?_ _); rotate_left; focus (first | omega | (simp <;> omega))) | with_reducible refine Ext.alloc ?_ _ | with_reducible refine Ext.drewN ?_ _ | with_reducible refine Ext.drew ?_ | with_reducible refine Ext.trans ?_ (by with_reducible assumption)))⟩
end Go.Proofs.Ytmpfhibncnamnaa
