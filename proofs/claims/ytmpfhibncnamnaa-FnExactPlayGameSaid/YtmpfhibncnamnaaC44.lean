/-
  newGame: the program's tables of a game.
-/
import Derived.Test.YtmpfhibncnamnaaC33
import Derived.Test.YtmpfhibncnamnaaC43
namespace Go.Proofs.Ytmpfhibncnamnaa
set_option linter.unusedSimpArgs false
set_option linter.unusedVariables false
open Go.RowKit

def takes (v : Int) (cls : List (List Int)) : Bool := cnfOk v cls && within v 0 6 && !satB v.toNat cls
theorem takes_facts {v : Int} {cls : List (List Int)} (h : takes v cls = true) : cnfOk v cls = true ∧ (0 ≤ v ∧ v ≤ 6) ∧ satB v.toNat cls = false := by
  obtain ⟨h1, h2, h3⟩ := and3_true h
  exact ⟨h1, within_true h2, by simpa using h3⟩
theorem BoxAt.make_at {w : World} {g : Nat} {t : TypeId} {z : Value} {N : Nat} (hg : g = w.heap.size) : BoxAt (w.alloc (.cells (madeCells #[z] N) t)) g t (List.replicate N z).toArray := by
  subst hg
  rw [show madeCells #[z] N = (List.replicate N z).toArray by apply Array.toList_inj.1; rw [toList_madeCells_one]]
  exact BoxAt.made w _ t
theorem BoxAt.made_at {w : World} {g : Nat} {t : TypeId} {cs : Array Value} (hg : g = w.heap.size) : BoxAt (w.alloc (.cells cs t)) g t cs := by subst hg; exact BoxAt.made _ _ _

theorem BoxAt.alloc_old {w : World} {g : Nat} {t : TypeId} {cs : Array Value} {o : Obj} (h : BoxAt w g t cs) : BoxAt (w.alloc o) g t cs := h.ext ((Ext.refl w).alloc o)
theorem BoxAt.drew_old {w : World} {g : Nat} {t : TypeId} {cs : Array Value} (h : BoxAt w g t cs) : BoxAt w.drew g t cs := h.ext (Ext.refl w).drew
theorem info_bool : (Try.prog.info? 4).map (fun i => (i.zero, i.size, i.bytes)) = some (some (.bool false), 1, 1) := by kernel_rfl
set_option maxRecDepth 100000 in
set_option maxHeartbeats 4000000 in
theorem newGame_yes (u : Nat) (A : Option Addr) (n d : Nat) (cls : List (List Int)) (w : World) (h : Intss w A n cls) (ht : takes u cls = true) :
    Calls Try.prog 57 #[.agg #[.int .i64 u, .slice A n d]] w fun e w' => ∃ b g0 g1 g2 g3 ov, e = .returned (.tuple #[.pointer (some ⟨b, 0, none⟩), .bool true]) ∧
      GameAt w' w.heap.size b g0 g1 g2 g3 u A n d (pow3 u) ov (gAll u cls) ∧ (∀ c, c < pow3 u → ov.getD c false = falseAny cls (codeLits u 1 c)) ∧ Ext w w' := by
  obtain ⟨h1, h2, h3⟩ := takes_facts ht
  have HC := hide (fun c hc => (cnf_lits h1 c hc).2)
  have hn : n ≤ 60 := by have := (cnf_facts h1).2.1; have := h.len; omega
  have hu : u ≤ 6 := by omega
  rw [show ((u : Int)).toNat = u by omega] at h3
  have H1 := hide h1
  have H3 := hide h3
  clear h1 h2 h3 ht
  obtain ⟨N, hN⟩ : ∃ N : Nat, N = pow3 u := ⟨_, rfl⟩
  rw [← hN]
  have hN6 : N ≤ 729 := by have := pow3_mono hu; have h6 : pow3 6 = 729 := rfl; omega
  have hN0 : 0 < N := by rw [hN]; exact pow3_pos _
  have HP := hide (fun W => power3_c u W (by omega))
  rw [← hN] at HP
  have HN := hide hN
  clear hN
  have hmk := fun W => make_eq (P := Try.prog) 32 3 Try.underlying32 _ 8 info_int rfl N (by omega) (by omega) W
  have hmk2 := fun W => make_eq (P := Try.prog) 68 4 Try.underlying68 _ 1 info_bool rfl N (by omega) (by omega) W
  have hu6 : ((6 : Int) < (u : Int)) = False := by simp; omega
  go_enter Try.func57, Try.ntmps57
  go_wp2_with fail
  refine (IsCnf_c _ _ _ _ cls _ (h.ext (by (repeat (first | with_reducible exact Ext.refl _ | with_reducible assumption | ((with_reducible refine Ext.setCell ?_ ?_ _); rotate_left; focus (first | omega | (simp <;> omega))) | with_reducible refine Ext.alloc ?_ _ | with_reducible refine Ext.drewN ?_ _ | with_reducible refine Ext.drew ?_ | with_reducible refine Ext.trans ?_ (by with_reducible assumption)))))).mono ?_
  rw [H1.out]
  rintro e w1 ⟨rfl, he1⟩
  have c0 := he1.box 0 (.int .i64 u) rfl
  have c1 := he1.box 1 (.slice A n d) rfl
  go_wp2_with fail
  refine (satisfiable_c _ _ _ _ cls _ (h.ext (by (repeat (first | with_reducible exact Ext.refl _ | with_reducible assumption | ((with_reducible refine Ext.setCell ?_ ?_ _); rotate_left; focus (first | omega | (simp <;> omega))) | with_reducible refine Ext.alloc ?_ _ | with_reducible refine Ext.drewN ?_ _ | with_reducible refine Ext.drew ?_ | with_reducible refine Ext.trans ?_ (by with_reducible assumption))))) (by omega) HC.out).mono ?_
  rw [H3.out]
  rintro e w2 ⟨rfl, he2⟩
  have c0 := he2.cell c0
  have c1 := he2.cell c1
  have he2' : Ext w w2 := by (repeat (first | with_reducible exact Ext.refl _ | with_reducible assumption | ((with_reducible refine Ext.setCell ?_ ?_ _); rotate_left; focus (first | omega | (simp <;> omega))) | with_reducible refine Ext.alloc ?_ _ | with_reducible refine Ext.drewN ?_ _ | with_reducible refine Ext.drew ?_ | with_reducible refine Ext.trans ?_ (by with_reducible assumption)))
  clear he1 he2
  go_wp2_with fail
  refine (HP.out _).mono ?_
  rintro e w3 ⟨rfl, rfl⟩
  go_wp2_with fail
  have hm1 : ((List.replicate N (0 : Int)).map (Value.int .i64)).toArray = madeCells #[.int .i64 0] N := by apply Array.toList_inj.1; rw [toList_madeCells_one]; simp
  have hm2 : ((List.replicate N false).map Value.bool).toArray = madeCells #[.bool false] N := by apply Array.toList_inj.1; rw [toList_madeCells_one]; simp
  have HM1 := hide hm1
  have HM2 := hide hm2
  clear hm1 hm2
  go_cut [5, 27, 29, 31, 33] (fun sA sB sC sD sE wx => ∃ b g0 g1 g2 g3, sA = .pointer (some ⟨b, 0, none⟩) ∧ sB = .slice (some ⟨g0, 0, none⟩) N N ∧ sC = .slice (some ⟨g1, 0, none⟩) N N ∧ sD = .slice (some ⟨g2, 0, none⟩) N N ∧ sE = .slice (some ⟨g3, 0, none⟩) N N ∧
    GameAt wx w.heap.size b g0 g1 g2 g3 u A n d N (List.replicate N false) ⟨List.replicate N 0, List.replicate N 0, List.replicate N 0⟩ ∧ Ext w wx)
  case first =>
    have hbl : w.heap.size < w2.heap.size := World.block_lt_of_cell? _ _ c0
    go_region_held3 (fun w' => w'.cell? ⟨w.heap.size, 0, none⟩ = some (.int .i64 u) ∧ w'.cell? ⟨w.heap.size, 1, none⟩ = some (.slice A n d)) (exact ⟨(show Ext w2 _ by (repeat (first | with_reducible exact Ext.refl _ | with_reducible assumption | ((with_reducible refine Ext.setCell ?_ ?_ _); rotate_left; focus (first | omega | (simp <;> omega))) | with_reducible refine Ext.alloc ?_ _ | with_reducible refine Ext.drewN ?_ _ | with_reducible refine Ext.drew ?_ | with_reducible refine Ext.trans ?_ (by with_reducible assumption)))).cell c0, (show Ext w2 _ by (repeat (first | with_reducible exact Ext.refl _ | with_reducible assumption | ((with_reducible refine Ext.setCell ?_ ?_ _); rotate_left; focus (first | omega | (simp <;> omega))) | with_reducible refine Ext.alloc ?_ _ | with_reducible refine Ext.drewN ?_ _ | with_reducible refine Ext.drew ?_ | with_reducible refine Ext.trans ?_ (by with_reducible assumption)))).cell c1⟩) (fail)
    all_goals
      go_wp2_with fail
      go_meet
      refine ⟨_, _, _, _, _, rfl, rfl, rfl, rfl, rfl, ⟨?_, ?_, ⟨?_, ?_, ?_, ⟨by simp, by simp, by simp⟩, by omega, by omega⟩, by simp, by omega, by omega⟩, by (repeat (first | with_reducible exact Ext.refl _ | with_reducible assumption | ((with_reducible refine Ext.setCell ?_ ?_ _); rotate_left; focus (first | omega | (simp <;> omega))) | with_reducible refine Ext.alloc ?_ _ | with_reducible refine Ext.drewN ?_ _ | with_reducible refine Ext.drew ?_ | with_reducible refine Ext.trans ?_ (by with_reducible assumption)))⟩
      · repeat (first | (with_reducible refine BoxAt.made_at ?_; (first | rfl | (simp; done))) | with_reducible refine BoxAt.drew_old ?_ | with_reducible refine BoxAt.alloc_old ?_)
      · rw [HM2.out]; repeat (first | (with_reducible refine BoxAt.made_at ?_; (first | rfl | (simp; done))) | with_reducible refine BoxAt.drew_old ?_ | with_reducible refine BoxAt.alloc_old ?_)
      · simp only []; rw [HM1.out]; repeat (first | (with_reducible refine BoxAt.made_at ?_; (first | rfl | (simp; done))) | with_reducible refine BoxAt.drew_old ?_ | with_reducible refine BoxAt.alloc_old ?_)
      · simp only []; rw [HM1.out]; repeat (first | (with_reducible refine BoxAt.made_at ?_; (first | rfl | (simp; done))) | with_reducible refine BoxAt.drew_old ?_ | with_reducible refine BoxAt.alloc_old ?_)
      · simp only []; rw [HM1.out]; repeat (first | (with_reducible refine BoxAt.made_at ?_; (first | rfl | (simp; done))) | with_reducible refine BoxAt.drew_old ?_ | with_reducible refine BoxAt.alloc_old ?_)
  case rest =>
  obtain ⟨b, g0, g1, g2, g3, hsA, hsB, hsC, hsD, hsE, hG, hE⟩ := hcut
  subst hsA; subst hsB; subst hsC; subst hsD; subst hsE
  obtain ⟨w3, rfl⟩ : ∃ x, x = wc := ⟨_, rfl⟩
  clear he2' c0 c1 hmk hmk2 HM1 HM2
  go_wp2_with fail
  refine wp_loopF 46 _ rfl rfl [5, 45] rfl (fun fr wr => Ext w wr ∧ ∃ k : Nat, k ≤ N ∧ (fr 6) = .int .i64 (((N - k : Nat) : Int) - 1) ∧ ∃ ov, GameAt wr w.heap.size b g0 g1 g2 g3 u A n d N ov (gTab u cls k) ∧ Hid (∀ c, N - k ≤ c → c < N → ov.getD c false = falseAny cls (codeLits u 1 c)) ∧ Hid (∀ c, c < N - k → ov.getD c false = false)) (fun fr wr => (intOf (fr 6) + 1).toNat) ?_ ?_
  · (refine ⟨hE, 0, by omega, by go_num, List.replicate N false, ?_, ?_, ?_⟩; (simpa [gTab, HN.out] using hG); (intro c h1 h2; omega); (intro c h1; simp [List.getD_eq_getElem?_getD, List.getElem?_replicate]; split <;> rfl))
  intro ks fr wr hkept hrel; (try dsimp only at hrel)
  change Code.wp _ _ _ ⟨#[fr 0, fr 1, fr 2, fr 3, fr 4, ks 5, fr 6, fr 7, fr 8, fr 9, fr 10, fr 11, fr 12, fr 13, fr 14, fr 15, fr 16, fr 17, fr 18, fr 19, fr 20, fr 21, fr 22, fr 23, fr 24, fr 25, fr 26, fr 27, fr 28, fr 29, fr 30, fr 31, fr 32, fr 33, fr 34, fr 35, fr 36, fr 37, fr 38, fr 39, fr 40, fr 41, fr 42, fr 43, fr 44, ks 45], []⟩ wr
  simp only [KeptV, List.getD_cons_zero, List.getD_cons_succ] at hkept; obtain ⟨hk5, hk45, -⟩ := hkept
  generalize ks 5 = k5 at hk5 ⊢; subst hk5
  generalize ks 45 = k45 at hk45 ⊢; subst hk45
  generalize fr 6 = s6 at hrel ⊢
  clear hE hG
  obtain ⟨hE, k, hk, hs1, ov, hG, hov1, hov2⟩ := hrel
  subst hs1
  by_cases hlt : k < N
  · obtain ⟨c, hc⟩ : ∃ c, N - k = c + 1 := ⟨N - k - 1, by omega⟩
    rw [hc]
    have hcv : (((c + 1 : Nat) : Int) - 1) = (c : Int) := by omega
    rw [hcv]
    have hck : pow3 u - 1 - k = c := by rw [← HN.out]; omega
    have HF := hide (fill_c w.heap.size b g0 g1 g2 g3 c u N A n d cls ov (gTab u cls k) w wr h hE (Nat.le_refl _) hG hu HN.out (by omega) (gTab_low u cls k c (by rw [← HN.out]; omega)) hn HC.out)
    have HCK := hide hck
    have HC1 := hide hc
    have hcN : c < N := by omega
    clear hck hc hcv
    go_wp2_with fail
    refine HF.out.mono ?_
    rintro e w4 ⟨rfl, hG4, hE4⟩
    have hgt : gTab u cls (k + 1) = (gTab u cls k).put c (gRow u cls (gTab u cls k) c) := by rw [gTab, HCK.out]
    rw [← hgt] at hG4
    clear hgt
    have hv1 : Hid (∀ c', N - (k + 1) ≤ c' → c' < N → (if falseAny cls (codeLits u 1 c) = true then ov.set c true else ov).getD c' false = falseAny cls (codeLits u 1 c')) := by
      have hol := hG.len
      have hc1 := HC1.out
      intro c' h1 h2
      by_cases hcc : c = c'
      · subst hcc
        have h0 := hov2.out c (by omega)
        cases falseAny cls (codeLits u 1 c)
        · simpa using h0
        · simp only [if_true]; rw [List.getD_eq_getElem?_getD, List.getElem?_set]; simp [hol, h2]
      · have h0 := hov1.out c' (by omega) h2
        rw [← h0]
        split
        · simp [List.getD_eq_getElem?_getD, List.getElem?_set, hcc]
        · rfl
    have hv2 : Hid (∀ c', c' < N - (k + 1) → (if falseAny cls (codeLits u 1 c) = true then ov.set c true else ov).getD c' false = false) := by
      have hc1 := HC1.out
      intro c' h1
      have h0 := hov2.out c' (by omega)
      refine Eq.trans ?_ h0
      split
      · simp [List.getD_eq_getElem?_getD, List.getElem?_set, show c ≠ c' by omega]
      · rfl
    have hc1 := HC1.out
    have hnk : N - (k + 1) = c := by omega
    generalize (if falseAny cls (codeLits u 1 c) = true then ov.set c true else ov) = ov2 at *
    clear hc1
    have HNK := hide hnk
    clear hnk
    go_wp2_with fail
    exact ⟨⟨(by (repeat (first | exact trivial | refine ⟨rfl, ?_⟩))), hE4, k + 1, by omega, by rw [HNK.out] <;> go_num, ov2, hG4, hv1, hv2⟩, (by simp [intOf] <;> omega)⟩
  · obtain rfl : k = N := by omega
    have hfin : gTab u cls k = gAll u cls := by rw [gAll, ← HN.out]
    rw [hfin] at hG
    have hz : ((k - k : Nat) : Int) - 1 = -1 := by omega
    rw [hz]
    clear hz hfin
    have hv := hov1
    go_wp2
    go_ret2
    exact ⟨b, g0, g1, g2, g3, ov, rfl, hG, fun c hc => hv.out c (by omega) hc, hE⟩
end Go.Proofs.Ytmpfhibncnamnaa
