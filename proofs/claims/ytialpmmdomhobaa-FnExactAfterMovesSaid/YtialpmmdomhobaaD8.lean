/-
  IsPebbling: the reference's play; both answers.
-/
import Derived.Test.YtialpmmdomhobaaD7
namespace Go.Proofs.Ytialpmmdomhobaa
set_option linter.unusedSimpArgs false
set_option linter.unusedVariables false
open Go.RowKit

/-- What the reference's play returns. -/
def playInt : Option (List Nat × Nat) → Int × Int
  | none => (-1, 0)
  | some (ps, s) => (s, mostB (ps ++ [s]))
theorem most_le (ps : List Nat) : mostB ps ≤ 10 := by
  unfold mostB
  have : ∀ (ps : List Nat) (m : Nat), m ≤ 10 → ps.foldl (fun m s => max m (cntB s)) m ≤ 10 := by
    intro ps
    induction ps with
    | nil => intro m h; exact h
    | cons p ps ih => intro m h; simp only [List.foldl_cons]; exact ih _ (by have := cntTo_le p 10; rw [← cntB_eq] at this; omega)
  exact this ps 0 (by omega)
set_option maxRecDepth 100000 in
set_option maxHeartbeats 3200000 in
theorem l14Play_c (xss : List (List Int)) (hd : dagOk xss = true) (rev : Bool) (A : Option Addr) (n d : Nat) (B : Option Addr) (m c : Nat) (ms : List Mv) (w : World) (h : Intss w A n xss) (k : Moves w B m ms) :
    Calls Try.prog 19 #[.agg #[.slice A n d], .slice B m c, .bool rev] w fun e w' => e = .returned (.tuple #[.int .i64 (playInt (posTo xss rev ms m)).1, .int .i64 (playInt (posTo xss rev ms m)).2]) ∧ Ext w w' := by
  have hl10 : xss.length ≤ 10 := dagOk_len hd
  have hbm := k.bound
  have HD := hide hd
  clear hd
  obtain ⟨R, hR⟩ : ∃ R, R = playInt (posTo xss rev ms m) := ⟨_, rfl⟩
  rw [← hR]
  have HR := hide hR
  obtain ⟨R1, R2⟩ := R
  clear hR
  dsimp only
  go_enter Try.func19, Try.ntmps19
  go_wp2_with fail
  refine wp_loopF 33 _ rfl rfl [1, 2, 3, 31, 32] rfl (fun fr wr => Ext w wr ∧ BoxAt wr w.heap.size 31 #[.slice A n d] ∧ ∃ (i s q : Nat), i ≤ m ∧ (fr 10) = .int .i64 i ∧ (fr 8) = .int .i64 (s : Nat) ∧ (fr 9) = .int .i64 (q : Nat) ∧ s < 1024 ∧ q ≤ 10 ∧ Hid (∃ ps, posTo xss rev ms i = some (ps, s) ∧ q = mostB (ps ++ [s]))) (fun fr wr => m - (intOf (fr 10)).toNat) ?_ ?_
  · (exact ⟨by (repeat (first | with_reducible exact Ext.refl _ | with_reducible assumption | ((with_reducible refine Ext.setCell ?_ ?_ _); rotate_left; focus (first | omega | (simp <;> omega))) | with_reducible refine Ext.alloc ?_ _ | with_reducible refine Ext.drewN ?_ _ | with_reducible refine Ext.drew ?_ | with_reducible refine Ext.trans ?_ (by with_reducible assumption))), BoxAt.made _ _ _, 0, 0, 0, by omega, rfl, rfl, rfl, by omega, by omega, hide ⟨[], rfl, by decide⟩⟩)
  intro ks fr wr hkept hrel; (try dsimp only at hrel)
  change Code.wp _ _ _ ⟨#[fr 0, ks 1, ks 2, ks 3, fr 4, fr 5, fr 6, fr 7, fr 8, fr 9, fr 10, fr 11, fr 12, fr 13, fr 14, fr 15, fr 16, fr 17, fr 18, fr 19, fr 20, fr 21, fr 22, fr 23, fr 24, fr 25, fr 26, fr 27, fr 28, fr 29, fr 30, ks 31, ks 32], []⟩ wr
  simp only [KeptV, List.getD_cons_zero, List.getD_cons_succ] at hkept; obtain ⟨hk1, hk2, hk3, hk31, hk32, -⟩ := hkept
  generalize ks 1 = k1 at hk1 ⊢; subst hk1
  generalize ks 2 = k2 at hk2 ⊢; subst hk2
  generalize ks 3 = k3 at hk3 ⊢; subst hk3
  generalize ks 31 = k31 at hk31 ⊢; subst hk31
  generalize ks 32 = k32 at hk32 ⊢; subst hk32
  generalize fr 8 = s8 at hrel ⊢
  generalize fr 9 = s9 at hrel ⊢
  generalize fr 10 = s10 at hrel ⊢
  obtain ⟨he, hb, i, s, q, hi, hs1, hs2, hs3, hs, hq, hP⟩ := hrel
  subst hs1; subst hs2; subst hs3
  have d0 := hb.cell 0 _ rfl
  by_cases hlt : i < m
  · obtain ⟨g, kd, nd, rfl, hx, c0, c1⟩ := (k.ext he).at_ hlt
    have hed := (Ext.refl wr).drew
    have HC := hide (fun W (E : Ext wr W) => l14Move_c xss HD.out rev s kd nd A n d W (h.ext (he.trans E)) hs)
    cases hm : moveP xss rev s (kd, nd) with
    | none =>
      rw [hm] at HC
      have hN : Hid (posTo xss rev ms m = none) := hide (by
        obtain ⟨ps, h1, _⟩ := hP.out
        exact posTo_none (k := i + 1) (by rw [posTo_next h1 hx, hm]; rfl) m (by omega))
      have hRR := HR.out
      rw [hN.out] at hRR
      have hR1 : R1 = -1 := congrArg Prod.fst hRR
      have hR2 : R2 = 0 := congrArg Prod.snd hRR
      subst hR1; subst hR2
      clear hRR HR hm hP hx
      go_wp2_with fail
      go_region_held3 (fun w' => w'.cell? ⟨w.heap.size, 0, none⟩ = some (.slice A n d) ∧ w'.cell? ⟨g, i * 2, none⟩ = some (.int .i64 kd) ∧ w'.cell? ⟨g, i * 2 + 1, none⟩ = some (.int .i64 nd)) (exact ⟨(show Ext wr _ by (repeat (first | with_reducible exact Ext.refl _ | with_reducible assumption | ((with_reducible refine Ext.setCell ?_ ?_ _); rotate_left; focus (first | omega | (simp <;> omega))) | with_reducible refine Ext.alloc ?_ _ | with_reducible refine Ext.drewN ?_ _ | with_reducible refine Ext.drew ?_ | with_reducible refine Ext.trans ?_ (by with_reducible assumption)))).cell d0, (show Ext wr _ by (repeat (first | with_reducible exact Ext.refl _ | with_reducible assumption | ((with_reducible refine Ext.setCell ?_ ?_ _); rotate_left; focus (first | omega | (simp <;> omega))) | with_reducible refine Ext.alloc ?_ _ | with_reducible refine Ext.drewN ?_ _ | with_reducible refine Ext.drew ?_ | with_reducible refine Ext.trans ?_ (by with_reducible assumption)))).cell c0, (show Ext wr _ by (repeat (first | with_reducible exact Ext.refl _ | with_reducible assumption | ((with_reducible refine Ext.setCell ?_ ?_ _); rotate_left; focus (first | omega | (simp <;> omega))) | with_reducible refine Ext.alloc ?_ _ | with_reducible refine Ext.drewN ?_ _ | with_reducible refine Ext.drew ?_ | with_reducible refine Ext.trans ?_ (by with_reducible assumption)))).cell c1⟩) (first | (go_at_call 33; (with_reducible refine (HC.out _ (by (repeat (first | with_reducible exact Ext.refl _ | with_reducible assumption | ((with_reducible refine Ext.setCell ?_ ?_ _); rotate_left; focus (first | omega | (simp <;> omega))) | with_reducible refine Ext.alloc ?_ _ | with_reducible refine Ext.drewN ?_ _ | with_reducible refine Ext.drew ?_ | with_reducible refine Ext.trans ?_ (by with_reducible assumption))))).mono ?_); rintro e w1 ⟨rfl, he1⟩; have ew1 : Ext wr w1 := (by (repeat (first | with_reducible exact Ext.refl _ | with_reducible assumption | ((with_reducible refine Ext.setCell ?_ ?_ _); rotate_left; focus (first | omega | (simp <;> omega))) | with_reducible refine Ext.alloc ?_ _ | with_reducible refine Ext.drewN ?_ _ | with_reducible refine Ext.drew ?_ | with_reducible refine Ext.trans ?_ (by with_reducible assumption))))))
      have hEH := hide (he.trans ew1)
      clear he
      simp only [mvInt]
      go_wp2_with fail
      go_ret2
      exact ⟨rfl, hEH.out⟩
    | some t =>
      rw [hm] at HC
      have ht := moveP_small hl10 hs hm
      have hP2 : Hid (∃ ps, posTo xss rev ms (i + 1) = some (ps, t) ∧ ((max q (cntB t) : Nat)) = mostB (ps ++ [t])) := hide (by
        obtain ⟨ps, h1, h2⟩ := hP.out
        exact ⟨ps ++ [s], by rw [posTo_next h1 hx, hm]; rfl, by rw [mostB_snoc, ← h2]⟩)
      have hct := cntTo_le t 10
      rw [← cntB_eq] at hct
      have HCt := hide (fun W => l14Count_c t W ht)
      obtain ⟨ct, hctn⟩ : ∃ ct, cntB t = ct := ⟨_, rfl⟩
      rw [hctn] at HCt hct hP2
      have hmx : ((max q ct : Nat) : Int) = max (q : Int) (ct : Int) := by omega
      clear hm hP hx hctn
      go_wp2_with fail
      go_region_held3 (fun w' => w'.cell? ⟨w.heap.size, 0, none⟩ = some (.slice A n d) ∧ w'.cell? ⟨g, i * 2, none⟩ = some (.int .i64 kd) ∧ w'.cell? ⟨g, i * 2 + 1, none⟩ = some (.int .i64 nd)) (exact ⟨(show Ext wr _ by (repeat (first | with_reducible exact Ext.refl _ | with_reducible assumption | ((with_reducible refine Ext.setCell ?_ ?_ _); rotate_left; focus (first | omega | (simp <;> omega))) | with_reducible refine Ext.alloc ?_ _ | with_reducible refine Ext.drewN ?_ _ | with_reducible refine Ext.drew ?_ | with_reducible refine Ext.trans ?_ (by with_reducible assumption)))).cell d0, (show Ext wr _ by (repeat (first | with_reducible exact Ext.refl _ | with_reducible assumption | ((with_reducible refine Ext.setCell ?_ ?_ _); rotate_left; focus (first | omega | (simp <;> omega))) | with_reducible refine Ext.alloc ?_ _ | with_reducible refine Ext.drewN ?_ _ | with_reducible refine Ext.drew ?_ | with_reducible refine Ext.trans ?_ (by with_reducible assumption)))).cell c0, (show Ext wr _ by (repeat (first | with_reducible exact Ext.refl _ | with_reducible assumption | ((with_reducible refine Ext.setCell ?_ ?_ _); rotate_left; focus (first | omega | (simp <;> omega))) | with_reducible refine Ext.alloc ?_ _ | with_reducible refine Ext.drewN ?_ _ | with_reducible refine Ext.drew ?_ | with_reducible refine Ext.trans ?_ (by with_reducible assumption)))).cell c1⟩) (first | (go_at_call 33; (with_reducible refine (HC.out _ (by (repeat (first | with_reducible exact Ext.refl _ | with_reducible assumption | ((with_reducible refine Ext.setCell ?_ ?_ _); rotate_left; focus (first | omega | (simp <;> omega))) | with_reducible refine Ext.alloc ?_ _ | with_reducible refine Ext.drewN ?_ _ | with_reducible refine Ext.drew ?_ | with_reducible refine Ext.trans ?_ (by with_reducible assumption))))).mono ?_); rintro e w1 ⟨rfl, he1⟩; have ew1 : Ext wr w1 := (by (repeat (first | with_reducible exact Ext.refl _ | with_reducible assumption | ((with_reducible refine Ext.setCell ?_ ?_ _); rotate_left; focus (first | omega | (simp <;> omega))) | with_reducible refine Ext.alloc ?_ _ | with_reducible refine Ext.drewN ?_ _ | with_reducible refine Ext.drew ?_ | with_reducible refine Ext.trans ?_ (by with_reducible assumption))))))
      simp only [mvInt]
      have hE1 := he.trans ew1
      have hB1 := hb.ext ew1
      have HMX := hide hmx
      clear he hb ew1 d0 c0 c1 hed HC hmx
      go_wp2_with fail
      (with_reducible refine (HCt.out _).mono ?_)
      rintro e w2 ⟨rfl, he2⟩
      have HE := hide (hE1.trans he2)
      have HB := hide (hB1.ext he2)
      clear hE1 hB1 he2 HCt
      go_wp2_with fail
      refine (l1Most_c _ _ _).mono ?_
      rintro e w3 ⟨rfl, rfl⟩
      rw [← HMX.out]
      go_wp2_with fail
      exact ⟨⟨(by (repeat (first | exact trivial | refine ⟨rfl, ?_⟩))), HE.out, HB.out, i + 1, t, max q ct, by omega, by go_num, rfl, rfl, ht, by omega, hP2⟩, (by simp [intOf] <;> omega)⟩
  · obtain rfl : i = m := by omega
    have hRR := HR.out
    obtain ⟨ps, h1, h2⟩ := hP.out
    rw [h1] at hRR
    have hR1 : R1 = (s : Int) := congrArg Prod.fst hRR
    have hR2 : R2 = (q : Int) := by rw [h2]; exact congrArg Prod.snd hRR
    subst hR1; subst hR2
    clear hRR HR h1 h2 hP
    go_wp2_with fail
    go_ret2
    exact ⟨rfl, he⟩
end Go.Proofs.Ytialpmmdomhobaa
