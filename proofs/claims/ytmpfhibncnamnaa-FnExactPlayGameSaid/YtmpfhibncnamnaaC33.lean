/-
  Whether a cnf has a model, as the program reckons it: a function value that writes a captured variable.
-/
import Derived.Test.YtmpfhibncnamnaaC31
namespace Go.Proofs.Ytmpfhibncnamnaa
set_option linter.unusedSimpArgs false
set_option linter.unusedVariables false
open Go.RowKit

set_option maxRecDepth 100000 in
set_option maxHeartbeats 1600000 in
theorem models_c (fid : FuncId) (cap : Array Value) (b : Nat) (i0 : Bool) (d : Nat → Bool) (A : Option Addr) (n q v : Nat) (cls : List (List Int)) (w0 w : World) (h : Intss w0 A n cls) (hv : v ≤ 12) (hc : ∀ c ∈ cls, ∀ x ∈ c, -12 ≤ x ∧ x ≤ 12 ∧ x ≠ 0)
    (he0 : Ext w0 w) (hb : BoxAt w b 4 #[.bool i0]) (hlo : w0.heap.size ≤ b) (hent : Enters Try.prog fid)
    (hdo : ∀ (k : Nat) (W : World), k < 2 ^ v → allTrue cls k = true → Ext w0 W → BoxAt W b 4 #[.bool i0] →
      Calls Try.prog fid (#[.int .i64 k] ++ cap) W fun e w' => e = .returned (.bool (d k)) ∧ BoxAt w' b 4 #[.bool (if d k then i0 else !i0)] ∧ Touch b (b + 1) W w') :
    Calls Try.prog 94 #[.agg #[.int .i64 v, .slice A n q], .func (.func fid) #[] cap] w fun e w' =>
      e = .returned (.tuple #[]) ∧ BoxAt w' b 4 #[.bool (if (List.range (2 ^ v)).any (fun k => allTrue cls k && !d k) then !i0 else i0)] ∧ Ext w0 w' := by
  have HC := hide hc
  have HD := hide hdo
  clear hc hdo
  have hp := pow_small hv
  have hp2 : ((2 ^ v : Nat) : Int) = (2 : Int) ^ v := by simp
  obtain ⟨N, hN⟩ : ∃ N : Nat, N = 2 ^ v := ⟨_, rfl⟩
  rw [← hN] at hp2
  have HN := hide hp2
  have HNN := hide hN
  rw [← hN]
  clear hN
  have hN4 : N ≤ 4096 := by omega
  clear hp2
  have hen : ∀ (args : Array Value) (W : World), (callFunc fid args).run Try.prog W = .ok (.enter fid args) W := hent
  have hbl := hb.lt
  obtain ⟨r, hr⟩ : ∃ r : Bool, r = (if (List.range N).any (fun k => allTrue cls k && !d k) then !i0 else i0) := ⟨_, rfl⟩
  rw [← hr]
  have HR := hide hr
  clear hr
  go_enter Try.func94, Try.ntmps94
  go_wp2
  refine wp_loopK _ rfl (fun KK acT wr => ∃ s0 s1 s2 s3 s4 s5 s6 s7 s8 s9 s10 s11 s12 s13 s14 s15 s16 s17 s18 s19 s20 s21 : Value, (KeptM [false, true, true, false, false, false, false, true, false, false, false, false, false, false, false, false, false, false, false, false, false, false] [s0, s1, s2, s3, s4, s5, s6, s7, s8, s9, s10, s11, s12, s13, s14, s15, s16, s17, s18, s19, s20, s21] KK ∧ (Ext w0 wr ∧ BoxAt wr b 4 #[.bool i0] ∧ BoxAt wr w.heap.size 28 #[.int .i64 v, .slice A n q] ∧ ∃ k : Nat, k ≤ N ∧ s8 = .int .i64 k ∧ Hid ((List.range k).any (fun k => allTrue cls k && !d k) = false))) ∧ acT = ⟨#[s0, s1, s2, s3, s4, s5, s6, s7, s8, s9, s10, s11, s12, s13, s14, s15, s16, s17, s18, s19, s20, s21], []⟩) (fun acT wr => (fun (s8 : Value) (wr : World) => N - (intOf s8).toNat) (acT.tmps.getD 8 undef) wr) ?_ ?_
  · (refine ⟨_, _, _, _, _, _, _, _, _, _, _, _, _, _, _, _, _, _, _, _, _, _, ⟨(by (repeat (first | exact trivial | refine ⟨rfl, ?_⟩))), ?_⟩, rfl⟩; exact ⟨he0.alloc _, hb.ext (by (repeat (first | with_reducible exact Ext.refl _ | with_reducible assumption | ((with_reducible refine Ext.setCell ?_ ?_ _); rotate_left; focus (first | omega | (simp <;> omega))) | with_reducible refine Ext.alloc ?_ _ | with_reducible refine Ext.drewN ?_ _ | with_reducible refine Ext.drew ?_ | with_reducible refine Ext.trans ?_ (by with_reducible assumption)))), BoxAt.made w _ _, 0, by omega, rfl, by simp [Hid]⟩)
  intro _ wr hinv; obtain ⟨s0, s1, s2, s3, s4, s5, s6, s7, s8, s9, s10, s11, s12, s13, s14, s15, s16, s17, s18, s19, s20, s21, ⟨hkept, hrel⟩, rfl⟩ := hinv; simp only [KeptM] at hkept; obtain ⟨rfl, rfl, rfl, -⟩ := hkept; (try dsimp only)
  clear he0 hb
  obtain ⟨he, hb, hf, k, hk, rfl, hq⟩ := hrel
  have c0 := hf.cell 0 _ rfl
  have c1 := hf.cell 1 _ rfl
  by_cases hlt : (k : Int) < (2 : Int) ^ v
  · have hkN : k < N := by have := HN.out; omega
    cases ht : allTrue cls k
    · have hq2 := any_range_succ (p := fun k => allTrue cls k && !d k) hq (by simp [ht])
      have HT := hide ht
      clear ht
      go_wp2_with (go_at_call 124; refine (isModel_c _ _ _ _ cls _ (h.ext (by (repeat (first | with_reducible exact Ext.refl _ | with_reducible assumption | ((with_reducible refine Ext.setCell ?_ ?_ _); rotate_left; focus (first | omega | (simp <;> omega))) | with_reducible refine Ext.alloc ?_ _ | with_reducible refine Ext.drewN ?_ _ | with_reducible refine Ext.drew ?_ | with_reducible refine Ext.trans ?_ (by with_reducible assumption))))) (by omega) HC.out).mono ?_; rw [HT.out]; rintro e w1 ⟨rfl, he1⟩)
      exact ⟨⟨(by (repeat (first | exact trivial | refine ⟨rfl, ?_⟩))), he.trans he1, hb.ext he1, hf.ext he1, k + 1, by omega, by go_num, hq2⟩, (by simp [intOf] <;> omega)⟩
    · have HT := hide ht
      have hdk := fun W he hb => HD.out k W (by rw [← HNN.out]; exact hkN) ht he hb
      cases hd : d k
      · have hany : Hid ((List.range N).any (fun k => allTrue cls k && !d k) = true) := hide (any_range_true hkN (by simp [ht, hd]))
        rw [hd] at hdk
        simp only [Bool.false_eq_true, if_false] at hdk
        have HDK := hide hdk
        clear ht hdk hd
        go_wp2_with (first | (go_at_call 124; refine (isModel_c _ _ _ _ cls _ (h.ext (by (repeat (first | with_reducible exact Ext.refl _ | with_reducible assumption | ((with_reducible refine Ext.setCell ?_ ?_ _); rotate_left; focus (first | omega | (simp <;> omega))) | with_reducible refine Ext.alloc ?_ _ | with_reducible refine Ext.drewN ?_ _ | with_reducible refine Ext.drew ?_ | with_reducible refine Ext.trans ?_ (by with_reducible assumption))))) (by omega) HC.out).mono ?_; rw [HT.out]; rintro e w1 ⟨rfl, he1⟩) | (refine (HDK.out _ (he.trans he1) (hb.ext he1)).mono ?_; rintro e w2 ⟨rfl, hb2, t2⟩))
        have hr0 : r = !i0 := by rw [HR.out, hany.out]; simp
        subst hr0
        exact bodyPost_ret (v := .tuple #[]) (by simp [results, Try.results94, go_sem]) rfl ⟨rfl, hb2, Ext.touched (he.trans he1) t2 hlo⟩
      · have hq2 := any_range_succ (p := fun k => allTrue cls k && !d k) hq (by simp [hd])
        rw [hd] at hdk
        simp only [if_true] at hdk
        have HDK := hide hdk
        clear ht hdk hd
        go_wp2_with (first | (go_at_call 124; refine (isModel_c _ _ _ _ cls _ (h.ext (by (repeat (first | with_reducible exact Ext.refl _ | with_reducible assumption | ((with_reducible refine Ext.setCell ?_ ?_ _); rotate_left; focus (first | omega | (simp <;> omega))) | with_reducible refine Ext.alloc ?_ _ | with_reducible refine Ext.drewN ?_ _ | with_reducible refine Ext.drew ?_ | with_reducible refine Ext.trans ?_ (by with_reducible assumption))))) (by omega) HC.out).mono ?_; rw [HT.out]; rintro e w1 ⟨rfl, he1⟩) | (refine (HDK.out _ (he.trans he1) (hb.ext he1)).mono ?_; rintro e w2 ⟨rfl, hb2, t2⟩; have hf2 := hf.ext he1))
        exact ⟨⟨(by (repeat (first | exact trivial | refine ⟨rfl, ?_⟩))), Ext.touched (he.trans he1) t2 hlo, hb2, (t2.block w.heap.size hf2.lt (.inr (by omega))).trans hf2, k + 1, by omega, by go_num, hq2⟩, (by simp [intOf] <;> omega)⟩
  · have hkN : k = N := by have := HN.out; omega
    subst hkN
    have hr0 : r = i0 := by rw [HR.out, hq.out]; simp
    subst hr0
    go_wp2
    go_end0
    exact ⟨rfl, hb, he⟩
theorem satisfiable_lit_c (k : Int) (b : Nat) (w : World) (hb : BoxAt w b 4 #[.bool false]) :
    Calls Try.prog 126 #[.int .i64 k, .pointer (some ⟨b, 0, none⟩)] w fun e w' => e = .returned (.bool false) ∧ BoxAt w' b 4 #[.bool true] ∧ Touch b (b + 1) w w' := by
  have c0 := hb.cell 0 _ rfl
  have f0 := hb.frozen 0
  have hb2 := hb.set 0 (.bool true)
  go_enter Try.func126, Try.ntmps126
  go_wp2
  go_ret
  exact ⟨rfl, by simpa using hb2, ⟨rfl, rfl, rfl, by simp [World.setCell], fun k _ hk => Below.heap_setCell _ _ _ _ (by simp; omega)⟩⟩
theorem satisfiable_lit_enters : Enters Try.prog 126 := enters_of Try.func126 (by kernel_rfl) (by kernel_rfl)
theorem satisfiable_c (A : Option Addr) (n q v : Nat) (cls : List (List Int)) (w : World) (h : Intss w A n cls) (hv : v ≤ 12) (hc : ∀ c ∈ cls, ∀ x ∈ c, -12 ≤ x ∧ x ≤ 12 ∧ x ≠ 0) :
    Calls Try.prog 101 #[.int .i64 v, .slice A n q] w fun e w' => e = .returned (.bool (satB v cls)) ∧ Ext w w' := by
  have hm := fun W b (he : Ext w W) (hb : BoxAt W b 4 #[.bool false]) (hlo : w.heap.size ≤ b) => models_c 126 #[.pointer (some ⟨b, 0, none⟩)] b false (fun _ => false) A n q v cls w W h hv hc he hb hlo satisfiable_lit_enters
    (fun k W' _ _ _ hb' => by simpa using satisfiable_lit_c k b W' hb')
  have hs : (if (List.range (2 ^ v)).any (fun k => allTrue cls k && !(fun _ => false) k) then !false else false) = satB v cls := by
    simp only [satB, Bool.not_false, Bool.and_true]; cases (List.range (2 ^ v)).any (fun k => allTrue cls k) <;> rfl
  simp only [hs] at hm
  generalize satB v cls = g at hm ⊢
  have HM := hide hm
  clear hm hs hc
  go_enter Try.func101, Try.ntmps101
  go_wp2_with (go_at_call 94; refine (HM.out _ _ (by (repeat (first | with_reducible exact Ext.refl _ | with_reducible assumption | ((with_reducible refine Ext.setCell ?_ ?_ _); rotate_left; focus (first | omega | (simp <;> omega))) | with_reducible refine Ext.alloc ?_ _ | with_reducible refine Ext.drewN ?_ _ | with_reducible refine Ext.drew ?_ | with_reducible refine Ext.trans ?_ (by with_reducible assumption)))) (BoxAt.made _ _ _) (Nat.le_refl _)).mono ?_; rintro e w1 ⟨rfl, hb1, he1⟩; have c1 := hb1.cell 0 _ rfl)
  go_ret
  exact ⟨rfl, he1⟩
end Go.Proofs.Ytmpfhibncnamnaa
