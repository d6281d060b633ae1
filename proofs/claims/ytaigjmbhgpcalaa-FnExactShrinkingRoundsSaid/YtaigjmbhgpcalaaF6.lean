/-
  The reference's l13Keeps; lists whose rows have a capacity of at least their length; no condition.
-/
import Derived.Test.YtaigjmbhgpcalaaF5

namespace Go.Proofs.Ytaigjmbhgpcalaa
set_option linter.unusedSimpArgs false
set_option linter.unusedVariables false
open Go.RowKit
/-- A slice of slices of ints that reads as these lists, each row's capacity at least its length. -/
structure IntssC (w : World) (A : Option Addr) (n : Nat) (xss : List (List Int)) : Prop where
  rd : Intss w A n xss
  caps : ∀ (ad : Addr) (i : Nat) (B : Option Addr) (m c : Nat), A = some ad → i < n → w.cell? (ad.add i) = some (.slice B m c) → m ≤ c
theorem IntssC.ext {w w' : World} {A : Option Addr} {n : Nat} {xss : List (List Int)} (h : IntssC w A n xss) (he : Ext w w') : IntssC w' A n xss :=
  ⟨h.rd.ext he, fun ad i B m c hA hi hcl => by
    obtain ⟨ad', xs, X, y, z, e, hx, hcx, hin⟩ := h.rd.at_ hi
    rw [hA] at e
    injection e with e
    subst e
    have h1 := he.cell hcx
    rw [hcl] at h1
    injection h1 with h1
    injection h1 with e1 e2 e3
    have := h.caps ad i X y z hA hi hcx
    omega⟩
theorem IntssC.at_ {w : World} {A : Option Addr} {n : Nat} {xss : List (List Int)} (h : IntssC w A n xss) {k : Nat} (hk : k < n) :
    ∃ ad xs B m c, A = some ad ∧ Hid (xss[k]? = some xs) ∧ w.cell? (ad.add k) = some (.slice B m c) ∧ Ints w B m xs ∧ m ≤ c := by
  obtain ⟨ad, xs, X, y, z, e, hx, hcx, hin⟩ := h.rd.at_ hk
  exact ⟨ad, xs, X, y, z, e, hx, hcx, hin, h.caps ad k X y z e hk hcx⟩
theorem ObR.intssC {eo ei : TypeId} {w : World} {lo hi : Nat} {A : Option Addr} {n c : Nat} {xss : List (List Int)} (h : ObR eo ei w lo hi A n c xss) : IntssC w A n xss := by
  refine ⟨h.intss, fun ad i B m d hA hi hcl => ?_⟩
  obtain ⟨us, ho⟩ := h.own
  have hul : us.length = n := ho.ulen
  have hu : us[i]? = some (us[i]'(by omega)) := List.getElem?_eq_getElem (by omega)
  have hx : xss[i]? = some (xss[i]'(by have := ho.len; omega)) := List.getElem?_eq_getElem _
  obtain ⟨B', d', e, ho', _, _⟩ := ho.inner i _ _ hu hx
  obtain ⟨ad', hA', hc⟩ := ho.outer.reads (fun e => by rw [e] at hul; simp at hul; omega)
  rw [hA] at hA'
  injection hA' with hA'
  subst hA'
  have h1 := hc i _ hu
  rw [hcl, e] at h1
  injection h1 with h1
  injection h1 with e1 e2 e3
  have := ho'.capV
  omega
theorem putL_len : ∀ (c : List Int) (l : Int), (putL c l).length = c.length + 1
  | [], l => rfl
  | x :: c, l => by simp only [putL]; split <;> simp [putL_len c l]
def kP1 (l : List (List Int)) (a : List Int) (x : Int) : Bool := memC l (woutV a (x.natAbs : Int))
def kP2 (l : List (List Int)) (a : List Int) (u : Int) : Bool := !openL a u || (memC l (putL a u) || memC l (putL a (-u)))
theorem keepB_eq (v : Nat) (W : Int) (l : List (List Int)) (a : List Int) : keepB v W l a = (a.all (kP1 l a) && (decide (W < (a.length : Int)) || (upFrom 1 v).all (kP2 l a))) := rfl
theorem upAll_succ {p : Int → Bool} {k : Nat} (h : Hid ((upFrom 1 k).all p = true)) (hp : p (1 + (k : Int)) = true) : Hid ((upFrom 1 (k + 1)).all p = true) := by
  unfold Hid; rw [upFrom_succ, List.all_append, h.out]; simp [hp]
theorem upAll_false {p : Int → Bool} {k v : Nat} (hk : k < v) (hp : p (1 + (k : Int)) = false) : (upFrom 1 v).all p = false := by
  rw [List.all_eq_false]
  exact ⟨1 + (k : Int), List.mem_of_getElem? (upFrom_get hk), by simp [hp]⟩
set_option maxRecDepth 100000 in
set_option maxHeartbeats 6400000 in
theorem l13Keeps_c (v : Nat) (W : Int) (C : Option Addr) (nc dc : Nat) (A : Option Addr) (n d : Nat) (l : List (List Int)) (B : Option Addr) (m q : Nat) (a : List Int) (w : World) (h : Intss w A n l) (k : Ints w B m a) (hmq : m ≤ q) (hn : n ≤ 1000) (hasc : Asc l) (hl : ∀ x ∈ l, Small x) (ha : Small a) (hv : v ≤ 12) (hm : m ≤ 12) :
    Calls Try.prog 53 #[.agg #[.int .i64 v, .slice C nc dc], .int .i64 W, .slice A n d, .slice B m q] w fun e w' => e = .returned (.bool (keepB v W l a)) ∧ Ext w w' := by
  have HKL := hide k.len
  have HA := hide ha
  have HAt := hide (fun (Wd : World) (E : Ext w Wd) (X : Option Addr) (y z : Nat) (c : List Int) (hi : Ints Wd X y c) (hs : Small c) => l2At_c A n d l X y z c Wd (h.ext E) hi hn hasc hl hs)
  have HWo := hide (fun (Wd : World) (E : Ext w Wd) (u : Int) => l2Without_o B m q a u Wd (k.ext E) ha (by omega))
  have HPu := hide (fun (Wd : World) (E : Ext w Wd) (u : Int) (hu : -12 ≤ u ∧ u ≤ 12) => l2Put_o B m q a u Wd (k.ext E) hmq (by omega) ha hu)
  have HHa := hide (fun (Wd : World) (E : Ext w Wd) (u : Int) => l2Has_c B m q u a Wd (k.ext E))
  clear hasc hl ha
  rw [keepB_eq]
  obtain ⟨r, hr⟩ : ∃ r, r = (a.all (kP1 l a) && (decide (W < (a.length : Int)) || (upFrom 1 v).all (kP2 l a))) := ⟨_, rfl⟩
  rw [← hr]
  rw [← HKL.out] at hr
  have HR := hide hr
  clear hr
  go_enter Try.func53, Try.ntmps53
  go_wp2_with fail
  refine wp_loopF 67 _ rfl rfl [1, 2, 3, 4, 10, 27, 28, 29, 30, 31, 32, 33, 34, 35, 36, 37, 38, 39, 40, 41, 42, 43, 44, 45, 46, 47, 48, 49, 50, 51, 52, 53, 54, 55, 56, 57, 58, 59, 60, 61, 62, 63, 64, 65, 66] rfl (fun fr wr => Ext (w.alloc (.cells #[.int .i64 v, .slice C nc dc] 28)) wr ∧ ∃ i : Nat, i ≤ m ∧ (fr 9) = .int .i64 i ∧ Hid ((a.take i).all (kP1 l a) = true)) (fun fr wr => m - (intOf (fr 9)).toNat) ?_ ?_
  · (exact ⟨Ext.refl _, 0, by omega, rfl, by simp [Hid]⟩)
  intro ks fr wr hkept hrel; (try dsimp only at hrel)
  change Code.wp _ _ _ ⟨#[fr 0, ks 1, ks 2, ks 3, ks 4, fr 5, fr 6, fr 7, fr 8, fr 9, ks 10, fr 11, fr 12, fr 13, fr 14, fr 15, fr 16, fr 17, fr 18, fr 19, fr 20, fr 21, fr 22, fr 23, fr 24, fr 25, fr 26, ks 27, ks 28, ks 29, ks 30, ks 31, ks 32, ks 33, ks 34, ks 35, ks 36, ks 37, ks 38, ks 39, ks 40, ks 41, ks 42, ks 43, ks 44, ks 45, ks 46, ks 47, ks 48, ks 49, ks 50, ks 51, ks 52, ks 53, ks 54, ks 55, ks 56, ks 57, ks 58, ks 59, ks 60, ks 61, ks 62, ks 63, ks 64, ks 65, ks 66], []⟩ wr
  simp only [KeptV, List.getD_cons_zero, List.getD_cons_succ] at hkept; obtain ⟨hk1, hk2, hk3, hk4, hk10, hk27, hk28, hk29, hk30, hk31, hk32, hk33, hk34, hk35, hk36, hk37, hk38, hk39, hk40, hk41, hk42, hk43, hk44, hk45, hk46, hk47, hk48, hk49, hk50, hk51, hk52, hk53, hk54, hk55, hk56, hk57, hk58, hk59, hk60, hk61, hk62, hk63, hk64, hk65, hk66, -⟩ := hkept
  generalize ks 1 = k1 at hk1 ⊢; subst hk1
  generalize ks 2 = k2 at hk2 ⊢; subst hk2
  generalize ks 3 = k3 at hk3 ⊢; subst hk3
  generalize ks 4 = k4 at hk4 ⊢; subst hk4
  generalize ks 10 = k10 at hk10 ⊢; subst hk10
  generalize ks 27 = k27 at hk27 ⊢; subst hk27
  generalize ks 28 = k28 at hk28 ⊢; subst hk28
  generalize ks 29 = k29 at hk29 ⊢; subst hk29
  generalize ks 30 = k30 at hk30 ⊢; subst hk30
  generalize ks 31 = k31 at hk31 ⊢; subst hk31
  generalize ks 32 = k32 at hk32 ⊢; subst hk32
  generalize ks 33 = k33 at hk33 ⊢; subst hk33
  generalize ks 34 = k34 at hk34 ⊢; subst hk34
  generalize ks 35 = k35 at hk35 ⊢; subst hk35
  generalize ks 36 = k36 at hk36 ⊢; subst hk36
  generalize ks 37 = k37 at hk37 ⊢; subst hk37
  generalize ks 38 = k38 at hk38 ⊢; subst hk38
  generalize ks 39 = k39 at hk39 ⊢; subst hk39
  generalize ks 40 = k40 at hk40 ⊢; subst hk40
  generalize ks 41 = k41 at hk41 ⊢; subst hk41
  generalize ks 42 = k42 at hk42 ⊢; subst hk42
  generalize ks 43 = k43 at hk43 ⊢; subst hk43
  generalize ks 44 = k44 at hk44 ⊢; subst hk44
  generalize ks 45 = k45 at hk45 ⊢; subst hk45
  generalize ks 46 = k46 at hk46 ⊢; subst hk46
  generalize ks 47 = k47 at hk47 ⊢; subst hk47
  generalize ks 48 = k48 at hk48 ⊢; subst hk48
  generalize ks 49 = k49 at hk49 ⊢; subst hk49
  generalize ks 50 = k50 at hk50 ⊢; subst hk50
  generalize ks 51 = k51 at hk51 ⊢; subst hk51
  generalize ks 52 = k52 at hk52 ⊢; subst hk52
  generalize ks 53 = k53 at hk53 ⊢; subst hk53
  generalize ks 54 = k54 at hk54 ⊢; subst hk54
  generalize ks 55 = k55 at hk55 ⊢; subst hk55
  generalize ks 56 = k56 at hk56 ⊢; subst hk56
  generalize ks 57 = k57 at hk57 ⊢; subst hk57
  generalize ks 58 = k58 at hk58 ⊢; subst hk58
  generalize ks 59 = k59 at hk59 ⊢; subst hk59
  generalize ks 60 = k60 at hk60 ⊢; subst hk60
  generalize ks 61 = k61 at hk61 ⊢; subst hk61
  generalize ks 62 = k62 at hk62 ⊢; subst hk62
  generalize ks 63 = k63 at hk63 ⊢; subst hk63
  generalize ks 64 = k64 at hk64 ⊢; subst hk64
  generalize ks 65 = k65 at hk65 ⊢; subst hk65
  generalize ks 66 = k66 at hk66 ⊢; subst hk66
  generalize fr 9 = s9 at hrel ⊢
  obtain ⟨he, i, hi, hs1, hq⟩ := hrel
  subst hs1
  have ewr : Ext w wr := Ext.trans ((Ext.refl _).alloc _) he
  have b0 := he.box 0 _ rfl
  by_cases hlt : i < m
  · obtain ⟨ad, x, rfl, hx, gx⟩ := (k.ext ewr).at_ hlt
    have hxb := HA.out x (List.mem_of_getElem? hx.out)
    have HV := hide (fun W => l2Var_c x W)
    rw [absW_small hxb] at HV
    have HWx := hide (fun (Wd : World) (E : Ext w Wd) => HWo.out Wd E (x.natAbs : Int))
    have hsm : Small (woutV a (x.natAbs : Int)) := Small.wout HA.out
    cases hp : kP1 l a x
    · have hF : Hid (r = false) := hide (by rw [HR.out, all_false_of hx hp]; rfl)
      have hmem : memC l (woutV a (x.natAbs : Int)) = false := hp
      obtain ⟨ax, hax⟩ : ∃ ax : Int, ax = (x.natAbs : Int) := ⟨_, rfl⟩
      rw [← hax] at HV HWx hsm hmem
      have HM := hide hmem
      have HSm := hide hsm
      clear hp hx hq hax hmem hsm
      go_wp2_with fail
      refine (HV.out _).mono ?_
      rintro e w1 ⟨rfl, rfl⟩
      go_wp2_with fail
      refine (HWx.out _ ewr).mono ?_
      rintro e w1 ⟨X, y, z, rfl, ho, hy, he1⟩
      have e01 : Hid (Ext w w1) := hide (ewr.trans he1)
      go_wp2_with fail
      refine (HAt.out _ e01.out _ _ _ _ (ho.ints (by omega)) HSm.out).mono ?_
      rintro e w2 ⟨rr, rfl, hrr, he2⟩
      have hneg : rr < 0 := by rw [HM.out] at hrr; simpa using hrr
      clear hrr
      go_wp2_with fail
      go_ret
      exact ⟨ret_bool hF.out.symm, e01.out.trans he2⟩
    · have hq2 := all_take_succ hx hq hp
      have hmem : memC l (woutV a (x.natAbs : Int)) = true := hp
      obtain ⟨ax, hax⟩ : ∃ ax : Int, ax = (x.natAbs : Int) := ⟨_, rfl⟩
      rw [← hax] at HV HWx hsm hmem
      have HM := hide hmem
      have HSm := hide hsm
      clear hp hx hq hax hmem hsm
      go_wp2_with fail
      refine (HV.out _).mono ?_
      rintro e w1 ⟨rfl, rfl⟩
      go_wp2_with fail
      refine (HWx.out _ ewr).mono ?_
      rintro e w1 ⟨X, y, z, rfl, ho, hy, he1⟩
      have e01 : Hid (Ext w w1) := hide (ewr.trans he1)
      go_wp2_with fail
      refine (HAt.out _ e01.out _ _ _ _ (ho.ints (by omega)) HSm.out).mono ?_
      rintro e w2 ⟨rr, rfl, hrr, he2⟩
      have hneg : ¬ rr < 0 := by rw [HM.out] at hrr; simpa using hrr
      clear hrr
      go_wp2_with fail
      exact ⟨⟨(by (repeat (first | exact trivial | refine ⟨rfl, ?_⟩))), (he.trans he1).trans he2, i + 1, by omega, by go_num, hq2⟩, (by simp [intOf] <;> omega)⟩
  have hall : Hid (a.all (kP1 l a) = true) := all_take_all hq (by rw [← HKL.out]; omega)
  have HR2 : Hid (r = (decide (W < (m : Int)) || (upFrom 1 v).all (kP2 l a))) := hide (by rw [HR.out, hall.out, Bool.true_and])
  clear HR hall hq HWo
  by_cases hlen : (m : Int) ≤ W
  rotate_left
  · have hT : Hid (r = true) := hide (by rw [HR2.out, decide_eq_true (by omega : W < (m : Int))]; rfl)
    have hlf : decide ((m : Int) ≤ W) = false := decide_eq_false hlen
    clear HR2
    obtain ⟨W2, rfl⟩ : ∃ W, W = wr := ⟨_, rfl⟩
    go_wp2_with fail
    refine wp_loopF 67 _ rfl rfl [1, 2, 3, 4, 11, 19] rfl (fun fr wr => Ext W2 wr ∧ ∃ u : Nat, (fr 10) = .int .i64 u ∧ u = 1) (fun fr wr => 0) ?_ ?_
    · (exact ⟨Ext.refl _, 1, rfl, rfl⟩)
    intro ks fr wr hkept hrel; (try dsimp only at hrel)
    change Code.wp _ _ _ ⟨#[fr 0, ks 1, ks 2, ks 3, ks 4, fr 5, fr 6, fr 7, fr 8, fr 9, fr 10, ks 11, fr 12, fr 13, fr 14, fr 15, fr 16, fr 17, fr 18, ks 19, fr 20, fr 21, fr 22, fr 23, fr 24, fr 25, fr 26, fr 27, fr 28, fr 29, fr 30, fr 31, fr 32, fr 33, fr 34, fr 35, fr 36, fr 37, fr 38, fr 39, fr 40, fr 41, fr 42, fr 43, fr 44, fr 45, fr 46, fr 47, fr 48, fr 49, fr 50, fr 51, fr 52, fr 53, fr 54, fr 55, fr 56, fr 57, fr 58, fr 59, fr 60, fr 61, fr 62, fr 63, fr 64, fr 65, fr 66], []⟩ wr
    simp only [KeptV, List.getD_cons_zero, List.getD_cons_succ] at hkept; obtain ⟨hk1, hk2, hk3, hk4, hk11, hk19, -⟩ := hkept
    generalize ks 1 = k1 at hk1 ⊢; subst hk1
    generalize ks 2 = k2 at hk2 ⊢; subst hk2
    generalize ks 3 = k3 at hk3 ⊢; subst hk3
    generalize ks 4 = k4 at hk4 ⊢; subst hk4
    generalize ks 11 = k11 at hk11 ⊢; subst hk11
    generalize ks 19 = k19 at hk19 ⊢; subst hk19
    generalize fr 10 = s10 at hrel ⊢
    obtain ⟨he2, u, hs1, hu⟩ := hrel
    subst hs1
    subst hu
    have b2 := he2.cell b0
    have HT := hT
    by_cases hv1 : (1 : Int) ≤ (v : Int)
    · go_wp2_with fail
      go_ret
      exact ⟨ret_bool HT.out.symm, ewr.trans he2⟩
    · go_wp2_with fail
      go_ret
      exact ⟨ret_bool HT.out.symm, ewr.trans he2⟩
  have HR3 : Hid (r = (upFrom 1 v).all (kP2 l a)) := hide (by rw [HR2.out, decide_eq_false (by omega : ¬ W < (m : Int))]; rfl)
  clear HR2
  obtain ⟨W2, rfl⟩ : ∃ W, W = wr := ⟨_, rfl⟩
  go_wp2_with fail
  refine wp_loopF 67 _ rfl rfl [1, 2, 3, 4, 11, 19] rfl (fun fr wr => Ext W2 wr ∧ ∃ u : Nat, u ≤ v ∧ (fr 10) = .int .i64 ((u + 1 : Nat) : Int) ∧ Hid ((upFrom 1 u).all (kP2 l a) = true)) (fun fr wr => v + 1 - (intOf (fr 10)).toNat) ?_ ?_
  · (exact ⟨Ext.refl _, 0, by omega, rfl, by simp [Hid, upFrom]⟩)
  intro ks fr wr hkept hrel; (try dsimp only at hrel)
  change Code.wp _ _ _ ⟨#[fr 0, ks 1, ks 2, ks 3, ks 4, fr 5, fr 6, fr 7, fr 8, fr 9, fr 10, ks 11, fr 12, fr 13, fr 14, fr 15, fr 16, fr 17, fr 18, ks 19, fr 20, fr 21, fr 22, fr 23, fr 24, fr 25, fr 26, fr 27, fr 28, fr 29, fr 30, fr 31, fr 32, fr 33, fr 34, fr 35, fr 36, fr 37, fr 38, fr 39, fr 40, fr 41, fr 42, fr 43, fr 44, fr 45, fr 46, fr 47, fr 48, fr 49, fr 50, fr 51, fr 52, fr 53, fr 54, fr 55, fr 56, fr 57, fr 58, fr 59, fr 60, fr 61, fr 62, fr 63, fr 64, fr 65, fr 66], []⟩ wr
  simp only [KeptV, List.getD_cons_zero, List.getD_cons_succ] at hkept; obtain ⟨hk1, hk2, hk3, hk4, hk11, hk19, -⟩ := hkept
  generalize ks 1 = k1 at hk1 ⊢; subst hk1
  generalize ks 2 = k2 at hk2 ⊢; subst hk2
  generalize ks 3 = k3 at hk3 ⊢; subst hk3
  generalize ks 4 = k4 at hk4 ⊢; subst hk4
  generalize ks 11 = k11 at hk11 ⊢; subst hk11
  generalize ks 19 = k19 at hk19 ⊢; subst hk19
  generalize fr 10 = s10 at hrel ⊢
  obtain ⟨he2, u, hu, hs1, hq⟩ := hrel
  subst hs1
  have b2 := he2.cell b0
  have ew2 : Ext w wr := ewr.trans he2
  have hwn : IntKind.i64.wrap (-((u : Int) + 1)) = -((u : Int) + 1) := IntWalk.i64_in _ (by omega)
  by_cases hlt2 : u < v
  · have hule : (u : Int) + 1 ≤ (v : Int) := by omega
    have hP := hide (show kP2 l a (1 + (u : Int)) = (!openL a ((u : Int) + 1) || (memC l (putL a ((u : Int) + 1)) || memC l (putL a (-((u : Int) + 1))))) by unfold kP2; rw [Int.add_comm])
    have hO := hide (openL_has a ((u : Int) + 1))
    have hnb : -12 ≤ -((u : Int) + 1) ∧ -((u : Int) + 1) ≤ 12 := by omega
    cases h1 : hasInt ((u : Int) + 1) a
    rotate_left
    · have hq2 := upAll_succ hq (by rw [hP.out, hO.out, h1]; rfl)
      have HH := hide (fun (Wd : World) (E : Ext w Wd) => HHa.out Wd E ((u : Int) + 1))
      rw [h1] at HH
      clear h1 hq hP hO
      go_wp2_with fail
      refine (HH.out _ ew2).mono ?_
      rintro e w3 ⟨rfl, he3⟩
      go_wp2_with fail
      exact ⟨⟨(by (repeat (first | exact trivial | refine ⟨rfl, ?_⟩))), he2.trans he3, u + 1, by omega, by go_num, hq2⟩, (by simp [intOf] <;> omega)⟩
    have HH := hide (fun (Wd : World) (E : Ext w Wd) => HHa.out Wd E ((u : Int) + 1))
    rw [h1] at HH
    have HH2 := hide (fun (Wd : World) (E : Ext w Wd) => HHa.out Wd E (-((u : Int) + 1)))
    cases h2 : hasInt (-((u : Int) + 1)) a
    rotate_left
    · have hq2 := upAll_succ hq (by rw [hP.out, hO.out, h1, h2]; rfl)
      rw [h2] at HH2
      clear h1 h2 hq hP hO
      go_wp2_with fail
      refine (HH.out _ ew2).mono ?_
      rintro e w3 ⟨rfl, he3⟩
      have ew3 : Hid (Ext w w3) := hide (ew2.trans he3)
      go_wp2_with fail
      refine (HH2.out _ ew3.out).mono ?_
      rintro e w4 ⟨rfl, he4⟩
      go_wp2_with fail
      exact ⟨⟨(by (repeat (first | exact trivial | refine ⟨rfl, ?_⟩))), (he2.trans he3).trans he4, u + 1, by omega, by go_num, hq2⟩, (by simp [intOf] <;> omega)⟩
    rw [h2] at HH2
    have hs1 : Small (putL a ((u : Int) + 1)) := Small.put HA.out (by omega)
    have HS1 := hide hs1
    have HP1 := hide (fun (Wd : World) (E : Ext w Wd) => HPu.out Wd E ((u : Int) + 1) (by omega))
    cases hm1 : memC l (putL a ((u : Int) + 1))
    rotate_left
    · have hq2 := upAll_succ hq (by rw [hP.out, hO.out, h1, h2, hm1]; rfl)
      have HM := hide hm1
      clear h1 h2 hq hP hO hs1 hm1
      go_wp2_with fail
      refine (HH.out _ ew2).mono ?_
      rintro e w3 ⟨rfl, he3⟩
      have ew3 : Hid (Ext w w3) := hide (ew2.trans he3)
      go_wp2_with fail
      refine (HH2.out _ ew3.out).mono ?_
      rintro e w4 ⟨rfl, he4⟩
      have ew4 : Hid (Ext w w4) := hide (ew3.out.trans he4)
      go_wp2_with fail
      refine (HP1.out _ ew4.out).mono ?_
      rintro e w5 ⟨X, y, z, rfl, ho, he5⟩
      have ew5 : Hid (Ext w w5) := hide (ew4.out.trans he5)
      have hyl : y ≤ 1000 := by have h8 := ho.len; simp [putL_len] at h8; have := HKL.out; omega
      go_wp2_with fail
      refine (HAt.out _ ew5.out _ _ _ _ (ho.ints (by omega)) HS1.out).mono ?_
      rintro e w6 ⟨rr, rfl, hrr, he6⟩
      have hneg : ¬ rr < 0 := by rw [HM.out] at hrr; simpa using hrr
      have hnegd : decide (rr < 0) = false := by simpa using hneg
      clear hrr
      go_wp2_with fail
      exact ⟨⟨(by (repeat (first | exact trivial | refine ⟨rfl, ?_⟩))), (((he2.trans he3).trans he4).trans he5).trans he6, u + 1, by omega, by go_num, hq2⟩, (by simp [intOf] <;> omega)⟩
    have hs2 : Small (putL a (-((u : Int) + 1))) := Small.put HA.out hnb
    have HS2 := hide hs2
    have HP2 := hide (fun (Wd : World) (E : Ext w Wd) => HPu.out Wd E (-((u : Int) + 1)) hnb)
    have HM1 := hide hm1
    cases hm2 : memC l (putL a (-((u : Int) + 1)))
    rotate_left
    · have hq2 := upAll_succ hq (by rw [hP.out, hO.out, h1, h2, hm1, hm2]; rfl)
      have HM2 := hide hm2
      clear h1 h2 hq hP hO hs1 hs2 hm1 hm2
      go_wp2_with fail
      refine (HH.out _ ew2).mono ?_
      rintro e w3 ⟨rfl, he3⟩
      have ew3 : Hid (Ext w w3) := hide (ew2.trans he3)
      go_wp2_with fail
      refine (HH2.out _ ew3.out).mono ?_
      rintro e w4 ⟨rfl, he4⟩
      have ew4 : Hid (Ext w w4) := hide (ew3.out.trans he4)
      go_wp2_with fail
      refine (HP1.out _ ew4.out).mono ?_
      rintro e w5 ⟨X, y, z, rfl, ho, he5⟩
      have ew5 : Hid (Ext w w5) := hide (ew4.out.trans he5)
      have hyl : y ≤ 1000 := by have h8 := ho.len; simp [putL_len] at h8; have := HKL.out; omega
      go_wp2_with fail
      refine (HAt.out _ ew5.out _ _ _ _ (ho.ints (by omega)) HS1.out).mono ?_
      rintro e w6 ⟨rr, rfl, hrr, he6⟩
      have hneg : rr < 0 := by rw [HM1.out] at hrr; simpa using hrr
      have hnegd : decide (rr < 0) = true := by simpa using hneg
      clear hrr
      have ew6 : Hid (Ext w w6) := hide (ew5.out.trans he6)
      go_wp2_with fail
      refine (HP2.out _ ew6.out).mono ?_
      rintro e w7 ⟨X2, y2, z2, rfl, ho2, he7⟩
      have ew7 : Hid (Ext w w7) := hide (ew6.out.trans he7)
      have hyl2 : y2 ≤ 1000 := by have h8 := ho2.len; simp [putL_len] at h8; have := HKL.out; omega
      go_wp2_with fail
      refine (HAt.out _ ew7.out _ _ _ _ (ho2.ints (by omega)) HS2.out).mono ?_
      rintro e w8 ⟨r2, rfl, hr2, he8⟩
      have hneg2 : ¬ r2 < 0 := by rw [HM2.out] at hr2; simpa using hr2
      have hneg2d : decide (r2 < 0) = false := by simpa using hneg2
      clear hr2
      go_wp2_with fail
      exact ⟨⟨(by (repeat (first | exact trivial | refine ⟨rfl, ?_⟩))), (((((he2.trans he3).trans he4).trans he5).trans he6).trans he7).trans he8, u + 1, by omega, by go_num, hq2⟩, (by simp [intOf] <;> omega)⟩
    · have hF : Hid (r = false) := hide (by rw [HR3.out]; exact upAll_false hlt2 (by rw [hP.out, hO.out, h1, h2, hm1, hm2]; rfl))
      have HM2 := hide hm2
      clear h1 h2 hq hP hO hs1 hs2 hm1 hm2 HR3
      go_wp2_with fail
      refine (HH.out _ ew2).mono ?_
      rintro e w3 ⟨rfl, he3⟩
      have ew3 : Hid (Ext w w3) := hide (ew2.trans he3)
      go_wp2_with fail
      refine (HH2.out _ ew3.out).mono ?_
      rintro e w4 ⟨rfl, he4⟩
      have ew4 : Hid (Ext w w4) := hide (ew3.out.trans he4)
      go_wp2_with fail
      refine (HP1.out _ ew4.out).mono ?_
      rintro e w5 ⟨X, y, z, rfl, ho, he5⟩
      have ew5 : Hid (Ext w w5) := hide (ew4.out.trans he5)
      have hyl : y ≤ 1000 := by have h8 := ho.len; simp [putL_len] at h8; have := HKL.out; omega
      go_wp2_with fail
      refine (HAt.out _ ew5.out _ _ _ _ (ho.ints (by omega)) HS1.out).mono ?_
      rintro e w6 ⟨rr, rfl, hrr, he6⟩
      have hneg : rr < 0 := by rw [HM1.out] at hrr; simpa using hrr
      have hnegd : decide (rr < 0) = true := by simpa using hneg
      clear hrr
      have ew6 : Hid (Ext w w6) := hide (ew5.out.trans he6)
      go_wp2_with fail
      refine (HP2.out _ ew6.out).mono ?_
      rintro e w7 ⟨X2, y2, z2, rfl, ho2, he7⟩
      have ew7 : Hid (Ext w w7) := hide (ew6.out.trans he7)
      have hyl2 : y2 ≤ 1000 := by have h8 := ho2.len; simp [putL_len] at h8; have := HKL.out; omega
      go_wp2_with fail
      refine (HAt.out _ ew7.out _ _ _ _ (ho2.ints (by omega)) HS2.out).mono ?_
      rintro e w8 ⟨r2, rfl, hr2, he8⟩
      have hneg2 : r2 < 0 := by rw [HM2.out] at hr2; simpa using hr2
      have hneg2d : decide (r2 < 0) = true := by simpa using hneg2
      clear hr2
      go_wp2_with fail
      go_ret
      exact ⟨ret_bool hF.out.symm, ew7.out.trans he8⟩
  · obtain rfl : u = v := by omega
    have hT : Hid (r = true) := hide (by rw [HR3.out, hq.out])
    have hnl : ¬ (u : Int) + 1 ≤ (u : Int) := by omega
    clear hq HR3
    go_wp2_with fail
    go_ret
    exact ⟨ret_bool hT.out.symm, ew2⟩
end Go.Proofs.Ytaigjmbhgpcalaa
