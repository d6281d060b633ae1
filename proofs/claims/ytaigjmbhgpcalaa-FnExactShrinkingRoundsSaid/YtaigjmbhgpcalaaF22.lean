/-
  The reference's l2Insert in any place; no condition.
-/
import Derived.Test.YtaigjmbhgpcalaaF21

namespace Go.Proofs.Ytaigjmbhgpcalaa
set_option linter.unusedSimpArgs false
set_option linter.unusedVariables false
open Go.RowKit
theorem take_get {α : Type} {us : List α} {p j : Nat} {z : α} (h : (us.take p)[j]? = some z) : us[j]? = some z := by
  rw [List.getElem?_take] at h
  split at h
  · exact h
  · cases h
theorem addr_addN (g j k : Nat) : (⟨g, j, none⟩ : Addr).add k = ⟨g, j + k, none⟩ := by unfold Addr.add; split <;> simp_all
set_option maxRecDepth 100000 in
set_option maxHeartbeats 6400000 in
theorem l2Insert_o (base g n d : Nat) (l : List (List Int)) (us : List Value) (B : Option Addr) (m q : Nat) (c : List Int) (w : World) (h : Intss w (some ⟨g, 0, none⟩) n l) (ho : Own w base 35 1 (some ⟨g, 0, none⟩) n d us) (hus : ∀ z ∈ us, z.oneCell' = true) (k : Ints w B m c) (hn : n ≤ 900) (hasc : Asc l) (hl : ∀ x ∈ l, Small x) (hc : Small c) (hnew : c ∉ l) (hb : base ≤ w.heap.size) :
    Calls Try.prog 42 #[.slice (some ⟨g, 0, none⟩) n d, .slice B m q] w fun e w' => ∃ p A' c', p ≤ n ∧ e = .returned (.slice A' (n + 1) c') ∧ Own w' w.heap.size 35 1 A' (n + 1) c' (us.take p ++ .slice B m q :: us.drop p) ∧
      (∀ (i : Nat) (x : List Int), i < p → l[i]? = some x → befC x c = true) ∧ (∀ (i : Nat) (x : List Int), p ≤ i → l[i]? = some x → befC x c = false) ∧ Ext w w' := by
  by_cases hall : ∀ x ∈ l, befC x c = true
  · have hul : us.length = n := by have := ho.len; omega
    refine (l2Insert_end base g n d l us B m q c w h ho hus k hn hasc hl hc hall hb).mono ?_
    rintro e w' ⟨A', c', he, ho', hE⟩
    refine ⟨n, A', c', Nat.le_refl _, he, ?_, fun i x _ hx => hall x (List.mem_of_getElem? hx), fun i x hi hx => ?_, hE⟩
    · rw [List.take_of_length_le (by omega), List.drop_eq_nil_of_le (by omega)]; exact ho'
    · have := (List.getElem?_eq_some_iff.1 hx).1
      have := h.len
      omega
  have HP := hide (l2Place_c (some ⟨g, 0, none⟩) n d l B m q c w h k (by omega) hasc hl hc)
  have hcap : n ≤ d := ho.cap
  have hul : us.length = n := by have := ho.len; omega
  have HAll := hide hall
  have HL := hide h.len
  have HNw := hide hnew
  have HU1 := hide hus
  have HU2 : Hid ((Value.slice B m q).oneCell' = true) := hide rfl
  have HX := hide (fun (W : World) (E : Ext w W) (j : Nat) (z : Value) (hz : us[j]? = some z) => (by
    have h1 : (⟨g, 0, none⟩ : Addr).add j = ⟨g, j, none⟩ := by unfold Addr.add; split <;> simp_all
    rw [h1]; exact E.cell (ho.cell hz) : W.cell? ((⟨g, 0, none⟩ : Addr).add j) = some z))
  have HIn := hide h
  have HK := hide k
  clear hasc hl hc hall hus hnew h k
  go_enter Try.func42, Try.ntmps42
  go_wp2_with fail
  refine HP.out.mono ?_
  rintro e w1 ⟨p, rfl, hpn, hlo, hhi, he1⟩
  have hp : p < n := by
    rcases Nat.lt_or_ge p n with h1 | h1
    · exact h1
    · exfalso
      refine HAll.out fun x hx => ?_
      obtain ⟨i, hi, rfl⟩ := List.getElem_of_mem hx
      exact hlo i _ (by have := HL.out; omega) (List.getElem?_eq_getElem hi)
  have HF := hide (fun (v : World) (A : Option Addr) (c' : Nat) (hw : Own v w.heap.size 35 1 A (0 + p + 1 + (n - p)) c' ([] ++ us.take p ++ [.slice B m q] ++ us.drop p)) => (by
    rw [show n + 1 = 0 + p + 1 + (n - p) by omega]; simpa using hw : Own v w.heap.size 35 1 A (n + 1) c' (us.take p ++ .slice B m q :: us.drop p)))
  have HPN : Hid (p ≤ n) := hide hpn
  have HP1 := hide hlo
  have HP2 := hide hhi
  have HZ := hide he1.size
  obtain ⟨ad, xs, X, y, z, e, hx, gx, hin⟩ := (HIn.out.ext he1).at_ hp
  injection e with e
  subst e
  rw [addr_addN, Nat.zero_add] at gx
  have hne : decide (xs = c) = false := decide_eq_false fun e => HNw.out (e ▸ List.mem_of_getElem? hx.out)
  have HS := hide (l1Same_c X y z xs B m q c w1 hin (HK.out.ext he1))
  rw [hne] at HS
  replace HX := hide (fun (W : World) (E : Ext w1 W) => HX.out W (he1.trans E))
  replace he1 : Hid (Ext w w1) := hide he1
  clear hlo hhi HP HAll HNw hne hx hin HIn HK hpn
  have hpd : (p : Int) ≤ (d : Int) := by omega
  have hpn2 : (p : Int) ≤ (n : Int) := by omega
  have hck : ¬ (d = p) := by omega
  go_wp2_with fail
  refine HS.out.mono ?_
  rintro e w2 ⟨rfl, he2⟩
  clear HS gx
  replace HX := hide (fun (W : World) (E : Ext w2 W) => HX.out W (he2.trans E))
  replace he1 : Hid (Ext w w2) := hide (he1.out.trans he2)
  replace HZ := hide he1.out.size
  clear he2
  obtain ⟨w1, rfl⟩ : ∃ W, W = w2 := ⟨_, rfl⟩
  go_wp2_with fail
  have HO1 : Hid (Own (w1.alloc (.cells #[] 35)).drew w1.heap.size 35 1 (some ⟨w1.heap.size, 0, none⟩) 0 0 []) := hide ((Own.arr_at #[] 0 [] rfl (Nat.le_refl _) (by decide) rfl rfl).ext (Ext.refl _).drew)
  have HO2 : Hid (Own ((w1.alloc (.cells #[] 35)).alloc (.cells #[.slice B m q] 35)).drew w1.heap.size 35 1 (some ⟨w1.heap.size, 0, none⟩) 0 0 []) := hide (((Own.arr_at #[] 0 [] rfl (Nat.le_refl _) (by decide) rfl rfl).alloc _).ext (Ext.refl _).drew)
  have HO3 : Hid (Own ((w1.alloc (.cells #[.slice B m q] 35)).alloc (.cells #[] 35)).drew w1.heap.size 35 1 (some ⟨w1.heap.size + 1, 0, none⟩) 0 0 []) := hide ((Own.arr_at #[] 0 [] (by simp) (by simp) (by decide) rfl rfl).ext (Ext.refl _).drew)
  have HB2 : Hid (BoxAt ((w1.alloc (.cells #[] 35)).alloc (.cells #[.slice B m q] 35)).drew (w1.heap.size + 1) 35 #[.slice B m q]) := hide ((by have := BoxAt.made (w1.alloc (.cells #[] 35)) #[.slice B m q] 35; simpa using this : BoxAt ((w1.alloc (.cells #[] 35)).alloc (.cells #[.slice B m q] 35)) (w1.heap.size + 1) 35 #[.slice B m q]).ext (Ext.refl _).drew)
  have HB3 : Hid (BoxAt ((w1.alloc (.cells #[.slice B m q] 35)).alloc (.cells #[] 35)).drew w1.heap.size 35 #[.slice B m q]) := hide (((BoxAt.made w1 #[.slice B m q] 35).ext ((Ext.refl _).alloc _)).ext (Ext.refl _).drew)
  go_region_held3 (fun w' => True) (trivial) (first | (refine step_appS (base := w1.heap.size) (by rfl) _ _ 22 _ (by rfl) Try.underlying22 _ 1 24 info_row rfl (by decide) (A := A2) (n := 0 + p + 1) (c := c2) (us := [] ++ us.take p ++ [.slice B m q]) (by first | rfl | (simp [go_sem]; done) | (simp [go_sem, *]; done)) ho2 ⟨g, p, none⟩ (n - p) _ (us.drop p) (by first | rfl | (simp [go_sem]; done) | (simp [go_sem, *]; done)) (by simp; omega) (by exact fun j z hz => by have h1 := HX.out _ E2 (p + j) z (by rwa [List.getElem?_drop] at hz); rw [addr_addN] at h1; rw [addr_addN, ← h1, Nat.zero_add]) (fun z hz => HU1.out z (List.mem_of_mem_drop hz)) (by omega) (by omega) (by omega) ?_; intro A3 c3 v3 ho3 hg3; have E3 : Ext w1 v3 := E2.trans_own (Nat.le_refl _) ho2 hg3; clear ho2 hg3) | (refine step_appS (base := w1.heap.size) (by rfl) _ _ 22 _ (by rfl) Try.underlying22 _ 1 24 info_row rfl (by decide) (by first | rfl | (simp [go_sem]; done) | (simp [go_sem, *]; done)) (us := []) (by first | exact HO1.out | exact HO2.out | exact HO3.out) ⟨g, 0, none⟩ p _ (us.take p) (by first | rfl | (simp [go_sem]; done) | (simp [go_sem, *]; done)) (by simp; omega) (by exact fun j z hz => (HX.out _ (by (repeat (first | with_reducible exact Ext.refl _ | with_reducible assumption | ((with_reducible refine Ext.setCell ?_ ?_ _); rotate_left; focus (first | omega | (simp <;> omega))) | with_reducible refine Ext.alloc ?_ _ | with_reducible refine Ext.drewN ?_ _ | with_reducible refine Ext.drew ?_ | with_reducible refine Ext.trans ?_ (by with_reducible assumption)))) j z (take_get hz))) (fun z hz => HU1.out z (List.mem_of_mem_take hz)) (by omega) (by omega) (by first | omega | (simp <;> omega)) ?_; intro A1 c1 v1 ho1 hg1; have E1 : Ext w1 v1 := Ext.trans_own (by (repeat (first | with_reducible exact Ext.refl _ | with_reducible assumption | ((with_reducible refine Ext.setCell ?_ ?_ _); rotate_left; focus (first | omega | (simp <;> omega))) | with_reducible refine Ext.alloc ?_ _ | with_reducible refine Ext.drewN ?_ _ | with_reducible refine Ext.drew ?_ | with_reducible refine Ext.trans ?_ (by with_reducible assumption)))) (Nat.le_refl _) (by first | exact HO1.out | exact HO2.out | exact HO3.out) hg1; (first | (have bx1 : BoxAt v1 (w1.heap.size + 1) 35 #[.slice B m q] := (hg1.block _ (by first | omega | (simp <;> omega)) (by simp [Value.ownBlock])).trans HB2.out) | (have bx1 : BoxAt v1 w1.heap.size 35 #[.slice B m q] := (hg1.block _ (by first | omega | (simp <;> omega)) (by simp [Value.ownBlock])).trans HB3.out) | skip); have ez1 := E1.size; clear HO1 HO2 HO3) | (refine step_appS (base := w1.heap.size) (by rfl) _ _ 22 _ (by rfl) Try.underlying22 _ 1 24 info_row rfl (by decide) (A := A1) (n := 0 + p) (c := c1) (us := [] ++ us.take p) (by first | rfl | (simp [go_sem]; done) | (simp [go_sem, *]; done)) (by first | exact ho1 | exact ho1.alloc _) ⟨v1.heap.size, 0, none⟩ 1 1 [.slice B m q] (by first | rfl | (simp [go_sem]; done) | (simp [go_sem, *]; done)) rfl (by exact box_news (BoxAt.made _ _ _)) (by intro z hz; simp at hz; subst hz; exact HU2.out) (by omega) (by omega) (by first | omega | (simp <;> omega)) ?_; intro A2 c2 v2 ho2 hg2; have E2 : Ext w1 v2 := Ext.trans_own (by (repeat (first | with_reducible exact Ext.refl _ | with_reducible assumption | ((with_reducible refine Ext.setCell ?_ ?_ _); rotate_left; focus (first | omega | (simp <;> omega))) | with_reducible refine Ext.alloc ?_ _ | with_reducible refine Ext.drewN ?_ _ | with_reducible refine Ext.drew ?_ | with_reducible refine Ext.trans ?_ (by with_reducible assumption)))) (Nat.le_refl _) (by first | exact ho1 | exact ho1.alloc _) hg2; have ez2 := E2.size; clear ho1 hg1 hg2) | (refine step_appS (base := w1.heap.size) (by rfl) _ _ 22 _ (by rfl) Try.underlying22 _ 1 24 info_row rfl (by decide) (A := A1) (n := 0 + p) (c := c1) (us := [] ++ us.take p) (by first | rfl | (simp [go_sem]; done) | (simp [go_sem, *]; done)) (by first | exact ho1 | exact ho1.alloc _) ⟨w1.heap.size + 1, 0, none⟩ 1 1 [.slice B m q] (by first | rfl | (simp [go_sem]; done) | (simp [go_sem, *]; done)) rfl (by exact box_news bx1) (by intro z hz; simp at hz; subst hz; exact HU2.out) (by omega) (by omega) (by first | omega | (simp <;> omega)) ?_; intro A2 c2 v2 ho2 hg2; have E2 : Ext w1 v2 := Ext.trans_own (by (repeat (first | with_reducible exact Ext.refl _ | with_reducible assumption | ((with_reducible refine Ext.setCell ?_ ?_ _); rotate_left; focus (first | omega | (simp <;> omega))) | with_reducible refine Ext.alloc ?_ _ | with_reducible refine Ext.drewN ?_ _ | with_reducible refine Ext.drew ?_ | with_reducible refine Ext.trans ?_ (by with_reducible assumption)))) (Nat.le_refl _) (by first | exact ho1 | exact ho1.alloc _) hg2; have ez2 := E2.size; clear ho1 hg1 hg2) | (refine step_appS (base := w1.heap.size) (by rfl) _ _ 22 _ (by rfl) Try.underlying22 _ 1 24 info_row rfl (by decide) (A := A1) (n := 0 + p) (c := c1) (us := [] ++ us.take p) (by first | rfl | (simp [go_sem]; done) | (simp [go_sem, *]; done)) (by first | exact ho1 | exact ho1.alloc _) ⟨w1.heap.size, 0, none⟩ 1 1 [.slice B m q] (by first | rfl | (simp [go_sem]; done) | (simp [go_sem, *]; done)) rfl (by exact box_news bx1) (by intro z hz; simp at hz; subst hz; exact HU2.out) (by omega) (by omega) (by first | omega | (simp <;> omega)) ?_; intro A2 c2 v2 ho2 hg2; have E2 : Ext w1 v2 := Ext.trans_own (by (repeat (first | with_reducible exact Ext.refl _ | with_reducible assumption | ((with_reducible refine Ext.setCell ?_ ?_ _); rotate_left; focus (first | omega | (simp <;> omega))) | with_reducible refine Ext.alloc ?_ _ | with_reducible refine Ext.drewN ?_ _ | with_reducible refine Ext.drew ?_ | with_reducible refine Ext.trans ?_ (by with_reducible assumption)))) (Nat.le_refl _) (by first | exact ho1 | exact ho1.alloc _) hg2; have ez2 := E2.size; clear ho1 hg1 hg2))
  all_goals
    go_wp2_with fail
    go_ret
    exact ⟨p, _, _, HPN.out, by first | rfl | (have e1 : 0 + p + 1 + (n - p) = n + 1 := by omega); (have e2 : p + 1 + (n - p) = n + 1 := by omega); (simp only [e1, e2]) <;> rfl, HF.out _ _ _ (ho3.lower HZ.out), HP1.out, HP2.out, he1.out.trans E3⟩
end Go.Proofs.Ytaigjmbhgpcalaa
