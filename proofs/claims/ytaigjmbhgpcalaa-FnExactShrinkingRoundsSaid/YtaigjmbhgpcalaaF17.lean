/-
  RestrictFamily in plain Lean: taking a literal out of clauses that all have it keeps their order; the reference's l2Insert behind all; no condition.
-/
import Derived.Test.YtaigjmbhgpcalaaF13
import Derived.Test.YtaigjmbhgpcalaaF5

namespace Go.Proofs.Ytaigjmbhgpcalaa
set_option linter.unusedSimpArgs false
set_option linter.unusedVariables false
open Go.RowKit
def restG (l : List (List Int)) (t : Int) : List (List Int) := (l.filter (hasInt t)).map fun a => woutV a (t.natAbs : Int)
theorem has_iff {t : Int} {a : List Int} : hasInt t a = true ↔ t ∈ a := by
  unfold hasInt; rw [List.any_eq_true]
  constructor
  · rintro ⟨x, hx, he⟩; have : x = t := by simpa using he
    subst this; exact hx
  · intro h; exact ⟨t, h, by simp⟩
theorem wout_tail {c : List Int} {lo : Nat} (h : risesL lo c) : woutV c (lo : Int) = c := by
  have hr := risesL_all c lo h
  unfold woutV
  rw [List.filter_eq_self]
  intro z hz
  have := hr z hz
  simp; omega
theorem wout_head {x : Int} {c : List Int} {lo : Nat} (h : risesL lo (x :: c)) : woutV (x :: c) (x.natAbs : Int) = c := by
  unfold woutV
  rw [List.filter_cons, if_neg (by simp)]
  exact wout_tail h.2
theorem wout_skip {x t : Int} {c : List Int} (h : x.natAbs ≠ t.natAbs) : woutV (x :: c) (t.natAbs : Int) = x :: woutV c (t.natAbs : Int) := by
  unfold woutV
  rw [List.filter_cons, if_pos (by simp; omega)]
theorem mem_abs {x t : Int} {c : List Int} {lo : Nat} (h : risesL lo (x :: c)) (ht : t ∈ x :: c) : x = t ∨ (t ∈ c ∧ x.natAbs < t.natAbs) := by
  rcases List.mem_cons.1 ht with e | e
  · exact .inl e.symm
  · exact .inr ⟨e, risesL_all c _ h.2 t e⟩
theorem wout_len : ∀ (c : List Int) (lo : Nat) (t : Int), risesL lo c → t ∈ c → (woutV c (t.natAbs : Int)).length + 1 = c.length
  | x :: c, lo, t, h, ht => by
    rcases mem_abs h ht with rfl | ⟨hc, hlt⟩
    · rw [wout_head h]; simp
    · rw [wout_skip (by omega)]
      have := wout_len c _ t h.2 hc
      simp only [List.length_cons]; omega
  | [], _, _, _, ht => by simp at ht
theorem wout_bef : ∀ (a b : List Int) (lo lo' : Nat) (t : Int), risesL lo a → risesL lo' b → t ∈ a → t ∈ b → a.length = b.length → befGo a b = true → befGo (woutV a (t.natAbs : Int)) (woutV b (t.natAbs : Int)) = true
  | x :: a, y :: b, lo, lo', t, ha, hb, hta, htb, hl, h => by
    have la := wout_len _ _ t ha hta
    have lb := wout_len _ _ t hb htb
    simp only [befGo] at h
    by_cases e : x = y
    · subst e
      rw [if_pos rfl] at h
      rcases mem_abs ha hta with rfl | ⟨hc, hlt⟩
      · rw [wout_head ha, wout_head hb]; exact h
      · have hcb : t ∈ b := by
          rcases mem_abs hb htb with e2 | ⟨e2, _⟩
          · rw [e2] at hlt; omega
          · exact e2
        rw [wout_skip (by omega), wout_skip (by omega)]
        simp only [befGo]
        rw [if_pos trivial]
        exact wout_bef a b _ _ t ha.2 hb.2 hc hcb (by simpa using hl) h
    · rw [if_neg e] at h
      have hk : litKey x < litKey y := by simpa using h
      rcases mem_abs ha hta with rfl | ⟨hc, hlt⟩
      · exfalso
        rcases mem_abs hb htb with e2 | ⟨_, hlt2⟩
        · exact e e2.symm
        · unfold litKey at hk; split at hk <;> split at hk <;> omega
      · rw [wout_skip (by omega)] at la ⊢
        rcases mem_abs hb htb with rfl | ⟨hcb, hlt2⟩
        · rw [wout_head hb] at lb ⊢
          cases b with
          | nil => simp only [List.length_cons, List.length_nil] at la lb hl; omega
          | cons z b =>
            have hz := hb.2.1
            simp only [befGo]
            rw [if_neg (by intro e2; subst e2; omega)]
            simp only [decide_eq_true_eq]
            unfold litKey; split <;> split <;> omega
        · rw [wout_skip (by omega)]
          simp only [befGo]
          rw [if_neg e]; exact h
  | [], _, _, _, _, _, _, hta, _, _, _ => by simp at hta
  | _ :: _, [], _, _, _, _, _, _, htb, _, _ => by simp at htb
theorem wout_befC {v : Nat} {a b : List Int} {t : Int} (ha : clauseOk v a = true) (hb : clauseOk v b = true) (hta : t ∈ a) (htb : t ∈ b) (h : befC a b = true) : befC (woutV a (t.natAbs : Int)) (woutV b (t.natAbs : Int)) = true := by
  have ra := (clauseOk_rises ha).1
  have rb := (clauseOk_rises hb).1
  have la := wout_len _ _ t ra hta
  have lb := wout_len _ _ t rb htb
  unfold befC at h ⊢
  by_cases e : a.length = b.length
  · rw [if_pos e] at h; rw [if_pos (by omega)]; exact wout_bef a b 0 0 t ra rb hta htb e h
  · rw [if_neg e] at h; rw [if_neg (by omega)]; simp at h ⊢; omega
theorem asc_cons {x : List Int} {l : List (List Int)} (h : Asc (x :: l)) : Asc l ∧ ∀ y ∈ l, befC x y = true := by
  refine ⟨fun i j p q hij hp hq => h (i + 1) (j + 1) p q (by omega) (by simpa using hp) (by simpa using hq), fun y hy => ?_⟩
  obtain ⟨j, hj, rfl⟩ := List.getElem_of_mem hy
  exact h 0 (j + 1) x _ (by omega) rfl (by simp)
theorem asc_of_cons {x : List Int} {l : List (List Int)} (h : Asc l) (hx : ∀ y ∈ l, befC x y = true) : Asc (x :: l) := by
  intro i j p q hij hp hq
  cases j with
  | zero => omega
  | succ j =>
    have hq' : l[j]? = some q := by simpa using hq
    cases i with
    | zero => simp at hp; subst hp; exact hx q (List.mem_of_getElem? hq')
    | succ i => exact h i j p q (by omega) (by simpa using hp) hq'
theorem restG_asc {v : Nat} {t : Int} : ∀ (l : List (List Int)), (∀ b ∈ l, clauseOk v b = true) → Asc l → Asc (restG l t)
  | [], _, _ => fun i j p q _ hp => by simp [restG] at hp
  | x :: l, hl, ha => by
    obtain ⟨h1, h2⟩ := asc_cons ha
    have ih := restG_asc (t := t) l (fun b hb => hl b (by simp [hb])) h1
    unfold restG at ih ⊢
    rw [List.filter_cons]
    cases hx : hasInt t x
    · simpa using ih
    · simp only [if_true, List.map_cons]
      refine asc_of_cons ih fun y hy => ?_
      obtain ⟨b, hb, rfl⟩ := List.mem_map.1 hy
      obtain ⟨hb1, hb2⟩ := List.mem_filter.1 hb
      exact wout_befC (hl x (by simp)) (hl b (by simp [hb1])) (has_iff.1 hx) (has_iff.1 hb2) (h2 b hb1)
/-- What is put behind an ascending list whose clauses all stand before it. -/
theorem restG_take {l : List (List Int)} {t : Int} {i : Nat} {xs : List Int} (hx : Hid (l[i]? = some xs)) : restG (l.take (i + 1)) t = restG (l.take i) t ++ (if hasInt t xs then [woutV xs (t.natAbs : Int)] else []) := by
  rw [take_succ_of hx]
  unfold restG
  rw [List.filter_append, List.map_append, List.filter_cons]
  cases hasInt t xs <;> simp
theorem info_row : (Try.prog.info? 35).map (fun i => (i.zero, i.size, i.bytes)) = some (some (.slice none 0 0), 1, 24) := by kernel_rfl
theorem Own.oneCells {w : World} {base : Nat} {e : TypeId} {A : Option Addr} {n c : Nat} {us : List Value} (h : Own w base e 1 A n c us) (hu : ∀ z ∈ us, ∃ B m d, z = .slice B m d) : ∀ z ∈ us, z.oneCell' = true := by
  intro z hz
  obtain ⟨B, m, d, rfl⟩ := hu z hz
  rfl
set_option maxRecDepth 100000 in
set_option maxHeartbeats 6400000 in
theorem l2Insert_end (base g n d : Nat) (l : List (List Int)) (us : List Value) (B : Option Addr) (m q : Nat) (c : List Int) (w : World) (h : Intss w (some ⟨g, 0, none⟩) n l) (ho : Own w base 35 1 (some ⟨g, 0, none⟩) n d us) (hus : ∀ z ∈ us, z.oneCell' = true) (k : Ints w B m c) (hn : n ≤ 900) (hasc : Asc l) (hl : ∀ x ∈ l, Small x) (hc : Small c) (hbef : ∀ x ∈ l, befC x c = true) (hb : base ≤ w.heap.size) :
    Calls Try.prog 42 #[.slice (some ⟨g, 0, none⟩) n d, .slice B m q] w fun e w' => ∃ A' c', e = .returned (.slice A' (n + 1) c') ∧ Own w' w.heap.size 35 1 A' (n + 1) c' (us ++ [.slice B m q]) ∧ Ext w w' := by
  have HP := hide (l2Place_c (some ⟨g, 0, none⟩) n d l B m q c w h k (by omega) hasc hl hc)
  have hcap : n ≤ d := ho.cap
  have hul : us.length = n := by have := ho.len; omega
  have HBf := hide hbef
  have HL := hide h.len
  have HU1 := hide hus
  have HU2 : Hid ((Value.slice B m q).oneCell' = true) := hide rfl
  have HX := hide (fun (W : World) (E : Ext w W) (j : Nat) (z : Value) (hz : us[j]? = some z) => (by
    have h1 : (⟨g, 0, none⟩ : Addr).add j = ⟨g, j, none⟩ := by unfold Addr.add; split <;> simp_all
    rw [h1]; exact E.cell (ho.cell hz) : W.cell? ((⟨g, 0, none⟩ : Addr).add j) = some z))
  clear hasc hl hc hbef hus
  go_enter Try.func42, Try.ntmps42
  go_wp2_with fail
  refine HP.out.mono ?_
  rintro e w1 ⟨p, rfl, hpn, hlo, hhi, he1⟩
  have hp : n = p := by
    rcases Nat.lt_or_ge p n with h1 | h1
    · exfalso
      have hx := List.getElem?_eq_getElem (show p < l.length by have := HL.out; omega)
      have h2 := hhi p _ (Nat.le_refl _) hx
      rw [HBf.out _ (List.mem_of_getElem? hx)] at h2; cases h2
    · omega
  subst hp
  have HZ := hide he1.size
  replace HX := hide (fun (W : World) (E : Ext w1 W) => HX.out W (he1.trans E))
  clear hlo hhi HP
  have hnd : (n : Int) ≤ (d : Int) := by omega
  by_cases hck : d = n
  · have hck2 : n = d := hck.symm
    subst hck2
    clear hck
    go_wp2_with fail
    have HO1 : Hid (Own (w1.alloc (.cells #[] 35)).drew w1.heap.size 35 1 (some ⟨w1.heap.size, 0, none⟩) 0 0 []) := hide ((Own.arr_at #[] 0 [] rfl (Nat.le_refl _) (by decide) rfl rfl).ext (Ext.refl _).drew)
    have HO2 : Hid (Own ((w1.alloc (.cells #[] 35)).alloc (.cells #[.slice B m q] 35)).drew w1.heap.size 35 1 (some ⟨w1.heap.size, 0, none⟩) 0 0 []) := hide (((Own.arr_at #[] 0 [] rfl (Nat.le_refl _) (by decide) rfl rfl).alloc _).ext (Ext.refl _).drew)
    have HO3 : Hid (Own ((w1.alloc (.cells #[.slice B m q] 35)).alloc (.cells #[] 35)).drew w1.heap.size 35 1 (some ⟨w1.heap.size + 1, 0, none⟩) 0 0 []) := hide ((Own.arr_at #[] 0 [] (by simp) (by simp) (by decide) rfl rfl).ext (Ext.refl _).drew)
    have HB2 : Hid (BoxAt ((w1.alloc (.cells #[] 35)).alloc (.cells #[.slice B m q] 35)).drew (w1.heap.size + 1) 35 #[.slice B m q]) := hide ((by have := BoxAt.made (w1.alloc (.cells #[] 35)) #[.slice B m q] 35; simpa using this : BoxAt ((w1.alloc (.cells #[] 35)).alloc (.cells #[.slice B m q] 35)) (w1.heap.size + 1) 35 #[.slice B m q]).ext (Ext.refl _).drew)
    have HB3 : Hid (BoxAt ((w1.alloc (.cells #[.slice B m q] 35)).alloc (.cells #[] 35)).drew w1.heap.size 35 #[.slice B m q]) := hide (((BoxAt.made w1 #[.slice B m q] 35).ext ((Ext.refl _).alloc _)).ext (Ext.refl _).drew)
    go_region_held3 (fun w' => True) (trivial) (first | (refine step_appS (base := w1.heap.size) (by rfl) _ _ 22 _ (by rfl) Try.underlying22 _ 1 24 info_row rfl (by decide) (A := A2) (n := 0 + n + 1) (c := c2) (us := [] ++ us ++ [.slice B m q]) (by first | rfl | (simp [go_sem]; done) | (simp [go_sem, *]; done)) ho2 ⟨g, 0, none⟩ 0 _ [] (by first | rfl | (simp [go_sem]; done) | (simp [go_sem, *]; done)) rfl (by exact fun j z hz => by simp at hz) (by intro z hz; simp at hz) (by omega) (by omega) (by omega) ?_; intro A3 c3 v3 ho3 hg3; have E3 : Ext w1 v3 := E2.trans_own (Nat.le_refl _) ho2 hg3; clear ho2 hg3) | (refine step_appS (base := w1.heap.size) (by rfl) _ _ 22 _ (by rfl) Try.underlying22 _ 1 24 info_row rfl (by decide) (by first | rfl | (simp [go_sem]; done) | (simp [go_sem, *]; done)) (us := []) (by first | exact HO1.out | exact HO2.out | exact HO3.out) ⟨g, 0, none⟩ n _ us (by first | rfl | (simp [go_sem]; done) | (simp [go_sem, *]; done)) (by omega) (by exact fun j z hz => (HX.out _ (by (repeat (first | with_reducible exact Ext.refl _ | with_reducible assumption | ((with_reducible refine Ext.setCell ?_ ?_ _); rotate_left; focus (first | omega | (simp <;> omega))) | with_reducible refine Ext.alloc ?_ _ | with_reducible refine Ext.drewN ?_ _ | with_reducible refine Ext.drew ?_ | with_reducible refine Ext.trans ?_ (by with_reducible assumption)))) j z hz)) HU1.out (by omega) (by omega) (by first | omega | (simp <;> omega)) ?_; intro A1 c1 v1 ho1 hg1; have E1 : Ext w1 v1 := Ext.trans_own (by (repeat (first | with_reducible exact Ext.refl _ | with_reducible assumption | ((with_reducible refine Ext.setCell ?_ ?_ _); rotate_left; focus (first | omega | (simp <;> omega))) | with_reducible refine Ext.alloc ?_ _ | with_reducible refine Ext.drewN ?_ _ | with_reducible refine Ext.drew ?_ | with_reducible refine Ext.trans ?_ (by with_reducible assumption)))) (Nat.le_refl _) (by first | exact HO1.out | exact HO2.out | exact HO3.out) hg1; (first | (have bx1 : BoxAt v1 (w1.heap.size + 1) 35 #[.slice B m q] := (hg1.block _ (by first | omega | (simp <;> omega)) (by simp [Value.ownBlock])).trans HB2.out) | (have bx1 : BoxAt v1 w1.heap.size 35 #[.slice B m q] := (hg1.block _ (by first | omega | (simp <;> omega)) (by simp [Value.ownBlock])).trans HB3.out) | skip); have ez1 := E1.size; clear HO1 HO2 HO3) | (refine step_appS (base := w1.heap.size) (by rfl) _ _ 22 _ (by rfl) Try.underlying22 _ 1 24 info_row rfl (by decide) (A := A1) (n := 0 + n) (c := c1) (us := [] ++ us) (by first | rfl | (simp [go_sem]; done) | (simp [go_sem, *]; done)) (by first | exact ho1 | exact ho1.alloc _) ⟨v1.heap.size, 0, none⟩ 1 1 [.slice B m q] (by first | rfl | (simp [go_sem]; done) | (simp [go_sem, *]; done)) rfl (by exact box_news (BoxAt.made _ _ _)) (by intro z hz; simp at hz; subst hz; exact HU2.out) (by omega) (by omega) (by first | omega | (simp <;> omega)) ?_; intro A2 c2 v2 ho2 hg2; have E2 : Ext w1 v2 := Ext.trans_own (by (repeat (first | with_reducible exact Ext.refl _ | with_reducible assumption | ((with_reducible refine Ext.setCell ?_ ?_ _); rotate_left; focus (first | omega | (simp <;> omega))) | with_reducible refine Ext.alloc ?_ _ | with_reducible refine Ext.drewN ?_ _ | with_reducible refine Ext.drew ?_ | with_reducible refine Ext.trans ?_ (by with_reducible assumption)))) (Nat.le_refl _) (by first | exact ho1 | exact ho1.alloc _) hg2; have ez2 := E2.size; clear ho1 hg1 hg2) | (refine step_appS (base := w1.heap.size) (by rfl) _ _ 22 _ (by rfl) Try.underlying22 _ 1 24 info_row rfl (by decide) (A := A1) (n := 0 + n) (c := c1) (us := [] ++ us) (by first | rfl | (simp [go_sem]; done) | (simp [go_sem, *]; done)) (by first | exact ho1 | exact ho1.alloc _) ⟨w1.heap.size + 1, 0, none⟩ 1 1 [.slice B m q] (by first | rfl | (simp [go_sem]; done) | (simp [go_sem, *]; done)) rfl (by exact box_news bx1) (by intro z hz; simp at hz; subst hz; exact HU2.out) (by omega) (by omega) (by first | omega | (simp <;> omega)) ?_; intro A2 c2 v2 ho2 hg2; have E2 : Ext w1 v2 := Ext.trans_own (by (repeat (first | with_reducible exact Ext.refl _ | with_reducible assumption | ((with_reducible refine Ext.setCell ?_ ?_ _); rotate_left; focus (first | omega | (simp <;> omega))) | with_reducible refine Ext.alloc ?_ _ | with_reducible refine Ext.drewN ?_ _ | with_reducible refine Ext.drew ?_ | with_reducible refine Ext.trans ?_ (by with_reducible assumption)))) (Nat.le_refl _) (by first | exact ho1 | exact ho1.alloc _) hg2; have ez2 := E2.size; clear ho1 hg1 hg2) | (refine step_appS (base := w1.heap.size) (by rfl) _ _ 22 _ (by rfl) Try.underlying22 _ 1 24 info_row rfl (by decide) (A := A1) (n := 0 + n) (c := c1) (us := [] ++ us) (by first | rfl | (simp [go_sem]; done) | (simp [go_sem, *]; done)) (by first | exact ho1 | exact ho1.alloc _) ⟨w1.heap.size, 0, none⟩ 1 1 [.slice B m q] (by first | rfl | (simp [go_sem]; done) | (simp [go_sem, *]; done)) rfl (by exact box_news bx1) (by intro z hz; simp at hz; subst hz; exact HU2.out) (by omega) (by omega) (by first | omega | (simp <;> omega)) ?_; intro A2 c2 v2 ho2 hg2; have E2 : Ext w1 v2 := Ext.trans_own (by (repeat (first | with_reducible exact Ext.refl _ | with_reducible assumption | ((with_reducible refine Ext.setCell ?_ ?_ _); rotate_left; focus (first | omega | (simp <;> omega))) | with_reducible refine Ext.alloc ?_ _ | with_reducible refine Ext.drewN ?_ _ | with_reducible refine Ext.drew ?_ | with_reducible refine Ext.trans ?_ (by with_reducible assumption)))) (Nat.le_refl _) (by first | exact ho1 | exact ho1.alloc _) hg2; have ez2 := E2.size; clear ho1 hg1 hg2))
    all_goals
      go_wp2_with fail
      go_ret
      exact ⟨_, _, rfl, by simpa using ho3.lower HZ.out, he1.trans E3⟩
  · go_wp2_with fail
    have HO1 : Hid (Own (w1.alloc (.cells #[] 35)).drew w1.heap.size 35 1 (some ⟨w1.heap.size, 0, none⟩) 0 0 []) := hide ((Own.arr_at #[] 0 [] rfl (Nat.le_refl _) (by decide) rfl rfl).ext (Ext.refl _).drew)
    have HO2 : Hid (Own ((w1.alloc (.cells #[] 35)).alloc (.cells #[.slice B m q] 35)).drew w1.heap.size 35 1 (some ⟨w1.heap.size, 0, none⟩) 0 0 []) := hide (((Own.arr_at #[] 0 [] rfl (Nat.le_refl _) (by decide) rfl rfl).alloc _).ext (Ext.refl _).drew)
    have HO3 : Hid (Own ((w1.alloc (.cells #[.slice B m q] 35)).alloc (.cells #[] 35)).drew w1.heap.size 35 1 (some ⟨w1.heap.size + 1, 0, none⟩) 0 0 []) := hide ((Own.arr_at #[] 0 [] (by simp) (by simp) (by decide) rfl rfl).ext (Ext.refl _).drew)
    have HB2 : Hid (BoxAt ((w1.alloc (.cells #[] 35)).alloc (.cells #[.slice B m q] 35)).drew (w1.heap.size + 1) 35 #[.slice B m q]) := hide ((by have := BoxAt.made (w1.alloc (.cells #[] 35)) #[.slice B m q] 35; simpa using this : BoxAt ((w1.alloc (.cells #[] 35)).alloc (.cells #[.slice B m q] 35)) (w1.heap.size + 1) 35 #[.slice B m q]).ext (Ext.refl _).drew)
    have HB3 : Hid (BoxAt ((w1.alloc (.cells #[.slice B m q] 35)).alloc (.cells #[] 35)).drew w1.heap.size 35 #[.slice B m q]) := hide (((BoxAt.made w1 #[.slice B m q] 35).ext ((Ext.refl _).alloc _)).ext (Ext.refl _).drew)
    go_region_held3 (fun w' => True) (trivial) (first | (refine step_appS (base := w1.heap.size) (by rfl) _ _ 22 _ (by rfl) Try.underlying22 _ 1 24 info_row rfl (by decide) (A := A2) (n := 0 + n + 1) (c := c2) (us := [] ++ us ++ [.slice B m q]) (by first | rfl | (simp [go_sem]; done) | (simp [go_sem, *]; done)) ho2 ⟨g, n, none⟩ 0 _ [] (by first | rfl | (simp [go_sem]; done) | (simp [go_sem, *]; done)) rfl (by exact fun j z hz => by simp at hz) (by intro z hz; simp at hz) (by omega) (by omega) (by omega) ?_; intro A3 c3 v3 ho3 hg3; have E3 : Ext w1 v3 := E2.trans_own (Nat.le_refl _) ho2 hg3; clear ho2 hg3) | (refine step_appS (base := w1.heap.size) (by rfl) _ _ 22 _ (by rfl) Try.underlying22 _ 1 24 info_row rfl (by decide) (by first | rfl | (simp [go_sem]; done) | (simp [go_sem, *]; done)) (us := []) (by first | exact HO1.out | exact HO2.out | exact HO3.out) ⟨g, 0, none⟩ n _ us (by first | rfl | (simp [go_sem]; done) | (simp [go_sem, *]; done)) (by omega) (by exact fun j z hz => (HX.out _ (by (repeat (first | with_reducible exact Ext.refl _ | with_reducible assumption | ((with_reducible refine Ext.setCell ?_ ?_ _); rotate_left; focus (first | omega | (simp <;> omega))) | with_reducible refine Ext.alloc ?_ _ | with_reducible refine Ext.drewN ?_ _ | with_reducible refine Ext.drew ?_ | with_reducible refine Ext.trans ?_ (by with_reducible assumption)))) j z hz)) HU1.out (by omega) (by omega) (by first | omega | (simp <;> omega)) ?_; intro A1 c1 v1 ho1 hg1; have E1 : Ext w1 v1 := Ext.trans_own (by (repeat (first | with_reducible exact Ext.refl _ | with_reducible assumption | ((with_reducible refine Ext.setCell ?_ ?_ _); rotate_left; focus (first | omega | (simp <;> omega))) | with_reducible refine Ext.alloc ?_ _ | with_reducible refine Ext.drewN ?_ _ | with_reducible refine Ext.drew ?_ | with_reducible refine Ext.trans ?_ (by with_reducible assumption)))) (Nat.le_refl _) (by first | exact HO1.out | exact HO2.out | exact HO3.out) hg1; (first | (have bx1 : BoxAt v1 (w1.heap.size + 1) 35 #[.slice B m q] := (hg1.block _ (by first | omega | (simp <;> omega)) (by simp [Value.ownBlock])).trans HB2.out) | (have bx1 : BoxAt v1 w1.heap.size 35 #[.slice B m q] := (hg1.block _ (by first | omega | (simp <;> omega)) (by simp [Value.ownBlock])).trans HB3.out) | skip); have ez1 := E1.size; clear HO1 HO2 HO3) | (refine step_appS (base := w1.heap.size) (by rfl) _ _ 22 _ (by rfl) Try.underlying22 _ 1 24 info_row rfl (by decide) (A := A1) (n := 0 + n) (c := c1) (us := [] ++ us) (by first | rfl | (simp [go_sem]; done) | (simp [go_sem, *]; done)) (by first | exact ho1 | exact ho1.alloc _) ⟨v1.heap.size, 0, none⟩ 1 1 [.slice B m q] (by first | rfl | (simp [go_sem]; done) | (simp [go_sem, *]; done)) rfl (by exact box_news (BoxAt.made _ _ _)) (by intro z hz; simp at hz; subst hz; exact HU2.out) (by omega) (by omega) (by first | omega | (simp <;> omega)) ?_; intro A2 c2 v2 ho2 hg2; have E2 : Ext w1 v2 := Ext.trans_own (by (repeat (first | with_reducible exact Ext.refl _ | with_reducible assumption | ((with_reducible refine Ext.setCell ?_ ?_ _); rotate_left; focus (first | omega | (simp <;> omega))) | with_reducible refine Ext.alloc ?_ _ | with_reducible refine Ext.drewN ?_ _ | with_reducible refine Ext.drew ?_ | with_reducible refine Ext.trans ?_ (by with_reducible assumption)))) (Nat.le_refl _) (by first | exact ho1 | exact ho1.alloc _) hg2; have ez2 := E2.size; clear ho1 hg1 hg2) | (refine step_appS (base := w1.heap.size) (by rfl) _ _ 22 _ (by rfl) Try.underlying22 _ 1 24 info_row rfl (by decide) (A := A1) (n := 0 + n) (c := c1) (us := [] ++ us) (by first | rfl | (simp [go_sem]; done) | (simp [go_sem, *]; done)) (by first | exact ho1 | exact ho1.alloc _) ⟨w1.heap.size + 1, 0, none⟩ 1 1 [.slice B m q] (by first | rfl | (simp [go_sem]; done) | (simp [go_sem, *]; done)) rfl (by exact box_news bx1) (by intro z hz; simp at hz; subst hz; exact HU2.out) (by omega) (by omega) (by first | omega | (simp <;> omega)) ?_; intro A2 c2 v2 ho2 hg2; have E2 : Ext w1 v2 := Ext.trans_own (by (repeat (first | with_reducible exact Ext.refl _ | with_reducible assumption | ((with_reducible refine Ext.setCell ?_ ?_ _); rotate_left; focus (first | omega | (simp <;> omega))) | with_reducible refine Ext.alloc ?_ _ | with_reducible refine Ext.drewN ?_ _ | with_reducible refine Ext.drew ?_ | with_reducible refine Ext.trans ?_ (by with_reducible assumption)))) (Nat.le_refl _) (by first | exact ho1 | exact ho1.alloc _) hg2; have ez2 := E2.size; clear ho1 hg1 hg2) | (refine step_appS (base := w1.heap.size) (by rfl) _ _ 22 _ (by rfl) Try.underlying22 _ 1 24 info_row rfl (by decide) (A := A1) (n := 0 + n) (c := c1) (us := [] ++ us) (by first | rfl | (simp [go_sem]; done) | (simp [go_sem, *]; done)) (by first | exact ho1 | exact ho1.alloc _) ⟨w1.heap.size, 0, none⟩ 1 1 [.slice B m q] (by first | rfl | (simp [go_sem]; done) | (simp [go_sem, *]; done)) rfl (by exact box_news bx1) (by intro z hz; simp at hz; subst hz; exact HU2.out) (by omega) (by omega) (by first | omega | (simp <;> omega)) ?_; intro A2 c2 v2 ho2 hg2; have E2 : Ext w1 v2 := Ext.trans_own (by (repeat (first | with_reducible exact Ext.refl _ | with_reducible assumption | ((with_reducible refine Ext.setCell ?_ ?_ _); rotate_left; focus (first | omega | (simp <;> omega))) | with_reducible refine Ext.alloc ?_ _ | with_reducible refine Ext.drewN ?_ _ | with_reducible refine Ext.drew ?_ | with_reducible refine Ext.trans ?_ (by with_reducible assumption)))) (Nat.le_refl _) (by first | exact ho1 | exact ho1.alloc _) hg2; have ez2 := E2.size; clear ho1 hg1 hg2))
    all_goals
      go_wp2_with fail
      go_ret
      exact ⟨_, _, rfl, by simpa using ho3.lower HZ.out, he1.trans E3⟩
end Go.Proofs.Ytaigjmbhgpcalaa
