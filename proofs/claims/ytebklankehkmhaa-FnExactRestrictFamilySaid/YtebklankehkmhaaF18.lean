/-
  The reference's RestrictFamily; no condition.
-/
import Derived.Test.YtebklankehkmhaaF17
import Derived.Test.YtebklankehkmhaaF15
namespace Go.Proofs.Ytebklankehkmhaa
set_option linter.unusedSimpArgs false
set_option linter.unusedVariables false
open Go.RowKit
def restOk (v W : Int) (cls : List (List Int)) (l : List (List Int)) (t : Int) : Bool := famR v W cls l && isLit v t
theorem asc_last {l : List (List Int)} {c : List Int} (h : Asc (l ++ [c])) : Asc l ∧ ∀ x ∈ l, befC x c = true := by
  refine ⟨fun i j p q hij hp hq => h i j p q hij ?_ ?_, fun x hx => ?_⟩
  · rw [List.getElem?_append_left (List.getElem?_eq_some_iff.1 hp).1]; exact hp
  · rw [List.getElem?_append_left (List.getElem?_eq_some_iff.1 hq).1]; exact hq
  · obtain ⟨i, hi, rfl⟩ := List.getElem_of_mem hx
    refine h i l.length _ _ hi ?_ (by simp)
    rw [List.getElem?_append_left hi, List.getElem?_eq_getElem hi]
theorem asc_take {l : List (List Int)} (h : Asc l) (i : Nat) : Asc (l.take i) := by
  intro a b p q hab hp hq
  rw [List.getElem?_take] at hp hq
  split at hp
  · split at hq
    · exact h a b p q hab hp hq
    · cases hq
  · cases hp
theorem wout_mem {a : List Int} {u x : Int} (h : x ∈ woutV a u) : x ∈ a := (List.mem_filter.1 h).1
theorem restG_mem {l : List (List Int)} {t : Int} {x : List Int} (h : x ∈ restG l t) : ∃ a ∈ l, x = woutV a (t.natAbs : Int) := by
  obtain ⟨a, ha, rfl⟩ := List.mem_map.1 h
  exact ⟨a, (List.mem_filter.1 ha).1, rfl⟩
theorem restG_small {v : Nat} {l : List (List Int)} {t : Int} (h : ∀ b ∈ l, clauseOk v b = true) : ∀ x ∈ restG l t, Small x := by
  intro x hx y hy
  obtain ⟨a, ha, rfl⟩ := restG_mem hx
  exact clause_small (h a ha) y (wout_mem hy)
theorem restG_len (l : List (List Int)) (t : Int) : (restG l t).length ≤ l.length := by
  unfold restG; rw [List.length_map]; exact List.length_filter_le _ _
theorem rowsTotal_bound : ∀ (l : List (List Int)), (∀ x ∈ l, x.length ≤ 12) → rowsTotal l ≤ 12 * l.length
  | [], _ => by simp [rowsTotal]
  | x :: l, h => by
    have := rowsTotal_bound l (fun y hy => h y (by simp [hy]))
    have := h x (by simp)
    simp only [rowsTotal, List.map_cons, List.sum_cons, List.length_cons] at *
    omega
theorem restG_size {v : Nat} {l : List (List Int)} {t : Int} (h : ∀ b ∈ l, clauseOk v b = true) (hl : l.length ≤ 729) : rowsSize (restG l t) ≤ 1099511627776 := by
  have h1 := rowsTotal_bound (restG l t) (fun x hx => by
    obtain ⟨a, ha, rfl⟩ := restG_mem hx
    have h2 : (woutV a (t.natAbs : Int)).length ≤ a.length := List.length_filter_le _ _
    have h3 := clause_facts (h a ha)
    omega)
  have h2 := restG_len l t
  unfold rowsSize
  omega
theorem Asc.rest {v : Nat} {l : List (List Int)} (h : Asc l) (hok : ∀ b ∈ l, clauseOk v b = true) (t : Int) {i : Nat} {xs : List Int} (hx : Hid (l[i]? = some xs)) (hm : hasInt t xs = true) :
    Asc (restG (l.take i) t) ∧ (∀ x ∈ restG (l.take i) t, befC x (woutV xs (t.natAbs : Int)) = true) ∧ ∀ x ∈ restG (l.take i) t, Small x := by
  have hok2 : ∀ k, ∀ b ∈ l.take k, clauseOk v b = true := fun k b hb => hok b (List.mem_of_mem_take hb)
  have h1 := restG_asc (t := t) (l.take (i + 1)) (hok2 _) (asc_take h _)
  rw [restG_take hx, hm, if_pos rfl] at h1
  exact ⟨(asc_last h1).1, (asc_last h1).2, restG_small (hok2 _)⟩
theorem RowV.ofOwn {w : World} {lo : Nat} {ei : TypeId} {B : Option Addr} {m d : Nat} {xs : List Int} (h : Own w lo ei 1 B m d (xs.map (Value.int .i64))) (hm : m ≤ 140737488355328) : RowV w lo w.heap.size ei (.slice B m d) xs := by
  have hl : m = xs.length := by have := h.len; simpa using this.symm
  subst hl
  exact ⟨B, d, rfl, h, hm, fun k hk => (h.lt k hk).2⟩
/-- A new row appended where the outer row is made anew. -/
theorem OwnRows.remade {w w' : World} {lo hi : Nat} {eo ei : TypeId} {A A' : Option Addr} {n c c' : Nat} {xss : List (List Int)} {us : List Value} {u : Value} {xs : List Int} (h : OwnRows w lo hi eo ei A n c xss us) (he : Ext w w') (hlo : lo ≤ hi) (hhi : hi ≤ w'.heap.size)
    (hr : RowV w' hi w'.heap.size ei u xs) (hown : Own w' lo eo 1 A' (n + 1) c' (us ++ [u])) : OwnRows w' lo w'.heap.size eo ei A' (n + 1) c' (xss ++ [xs]) (us ++ [u]) := by
  have hul := h.ulen
  have hxl := h.len
  refine ⟨by simp; omega, hown, fun k hk => (hown.lt k hk).2, ?_, ?_⟩
  · intro j v ys hv hy
    by_cases hj : j < n
    · rw [List.getElem?_append_left (by omega)] at hv hy
      exact ((h.inner j v ys hv hy).ext he).wider hhi
    · have hj' : j = n := by
        have h1 := (List.getElem?_eq_some_iff.1 hv).1
        simp at h1; omega
      subst hj'
      rw [List.getElem?_append_right (by omega)] at hv hy
      simp [hul] at hv
      simp [← hxl] at hy
      subst hv; subst hy
      exact hr.lower hlo
  · have hlast : ∀ j v, (us ++ [u])[j]? = some v → (j < n ∧ us[j]? = some v) ∨ (j = n ∧ v = u) := by
      intro j v hv
      by_cases hj : j < n
      · rw [List.getElem?_append_left (by omega)] at hv; exact .inl ⟨hj, hv⟩
      · have hj' : j = n := by
          have h1 := (List.getElem?_eq_some_iff.1 hv).1
          simp at h1; omega
        subst hj'
        rw [List.getElem?_append_right (by omega)] at hv
        simp [hul] at hv
        exact .inr ⟨rfl, hv.symm⟩
    intro a b x v k hx hv hku hkv
    rcases hlast a x hx with ⟨ha, hx'⟩ | ⟨rfl, rfl⟩ <;> rcases hlast b v hv with ⟨hb, hv'⟩ | ⟨rfl, rfl⟩
    · exact h.apart a b x v k hx' hv' hku hkv
    · have h1 := h.ulow hx' hku
      have h2 := (hr.lt hkv).1
      omega
    · have h1 := h.ulow hv' hkv
      have h2 := (hr.lt hku).1
      omega
    · rfl
theorem OwnRows.slices {w : World} {lo hi : Nat} {eo ei : TypeId} {A : Option Addr} {n c : Nat} {xss : List (List Int)} {us : List Value} (h : OwnRows w lo hi eo ei A n c xss us) : ∀ z ∈ us, ∃ B m d, z = .slice B m d := by
  intro z hz
  obtain ⟨i, hi, rfl⟩ := List.getElem_of_mem hz
  have hul := h.ulen
  have hxl := h.len
  obtain ⟨B, d, e, _⟩ := h.inner i _ _ (List.getElem?_eq_getElem hi) (List.getElem?_eq_getElem (by omega))
  exact ⟨B, _, d, e⟩
theorem lit_small {v : Nat} {t : Int} (hv : v ≤ 6) (h : isLit v t = true) : -12 ≤ t ∧ t ≤ 12 := by
  have := isLit_true (v := (v : Int)) (by unfold within; simp; omega) h
  omega
set_option maxRecDepth 100000 in
set_option maxHeartbeats 6400000 in
theorem spec_RestrictFamily_o (v W : Int) (C : Option Addr) (nc dc : Nat) (cls : List (List Int)) (A : Option Addr) (n d : Nat) (l : List (List Int)) (t : Int) (w : World) (hcl : Intss w C nc cls) (h : IntssC w A n l) :
    Calls Try.prog 55 #[.agg #[.int .i64 v, .slice C nc dc], .int .i64 W, .slice A n d, .int .i64 t] w fun e w' =>
      ∃ A' n' c', e = .returned (.tuple #[.slice A' n' c', .bool (restOk v W cls l t)]) ∧ ObR 22 3 w' w.heap.size w'.heap.size A' n' c' (if restOk v W cls l t then restG l t else []) ∧ Ext w w' := by
  have HN := hide (fun Wd (E : Ext w Wd) => l13Asked_c v W C nc dc cls Wd (hcl.ext E))
  have HL := hide h.rd.len
  have hb := h.rd.bound
  have HO0 : Hid (OwnRows ((w.alloc (.cells #[.int .i64 v, .slice C nc dc] 41)).alloc (.cells #[] 22)) w.heap.size (w.heap.size + 1 + 1) 22 3 (some ⟨w.heap.size + 1, 0, none⟩) 0 0 [] []) := hide (by
    have := OwnRows.lit0 (eo := 22) (ei := 3) (lo := w.heap.size) (w := w.alloc (.cells #[.int .i64 v, .slice C nc dc] 41)) (by simp)
    simpa using this)
  have HR0 := hide (fun (Wd : World) (E : Ext ((w.alloc (.cells #[.int .i64 v, .slice C nc dc] 41)).alloc (.cells #[] 22)) Wd) =>
    (⟨⟨[], (HO0.out.ext E).wider (by have := E.size; simpa using this)⟩, by decide⟩ : ObR 22 3 Wd w.heap.size Wd.heap.size (some ⟨w.heap.size + 1, 0, none⟩) 0 0 []))
  have E0 : Hid (Ext w ((w.alloc (.cells #[.int .i64 v, .slice C nc dc] 41)).alloc (.cells #[] 22))) := hide (((Ext.refl w).alloc _).alloc _)
  have HW := hide (fun Wd => l2Lit_c v t Wd)
  cases hn : narOk v cls W
  · have hz : restOk v W cls l t = false := by unfold restOk famR; rw [hn]; rfl
    rw [hz]
    rw [hn] at HN; clear hn hz
    simp only [Bool.false_eq_true, if_false]
    go_enter Try.func55, Try.ntmps55
    go_wp2_with (go_at_call 85; (with_reducible refine (HN.out _ E0.out).mono ?_); rintro e1 w1 ⟨rfl, he1⟩)
    go_ret2
    exact ⟨_, _, _, rfl, HR0.out _ he1, E0.out.trans he1⟩
  rw [hn] at HN
  obtain ⟨u, rfl, hu⟩ := nar_nat hn
  obtain ⟨-, -, hWb, hc⟩ := nar_facts hn
  have hfr : famR u W cls l = famB u cls W l := by unfold famR; rw [hn, show ((u : Nat) : Int).toNat = u by omega]; rfl
  by_cases h7 : n ≤ 729
  rotate_left
  · have hz : restOk u W cls l t = false := by unfold restOk; rw [hfr, famB_big hu (by have := HL.out; omega)]; rfl
    rw [hz]
    have h7d : decide ((729 : Int) < (n : Int)) = true := decide_eq_true (by omega)
    clear hn hc hz hfr
    simp only [Bool.false_eq_true, if_false]
    go_enter Try.func55, Try.ntmps55
    go_wp2_with (go_at_call 85; (with_reducible refine (HN.out _ E0.out).mono ?_); rintro e1 w1 ⟨rfl, he1⟩; have bc0 := he1.cell (p := ⟨w.heap.size, 0, none⟩) (u := .int .i64 u) (by first | simp [go_sem] | simp [go_sem, *]); have bf0 := he1.frozen (p := ⟨w.heap.size, 0, none⟩) (by first | omega | (simp <;> omega)) (by first | simp [go_sem] | simp [go_sem, *]); have bc1 := he1.cell (p := ⟨w.heap.size, 1, none⟩) (u := .slice C nc dc) (by first | simp [go_sem] | simp [go_sem, *]); have bf1 := he1.frozen (p := ⟨w.heap.size, 1, none⟩) (by first | omega | (simp <;> omega)) (by first | simp [go_sem] | simp [go_sem, *]))
    go_ret2
    exact ⟨_, _, _, rfl, HR0.out _ he1, E0.out.trans he1⟩
  have h7d : ¬ (729 : Int) < (n : Int) := by omega
  have HI := hide (fun Wd (E : Ext w Wd) => l13Is_c u W C nc dc cls A n d l Wd (h.ext E) (hcl.ext E) (by omega) hc hWb hu)
  cases hf : famB u cls W l
  · have hz : restOk u W cls l t = false := by unfold restOk; rw [hfr, hf]; rfl
    rw [hz]
    rw [hf] at HI
    clear hn hc hz hfr hf
    simp only [Bool.false_eq_true, if_false]
    go_enter Try.func55, Try.ntmps55
    go_wp2_with (first | (go_at_call 85; (with_reducible refine (HN.out _ E0.out).mono ?_); rintro e1 w1 ⟨rfl, he1⟩; have ew1 : Hid (Ext w w1) := hide (E0.out.trans he1); have bc2 := he1.cell (p := ⟨w.heap.size, 0, none⟩) (u := .int .i64 u) (by first | simp [go_sem] | simp [go_sem, *]); have bf2 := he1.frozen (p := ⟨w.heap.size, 0, none⟩) (by first | omega | (simp <;> omega)) (by first | simp [go_sem] | simp [go_sem, *]); have bc3 := he1.cell (p := ⟨w.heap.size, 1, none⟩) (u := .slice C nc dc) (by first | simp [go_sem] | simp [go_sem, *]); have bf3 := he1.frozen (p := ⟨w.heap.size, 1, none⟩) (by first | omega | (simp <;> omega)) (by first | simp [go_sem] | simp [go_sem, *])) | (go_at_call 91; (with_reducible refine (HI.out _ ew1.out).mono ?_); rintro e2 w2 ⟨rfl, he2⟩))
    go_ret2
    exact ⟨_, _, _, rfl, HR0.out _ (he1.trans he2), ew1.out.trans he2⟩
  rw [hf] at HI
  obtain ⟨hoks, hasc⟩ := famR_facts (hfr.trans hf)
  cases hli : isLit u t
  · have hz : restOk u W cls l t = false := by unfold restOk; rw [hli, Bool.and_false]
    rw [hz]
    rw [hli] at HW
    clear hn hc hz hfr hf hli hoks hasc
    simp only [Bool.false_eq_true, if_false]
    go_enter Try.func55, Try.ntmps55
    go_wp2_with (first | (go_at_call 85; (with_reducible refine (HN.out _ E0.out).mono ?_); rintro e1 w1 ⟨rfl, he1⟩; have ew1 : Hid (Ext w w1) := hide (E0.out.trans he1); have bc4 := he1.cell (p := ⟨w.heap.size, 0, none⟩) (u := .int .i64 u) (by first | simp [go_sem] | simp [go_sem, *]); have bf4 := he1.frozen (p := ⟨w.heap.size, 0, none⟩) (by first | omega | (simp <;> omega)) (by first | simp [go_sem] | simp [go_sem, *]); have bc5 := he1.cell (p := ⟨w.heap.size, 1, none⟩) (u := .slice C nc dc) (by first | simp [go_sem] | simp [go_sem, *]); have bf5 := he1.frozen (p := ⟨w.heap.size, 1, none⟩) (by first | omega | (simp <;> omega)) (by first | simp [go_sem] | simp [go_sem, *])) | (go_at_call 91; (with_reducible refine (HI.out _ ew1.out).mono ?_); rintro e2 w2 ⟨rfl, he2⟩; have y0 := he2.cell bc4; have y1 := he2.cell bc5) | (go_at_call 106; (with_reducible refine (HW.out _).mono ?_); rintro e3 w3 ⟨rfl, rfl⟩))
    go_ret2
    exact ⟨_, _, _, rfl, HR0.out _ (he1.trans he2), ew1.out.trans he2⟩
  have hz : restOk u W cls l t = true := by unfold restOk; rw [hfr, hf, hli]; rfl
  rw [hz]
  rw [hli] at HW
  have hts := lit_small hu hli
  have HV := hide (fun W => l2Var_c t W)
  rw [absW_small hts] at HV
  have HH := hide (fun Wd (E : Ext w Wd) (X : Option Addr) (y z : Nat) (xs : List Int) (hi : Ints Wd X y xs) => l2Has_c X y z t xs Wd hi)
  have HWo := hide (fun Wd (E : Ext w Wd) (X : Option Addr) (y z : Nat) (xs : List Int) (hi : Ints Wd X y xs) (hy : y ≤ 1048576) (hs : Small xs) => l2Without_o X y z xs (t.natAbs : Int) Wd hi hs hy)
  have HP := hide (fun (i : Nat) (xs : List Int) (hx : Hid (l[i]? = some xs)) (hm : hasInt t xs = true) => Asc.rest hasc hoks t hx hm)
  have HSz := hide (restG_size (t := t) hoks (by rw [← HL.out]; exact h7))
  have HSm := hide (fun x hx => clause_small (hoks x hx))
  have HLe := hide (fun x hx => (clause_facts (hoks x hx)).2.2)
  clear hn hc hz hfr hf hli hoks hasc hts
  simp only [if_true]
  go_enter Try.func55, Try.ntmps55
  go_wp2_with fail
  refine (HN.out _ E0.out).mono ?_
  rintro e1 w1 ⟨rfl, he1⟩
  have ew1 : Hid (Ext w w1) := hide (E0.out.trans he1)
  have bc6 := he1.cell (p := ⟨w.heap.size, 0, none⟩) (u := .int .i64 u) (by first | simp [go_sem] | simp [go_sem, *]); have bf6 := he1.frozen (p := ⟨w.heap.size, 0, none⟩) (by first | omega | (simp <;> omega)) (by first | simp [go_sem] | simp [go_sem, *]); have bc7 := he1.cell (p := ⟨w.heap.size, 1, none⟩) (u := .slice C nc dc) (by first | simp [go_sem] | simp [go_sem, *]); have bf7 := he1.frozen (p := ⟨w.heap.size, 1, none⟩) (by first | omega | (simp <;> omega)) (by first | simp [go_sem] | simp [go_sem, *])
  go_wp2_with fail
  refine (HI.out _ ew1.out).mono ?_
  rintro e2 w2 ⟨rfl, he2⟩
  have ew2 : Hid (Ext w w2) := hide (ew1.out.trans he2)
  have y0 := he2.cell bc6
  have hR2 := HO0.out.ext (he1.trans he2)
  have HR2 := hide (hR2.wider (hi' := w2.heap.size) (by have := (he1.trans he2).size; simpa using this))
  clear hR2
  go_wp2_with fail
  refine (HW.out _).mono ?_
  rintro e3 w3 ⟨rfl, rfl⟩
  clear he1 bc6 bc7 bf6 bf7 HR0 HO0 E0
  go_wp2_with fail
  refine wp_loopF 59 _ rfl rfl [2, 3, 58] rfl (fun fr wr => Ext w2 wr ∧ ∃ (i mm g2 d2 : Nat) (us : List Value), i ≤ n ∧ (fr 11) = .int .i64 i ∧ (fr 10) = .slice (some ⟨g2, 0, none⟩) mm d2 ∧ mm ≤ i ∧ Hid (OwnRows wr w.heap.size wr.heap.size 22 3 (some ⟨g2, 0, none⟩) mm d2 (restG (l.take i) t) us)) (fun fr wr => n - (intOf (fr 11)).toNat) ?_ ?_
  · (exact ⟨Ext.refl _, 0, 0, _, _, [], by omega, rfl, rfl, Nat.le_refl _, HR2⟩)
  intro ks fr wr hkept hrel; (try dsimp only at hrel)
  change Code.wp _ _ _ ⟨#[fr 0, fr 1, ks 2, ks 3, fr 4, fr 5, fr 6, fr 7, fr 8, fr 9, fr 10, fr 11, fr 12, fr 13, fr 14, fr 15, fr 16, fr 17, fr 18, fr 19, fr 20, fr 21, fr 22, fr 23, fr 24, fr 25, fr 26, fr 27, fr 28, fr 29, fr 30, fr 31, fr 32, fr 33, fr 34, fr 35, fr 36, fr 37, fr 38, fr 39, fr 40, fr 41, fr 42, fr 43, fr 44, fr 45, fr 46, fr 47, fr 48, fr 49, fr 50, fr 51, fr 52, fr 53, fr 54, fr 55, fr 56, fr 57, ks 58], []⟩ wr
  simp only [KeptV, List.getD_cons_zero, List.getD_cons_succ] at hkept; obtain ⟨hk2, hk3, hk58, -⟩ := hkept
  generalize ks 2 = k2 at hk2 ⊢; subst hk2
  generalize ks 3 = k3 at hk3 ⊢; subst hk3
  generalize ks 58 = k58 at hk58 ⊢; subst hk58
  generalize fr 10 = s10 at hrel ⊢
  generalize fr 11 = s11 at hrel ⊢
  obtain ⟨he, i, mm, g2, d2, us, hi, hs1, hs2, hmi, hor⟩ := hrel
  subst hs1
  subst hs2
  have ewr : Hid (Ext w wr) := hide (ew2.out.trans he)
  by_cases hlt : i < n
  · obtain ⟨ad, xs, X, y, z, rfl, hx, gx, hin⟩ := (h.rd.ext ewr.out).at_ hlt
    have hmem := List.mem_of_getElem? hx.out
    have HHx := hide (HH.out wr ewr.out X y z xs hin)
    have hT := restG_take (t := t) hx
    have hyl : y ≤ 12 := by have := hin.len; have := HLe.out xs hmem; omega
    cases hm : hasInt t xs
    · rw [hm, if_neg (by simp), List.append_nil] at hT
      rw [hm] at HHx
      rw [← hT] at hor
      clear hm hx hT hmem
      go_wp2_with fail
      refine HHx.out.mono ?_
      rintro e w4 ⟨rfl, he4⟩
      have hor2 := hide ((hor.out.ext he4).wider he4.size)
      go_wp2_with fail
      exact ⟨⟨(by (repeat (first | exact trivial | refine ⟨rfl, ?_⟩))), he.trans he4, i + 1, mm, g2, d2, us, by omega, by go_num, rfl, by omega, hor2⟩, (by simp [intOf] <;> omega)⟩
    · obtain ⟨p1, p2, p3⟩ := HP.out i xs hx hm
      rw [hm, if_pos rfl] at hT
      rw [hm] at HHx
      have hsx := HSm.out xs hmem
      have HT := hide hT
      have hG := hor.out.slices
      have HWx := hide (fun Wd (E : Ext wr Wd) => HWo.out Wd (ewr.out.trans E) X y z xs (hin.ext E) (by omega) hsx)
      have hswo : Small (woutV xs (t.natAbs : Int)) := fun x hx => hsx x (wout_mem hx)
      have hor1 := hor.out
      have HIx := hide (fun (Wd : World) (E : Ext wr Wd) (B : Option Addr) (m q : Nat) (k : Ints Wd B m (woutV xs (t.natAbs : Int))) =>
        l2Insert_end w.heap.size g2 mm d2 (restG (l.take i) t) us B m q (woutV xs (t.natAbs : Int)) Wd ((hor1.intss (by omega)).ext E) (hor1.outer.ext E) (Own.oneCells hor1.outer hG) k (by omega) p1 p3 hswo p2 (Nat.le_trans (ewr.out.size) E.size))
      clear hm hx hT hmem hor1 hG hsx hswo p1 p2 p3
      go_wp2_with fail
      refine HHx.out.mono ?_
      rintro e w4 ⟨rfl, he4⟩
      have eD := he4.drew
      have d0 := eD.cell gx
      clear HHx
      go_wp2_with fail
      refine wp_region_held_drew (S := (fun w' => w'.cell? (ad.add i) = some (.slice X y z))) (by kernel_rfl) ?_ (fun hHeld => ?_)
      · ((try dsimp only); (assumption))
      refine heldTake 0 (v := ?_) rfl (by kernel_rfl) (by kernel_rfl) (by kernel_rfl) (fun _ _ _ h => h) (Or.inl ⟨by rfl, ?_⟩) (by assumption) ?_
      rotate_left 1
      focus (intro wS hSw; (try dsimp only at hSw); go_simp; (try with_reducible rfl))
      (try simp only [Act.put, List.setIfInBounds_toArray, List.set_cons_zero, List.set_cons_succ])
      refine heldTake 1 (v := ?_) rfl (by kernel_rfl) (by kernel_rfl) (by kernel_rfl) (fun _ _ _ h => h) (Or.inl ⟨by rfl, ?_⟩) (by assumption) ?_
      rotate_left 1
      focus (intro wS hSw; (try dsimp only at hSw); go_simp; (try with_reducible rfl))
      (try simp only [Act.put, List.setIfInBounds_toArray, List.set_cons_zero, List.set_cons_succ])
      refine heldTake 2 (v := ?_) rfl (by kernel_rfl) (by kernel_rfl) (by kernel_rfl) (fun _ _ _ h => h) (Or.inl ⟨by rfl, ?_⟩) (by assumption) ?_
      rotate_left 1
      focus (intro wS hSw; (try dsimp only at hSw); go_simp; (try with_reducible rfl))
      (try simp only [Act.put, List.setIfInBounds_toArray, List.set_cons_zero, List.set_cons_succ])
      refine heldTake 3 (v := ?_) rfl (by kernel_rfl) (by kernel_rfl) (by kernel_rfl) (fun _ _ _ h => h) (Or.inl ⟨by rfl, ?_⟩) (by assumption) ?_
      rotate_left 1
      focus (intro wS hSw; (try dsimp only at hSw); go_simp; (try with_reducible rfl))
      (try simp only [Act.put, List.setIfInBounds_toArray, List.set_cons_zero, List.set_cons_succ])
      refine heldTake 4 (v := ?_) rfl (by kernel_rfl) (by kernel_rfl) (by kernel_rfl) (fun _ _ _ h => h) (Or.inl ⟨by rfl, ?_⟩) (by assumption) ?_
      rotate_left 1
      focus (intro wS hSw; (try dsimp only at hSw); go_simp; (try with_reducible rfl))
      (try simp only [Act.put, List.setIfInBounds_toArray, List.set_cons_zero, List.set_cons_succ])
      refine heldTake 5 (v := ?_) rfl (by kernel_rfl) (by kernel_rfl) (by kernel_rfl) (fun _ _ _ h => h) (Or.inl ⟨by rfl, ?_⟩) (by assumption) ?_
      rotate_left 1
      focus (intro wS hSw; (try dsimp only at hSw); go_simp; (try with_reducible rfl))
      (try simp only [Act.put, List.setIfInBounds_toArray, List.set_cons_zero, List.set_cons_succ])
      refine wpAnyH_ready (rs := [6]) (by kernel_rfl) (by simp) ?_
      refine heldStep 6 rfl (fun K hK => ?_) AllReadyH.nil
      rw [if_pos (by kernel_rfl)]
      (go_wp2_with (first | (go_at_call 108; (with_reducible refine (HV.out _).mono ?_); rintro e5 w5 ⟨rfl, rfl⟩) | (go_at_call 101; (with_reducible refine (HWx.out _ eD).mono ?_); rintro e6 w6 ⟨X6, y6, z6, rfl, ho6, hy6, he6⟩; have ew6 := eD.trans he6; have x0 := he6.cell d0) | (go_at_call 107; (with_reducible refine (HIx.out _ ew6 _ _ _ (ho6.ints (by omega))).mono ?_); rintro e7 w7 ⟨A7, c7, rfl, ho7, he7⟩; have z0 := he7.cell x0; obtain ⟨g7, rfl, hg7, hg8⟩ := ho7.form (by omega))))
      refine hK.out _ _ ?_ (fun hHeld => ?_)
      · ((try dsimp only); (assumption))
      clear hK K
      (try simp only [Act.put, List.setIfInBounds_toArray, List.set_cons_zero, List.set_cons_succ])
      refine wpAnyH_ready (rs := [7]) (by kernel_rfl) (by simp) ?_
      refine heldStep 7 rfl (fun K hK => ?_) AllReadyH.nil
      rw [if_pos (by kernel_rfl)]
      (go_wp2_with (first | (go_at_call 108; (with_reducible refine (HV.out _).mono ?_); rintro e5 w5 ⟨rfl, rfl⟩) | (go_at_call 101; (with_reducible refine (HWx.out _ eD).mono ?_); rintro e6 w6 ⟨X6, y6, z6, rfl, ho6, hy6, he6⟩; have ew6 := eD.trans he6; have x0 := he6.cell d0) | (go_at_call 107; (with_reducible refine (HIx.out _ ew6 _ _ _ (ho6.ints (by omega))).mono ?_); rintro e7 w7 ⟨A7, c7, rfl, ho7, he7⟩; have z0 := he7.cell x0; obtain ⟨g7, rfl, hg7, hg8⟩ := ho7.form (by omega))))
      refine hK.out _ _ ?_ (fun hHeld => ?_)
      · ((try dsimp only); (assumption))
      clear hK K
      (try simp only [Act.put, List.setIfInBounds_toArray, List.set_cons_zero, List.set_cons_succ])
      refine wpAnyH_ready (rs := [8]) (by kernel_rfl) (by simp) ?_
      refine heldStep 8 rfl (fun K hK => ?_) AllReadyH.nil
      rw [if_pos (by kernel_rfl)]
      (go_wp2_with (first | (go_at_call 108; (with_reducible refine (HV.out _).mono ?_); rintro e5 w5 ⟨rfl, rfl⟩) | (go_at_call 101; (with_reducible refine (HWx.out _ eD).mono ?_); rintro e6 w6 ⟨X6, y6, z6, rfl, ho6, hy6, he6⟩; have ew6 := eD.trans he6; have x0 := he6.cell d0) | (go_at_call 107; (with_reducible refine (HIx.out _ ew6 _ _ _ (ho6.ints (by omega))).mono ?_); rintro e7 w7 ⟨A7, c7, rfl, ho7, he7⟩; have z0 := he7.cell x0; obtain ⟨g7, rfl, hg7, hg8⟩ := ho7.form (by omega))))
      refine hK.out _ _ ?_ (fun hHeld => ?_)
      · ((try dsimp only); (assumption))
      clear hK K
      (try simp only [Act.put, List.setIfInBounds_toArray, List.set_cons_zero, List.set_cons_succ])
      refine heldTake 9 (v := ?_) rfl (by kernel_rfl) (by kernel_rfl) (by kernel_rfl) (fun _ _ _ h => h) (Or.inl ⟨by rfl, ?_⟩) (by assumption) ?_
      rotate_left 1
      focus (intro wS hSw; (try dsimp only at hSw); go_simp; (try with_reducible rfl))
      (try simp only [Act.put, List.setIfInBounds_toArray, List.set_cons_zero, List.set_cons_succ])
      refine wpAnyH_done (by kernel_rfl) ?_ _
      have es := eD.size
      have es6 := he6.size
      have es7 := he7.size
      have hs0 := ewr.out.size
      have horz := hor.out.remade ((eD.trans he6).trans he7) hs0 (by omega) ((RowV.ofOwn ((ho6.ext he7).lower es) (by omega))) (ho7.lower (by omega))
      rw [← HT.out] at horz
      have HOZ := hide horz
      clear horz hor ho6 ho7 HT HIx HWx
      go_wp2_with fail
      exact ⟨⟨(by (repeat (first | exact trivial | refine ⟨rfl, ?_⟩))), (he.trans eD).trans (he6.trans he7), i + 1, mm + 1, g7, c7, us ++ [.slice X6 y6 z6], by omega, by go_num, rfl, by omega, HOZ⟩, (by simp [intOf] <;> omega)⟩
  · obtain rfl : i = n := by omega
    have hor2 := hor.out
    rw [List.take_of_length_le (by rw [← HL.out]; exact Nat.le_refl _)] at hor2
    have HOZ := hide hor2
    clear hor hor2
    go_wp2_with fail
    go_ret2
    exact ⟨_, _, _, rfl, ⟨⟨us, HOZ.out⟩, HSz.out⟩, ewr.out⟩
end Go.Proofs.Ytebklankehkmhaa
