/-
  The reference's sorted list of all allowed assignments; no condition.
-/
import Derived.Test.YtaigjmbhgpcalaaF23

namespace Go.Proofs.Ytaigjmbhgpcalaa
set_option linter.unusedSimpArgs false
set_option linter.unusedVariables false
open Go.RowKit
theorem allP_eq {v : Nat} {cls : List (List Int)} {W : Int} (hc : ∀ c ∈ cls, ∀ l ∈ c, l ≠ 0) : (if allowB cls W [] then ([] : List Int) :: prR (allowB cls W) v 1 [] else []) = allP v cls W := by
  have hm := allow_mono (cls := cls) (W := W) hc
  unfold allP
  rw [prR_eq hm v 1 [] Good.nil (by omega), List.filter_cons]
  cases h : allowB cls W []
  · simp only [Bool.false_eq_true, if_false]
    symm
    rw [List.filter_eq_nil_iff]
    intro a ha hal
    have hg := genR_good v 1 [] Good.nil (by omega) a ha
    have := hm _ [] a (by simpa using hg) (by simpa using hal)
    rw [h] at this; cases this
  · rfl
theorem PRows.take {w : World} {lo hi : Nat} {ei : TypeId} {ps : List (Value × List Int)} (h : PRows w lo hi ei ps) (i : Nat) : PRows w lo hi ei (ps.take i) :=
  ⟨fun p hp => h.row p (List.mem_of_mem_take hp), h.apart.sublist (List.take_sublist i ps)⟩
theorem allP_bound {v : Nat} (hv : v ≤ 6) (cls : List (List Int)) (W : Int) : (allP v cls W).length ≤ 729 := by
  refine Nat.le_trans (allP_len v cls W) ?_
  have : v = 0 ∨ v = 1 ∨ v = 2 ∨ v = 3 ∨ v = 4 ∨ v = 5 ∨ v = 6 := by omega
  rcases this with rfl | rfl | rfl | rfl | rfl | rfl | rfl <;> decide
theorem allG_len {v : Nat} (hv : v ≤ 6) (cls : List (List Int)) (W : Int) : (allG v cls W).length ≤ 729 := by
  have := (sortG_perm (allP v cls W)).length_eq
  have := allP_bound hv cls W
  unfold allG; omega
theorem allG_ok {v : Nat} (hv : v ≤ 6) {cls : List (List Int)} {W : Int} : ∀ a ∈ allG v cls W, clauseOk v a = true ∧ allowB cls W a = true := fun a ha => allP_ok (by omega) cls W a (allG_mem.1 ha)
theorem allG_size {v : Nat} (hv : v ≤ 6) (cls : List (List Int)) (W : Int) : rowsSize (allG v cls W) ≤ 1099511627776 := by
  have h1 := rowsTotal_bound (allG v cls W) (fun x hx => by
    have := clause_facts (allG_ok hv x hx).1
    omega)
  have h2 := allG_len hv cls W
  unfold rowsSize
  omega
theorem put_new {ps rs : List (Value × List Int)} {i : Nat} {x : Value × List Int} (hx : ps[i]? = some x) (hn : (ps.map (·.2)).Nodup) (hp : rs.Perm (ps.take i)) : x.2 ∉ rs.map (·.2) := by
  intro h
  have h3 := (hp.map (·.2)).mem_iff.1 h
  rw [List.map_take] at h3
  obtain ⟨j, hj, e⟩ := List.getElem_of_mem h3
  rw [List.getElem_take] at e
  have hjl : j < i := by rw [List.length_take] at hj; omega
  obtain ⟨hil, e1⟩ := List.getElem?_eq_some_iff.1 hx
  have e2 : (ps.map (·.2))[i]'(by simpa using hil) = x.2 := by rw [List.getElem_map, e1]
  exact List.pairwise_iff_getElem.1 hn j i (by simp; omega) (by simpa using hil) hjl (e.trans e2.symm)
/-- One step of putting in order. -/
theorem put_step {ps rs : List (Value × List Int)} {i p : Nat} {x : Value × List Int} (hx : ps[i]? = some x) (hn : (ps.map (·.2)).Nodup) (hp : rs.Perm (ps.take i)) (ha : Asc (rs.map (·.2))) (hpl : p ≤ rs.length)
    (h1 : ∀ (j : Nat) (y : List Int), j < p → (rs.map (·.2))[j]? = some y → befC y x.2 = true) (h2 : ∀ (j : Nat) (y : List Int), p ≤ j → (rs.map (·.2))[j]? = some y → befC y x.2 = false) :
    (rs.take p ++ x :: rs.drop p).Perm (ps.take (i + 1)) ∧ Asc ((rs.take p ++ x :: rs.drop p).map (·.2)) := by
  refine ⟨?_, ?_⟩
  · rw [take_succ_of (hide hx)]
    exact (perm_put rs x p).trans (hp.append_right _)
  · have := asc_put ha (put_new hx hn hp) h1 h2 (by simpa using hpl)
    simpa [List.map_take, List.map_drop] using this
theorem Ints.none0 {w : World} {A : Option Addr} : Ints w A 0 [] := ⟨rfl, by omega, fun h => absurd rfl h⟩
set_option maxRecDepth 100000 in
set_option maxHeartbeats 6400000 in
theorem l13Sorted_c (v : Nat) (W : Int) (C : Option Addr) (nc dc : Nat) (cls : List (List Int)) (w : World) (hcl : Intss w C nc cls) (hc : ∀ c ∈ cls, ∀ x ∈ c, -12 ≤ x ∧ x ≤ 12 ∧ x ≠ 0) (hW : 0 ≤ W ∧ W ≤ 6) (hv : v ≤ 6) :
    Calls Try.prog 25 #[.agg #[.int .i64 v, .slice C nc dc], .int .i64 W] w fun e w' =>
      ∃ (g n c : Nat), e = .returned (.slice (some ⟨g, 0, none⟩) n c) ∧ n ≤ 729 ∧ (∃ us, OwnRows w' w.heap.size w'.heap.size 35 3 (some ⟨g, 0, none⟩) n c (allG v cls W) us) ∧ Ext w w' := by
  have E0 : Hid (Ext w ((w.alloc (.cells #[.int .i64 v, .slice C nc dc] 28)).alloc (.cells #[] 3))) := hide (((Ext.refl w).alloc _).alloc _)
  have HC := hide (l13All_c v W C nc dc cls hc hW hv v 0 (some ⟨w.heap.size + 1, 0, none⟩) 0 0 [] ((w.alloc (.cells #[.int .i64 v, .slice C nc dc] 28)).alloc (.cells #[] 3)) (hcl.ext E0.out) Ints.none0 (by omega) (by omega) (by omega))
  have HR0 : Hid (RowV ((w.alloc (.cells #[.int .i64 v, .slice C nc dc] 28)).alloc (.cells #[] 3)) w.heap.size (w.heap.size + 2) 3 (.slice (some ⟨w.heap.size + 1, 0, none⟩) 0 0) []) := hide
    ⟨_, _, rfl, Own.arr_at #[] 0 [] (by simp) (by simp) (by decide) rfl rfl, by simp, fun k hk => by simp [Value.ownBlock] at hk; omega⟩
  have HE := hide (allP_eq (v := v) (W := W) (fun c h l hl => (hc c h l hl).2.2))
  have HND := hide (allP_nodup v cls W)
  have HOK := hide (fun a ha => clause_small (allP_ok (v := v) (by omega) cls W a ha).1)
  clear hc
  go_enter Try.func25, Try.ntmps25
  go_wp2_with fail
  refine HC.out.mono ?_
  rintro e w1 ⟨g, n, c, ps0, rfl, hn, ho, hp, hs, he1⟩
  obtain ⟨ps, hps⟩ : ∃ ps, ps = hdP (allowB cls W []) (.slice (some ⟨w.heap.size + 1, 0, none⟩) 0 0, []) ++ ps0 := ⟨_, rfl⟩
  have HS : Hid (ps.map (·.2) = allP v cls W) := hide (by
    rw [hps, ← HE.out]
    exact hd_one (by simpa using hs))
  have es1 := he1.size
  have HP : Hid (PRows w1 w.heap.size w1.heap.size 3 ps) := hide (by
    rw [hps]
    exact PRows.append (mid := w.heap.size + 2) (PRows.hd _ (HR0.out.ext he1)) (by simpa using hp) (by omega) (by simpa using es1))
  rw [← hps] at ho
  have HO := hide ho
  have ew1 : Hid (Ext w w1) := hide (E0.out.trans he1)
  have HPL : Hid (ps.length = n) := hide (by have := ho.len; simpa using this)
  clear hs hp ho hps HC HE HR0 E0 he1
  go_wp2_with fail
  refine wp_loopF 26 _ rfl rfl [5, 25] rfl (fun fr wr => Ext w1 wr ∧ ∃ (i g2 d2 : Nat) (rs : List (Value × List Int)), i ≤ n ∧ (fr 7) = .int .i64 i ∧ (fr 6) = .slice (some ⟨g2, 0, none⟩) i d2 ∧ Hid (Own wr w1.heap.size 35 1 (some ⟨g2, 0, none⟩) i d2 (rs.map (·.1))) ∧ Hid (rs.Perm (ps.take i)) ∧ Hid (Asc (rs.map (·.2)))) (fun fr wr => n - (intOf (fr 7)).toNat) ?_ ?_
  · (exact ⟨(Ext.refl _).alloc _, 0, w1.heap.size, 0, [], by omega, rfl, rfl, hide (Own.arr_at #[] 0 [] rfl (Nat.le_refl _) (by decide) rfl rfl), hide (by simp), hide (fun i j p q _ hp => by simp at hp)⟩)
  intro ks fr wr hkept hrel; (try dsimp only at hrel)
  change Code.wp _ _ _ ⟨#[fr 0, fr 1, fr 2, fr 3, fr 4, ks 5, fr 6, fr 7, fr 8, fr 9, fr 10, fr 11, fr 12, fr 13, fr 14, fr 15, fr 16, fr 17, fr 18, fr 19, fr 20, fr 21, fr 22, fr 23, fr 24, ks 25], []⟩ wr
  simp only [KeptV, List.getD_cons_zero, List.getD_cons_succ] at hkept; obtain ⟨hk5, hk25, -⟩ := hkept
  generalize ks 5 = k5 at hk5 ⊢; subst hk5
  generalize ks 25 = k25 at hk25 ⊢; subst hk25
  generalize fr 6 = s6 at hrel ⊢
  generalize fr 7 = s7 at hrel ⊢
  obtain ⟨he, i, g2, d2, rs, hi, hs1, hs2, hor, hpm, hasc⟩ := hrel
  subst hs1
  subst hs2
  have ewr : Hid (Ext w wr) := hide (ew1.out.trans he)
  have esr := he.size
  by_cases hlt : i < n
  · obtain ⟨x, hx⟩ : ∃ x, ps[i]? = some x := ⟨_, List.getElem?_eq_getElem (by rw [HPL.out]; exact hlt)⟩
    obtain ⟨B, d, hxv, hxo, hxl, -⟩ := HP.out.row x (List.mem_of_getElem? hx)
    obtain ⟨xv, xs⟩ := x
    dsimp only at hxv hxo hxl
    subst hxv
    have gx : wr.cell? ⟨g, i, none⟩ = some (.slice B xs.length d) := he.cell (HO.out.cell (by rw [List.getElem?_map, hx]; rfl))
    have hxi := (hxo.ints (by omega)).ext he
    have hms : xs ∈ allP v cls W := by
      rw [← HS.out]; exact List.mem_map.2 ⟨_, List.mem_of_getElem? hx, rfl⟩
    have hrl : rs.length = i := by have := hor.out.len; simpa using this
    have hPR : PRows wr w.heap.size wr.heap.size 3 rs := (((HP.out.ext he).wider esr).take i).perm hpm.out
    have hOR := OwnRows.ofP (hor.out.lower (base' := w.heap.size) (by have := ew1.out.size; omega)) hPR (fun k hk => (hor.out.lt k hk).2)
    have hnew : xs ∉ rs.map (·.2) := put_new hx (by rw [HS.out]; exact HND.out) hpm.out
    have hsm : ∀ y ∈ rs.map (·.2), Small y := by
      intro y hy
      have h3 := (hpm.out.map (·.2)).mem_iff.1 hy
      rw [List.map_take] at h3
      exact HOK.out y (by rw [← HS.out]; exact List.mem_of_mem_take h3)
    have HI := hide (l2Insert_o w1.heap.size g2 i d2 (rs.map (·.2)) (rs.map (·.1)) B xs.length d xs wr (hOR.intss (by omega)) hor.out hPR.slices hxi (by omega) hasc.out hsm (HOK.out xs hms) hnew esr)
    clear hxo hxl hxi hms hPR hOR hsm
    go_wp2_with fail
    refine HI.out.mono ?_
    rintro e w4 ⟨p, A4, c4, hp4, rfl, ho4, hb1, hb2, he4⟩
    obtain ⟨g4, rfl, -, -⟩ := ho4.form (by omega)
    obtain ⟨hP4, hA4⟩ := put_step hx (by rw [HS.out]; exact HND.out) hpm.out hasc.out (p := p) (by omega) hb1 hb2
    have HO4 : Hid (Own w4 w1.heap.size 35 1 (some ⟨g4, 0, none⟩) (i + 1) c4 ((rs.take p ++ (Value.slice B xs.length d, xs) :: rs.drop p).map (·.1))) := hide (by
      have := ho4.lower (base' := w1.heap.size) esr
      simpa [List.map_take, List.map_drop] using this)
    have HP4 := hide hP4
    have HA4 := hide hA4
    clear ho4 hP4 hA4 hb1 hb2 HI hor hpm hasc hnew gx hx
    go_wp2_with fail
    exact ⟨⟨(by (repeat (first | exact trivial | refine ⟨rfl, ?_⟩))), he.trans he4, i + 1, g4, c4, _, by omega, by go_num, rfl, HO4, HP4, HA4⟩, (by simp [intOf] <;> omega)⟩
  · obtain rfl : i = n := by omega
    have HPm : Hid (rs.Perm ps) := hide (by have := hpm.out; rwa [List.take_of_length_le (by rw [HPL.out]; exact Nat.le_refl _)] at this)
    have HG : Hid (rs.map (·.2) = allG v cls W) := hide (by
      have h1 := HPm.out.map (·.2)
      rw [HS.out] at h1
      exact sort_unique HND.out h1 hasc.out.desc)
    have hPR : PRows wr w.heap.size wr.heap.size 3 rs := ((HP.out.ext he).wider esr).perm HPm.out
    have hOR := OwnRows.ofP (hor.out.lower (base' := w.heap.size) (by have := ew1.out.size; omega)) hPR (fun k hk => (hor.out.lt k hk).2)
    rw [HG.out] at hOR
    have HOR := hide hOR
    clear hor hpm hasc hPR hOR
    go_wp2_with fail
    go_ret
    exact ⟨_, _, _, rfl, hn, ⟨_, HOR.out⟩, ewr.out⟩
set_option maxRecDepth 100000 in
set_option maxHeartbeats 6400000 in
theorem spec_AllowedAssignments_o (v W : Int) (C : Option Addr) (nc dc : Nat) (cls : List (List Int)) (w : World) (hcl : Intss w C nc cls) :
    Calls Try.prog 7 #[.agg #[.int .i64 v, .slice C nc dc], .int .i64 W] w fun e w' =>
      ∃ A' n' c', e = .returned (.tuple #[.slice A' n' c', .bool (narOk v cls W)]) ∧ ObR 35 3 w' w.heap.size w'.heap.size A' n' c' (if narOk v cls W then allG v.toNat cls W else []) ∧ Ext w w' := by
  have HN := hide (fun Wd (E : Ext w Wd) => l13Asked_c v W C nc dc cls Wd (hcl.ext E))
  have E0 : Hid (Ext w (w.alloc (.cells #[.int .i64 v, .slice C nc dc] 28))) := hide ((Ext.refl w).alloc _)
  have HR0 := hide (fun (Wd : World) (h : w.heap.size ≤ Wd.heap.size) => (⟨⟨[], (by simpa using OwnRows.lit0 (eo := 35) (ei := 3) h)⟩, by decide⟩ : ObR 35 3 (Wd.alloc (.cells #[] 35)) w.heap.size (Wd.alloc (.cells #[] 35)).heap.size (some ⟨Wd.heap.size, 0, none⟩) 0 0 []))
  cases hn : narOk v cls W
  · rw [hn] at HN; clear hn
    simp only [Bool.false_eq_true, if_false]
    go_enter Try.func7, Try.ntmps7
    go_wp2_with fail
    refine (HN.out _ E0.out).mono ?_
    rintro e1 w1 ⟨rfl, he1⟩
    have ew1 : Hid (Ext w w1) := hide (E0.out.trans he1)
    clear he1
    go_wp2_with fail
    go_ret2
    exact ⟨_, _, _, rfl, HR0.out _ ew1.out.size, ew1.out.alloc _⟩
  · rw [hn] at HN
    obtain ⟨u, rfl, hu⟩ := nar_nat hn
    obtain ⟨-, -, hWb, hc⟩ := nar_facts hn
    have HL := hide (fun Wd (E : Ext w Wd) => l13Sorted_c u W C nc dc cls Wd (hcl.ext E) hc hWb hu)
    have HZ := hide (allG_size hu cls W)
    clear hn hc
    simp only [if_true, Int.toNat_natCast]
    go_enter Try.func7, Try.ntmps7
    go_wp2_with fail
    refine (HN.out _ E0.out).mono ?_
    rintro e1 w1 ⟨rfl, he1⟩
    have ew1 : Hid (Ext w w1) := hide (E0.out.trans he1)
    have bc0 := he1.cell (p := ⟨w.heap.size, 0, none⟩) (u := .int .i64 u) (by first | simp [go_sem] | simp [go_sem, *]); have bf0 := he1.frozen (p := ⟨w.heap.size, 0, none⟩) (by first | omega | (simp <;> omega)) (by first | simp [go_sem] | simp [go_sem, *]); have bc1 := he1.cell (p := ⟨w.heap.size, 1, none⟩) (u := .slice C nc dc) (by first | simp [go_sem] | simp [go_sem, *]); have bf1 := he1.frozen (p := ⟨w.heap.size, 1, none⟩) (by first | omega | (simp <;> omega)) (by first | simp [go_sem] | simp [go_sem, *])
    clear he1
    go_wp2_with fail
    refine (HL.out _ ew1.out).mono ?_
    rintro e2 w2 ⟨g, n, c, rfl, hn, ⟨us, hor⟩, he2⟩
    have HOR := hide (hor.lower ew1.out.size)
    clear hor
    go_wp2_with fail
    go_ret2
    exact ⟨_, _, _, rfl, ⟨⟨us, HOR.out⟩, HZ.out⟩, ew1.out.trans he2⟩
end Go.Proofs.Ytaigjmbhgpcalaa
