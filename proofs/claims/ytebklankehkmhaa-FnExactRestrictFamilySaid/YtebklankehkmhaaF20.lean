/-
  The program's RestrictFamily; no condition.
-/
import Derived.Test.YtebklankehkmhaaF19
namespace Go.Proofs.Ytebklankehkmhaa
set_option linter.unusedSimpArgs false
set_option linter.unusedVariables false
open Go.RowKit
set_option maxRecDepth 100000 in
set_option maxHeartbeats 6400000 in
theorem impl_RestrictFamily_o (v W : Int) (C : Option Addr) (nc dc : Nat) (cls : List (List Int)) (A : Option Addr) (n d : Nat) (l : List (List Int)) (t : Int) (w : World) (hcl : Intss w C nc cls) (h : IntssC w A n l) :
    Calls Try.prog 56 #[.agg #[.int .i64 v, .slice C nc dc], .int .i64 W, .slice A n d, .int .i64 t] w fun e w' =>
      ∃ A' n' c', e = .returned (.tuple #[.slice A' n' c', .bool (restOk v W cls l t)]) ∧ ObR 22 3 w' w.heap.size w'.heap.size A' n' c' (if restOk v W cls l t then restG l t else []) ∧ Ext w w' := by
  have HN := hide (fun Wd (E : Ext w Wd) => narrowOk_c v W C nc dc cls Wd (hcl.ext E))
  have HL := hide h.rd.len
  have hb := h.rd.bound
  have HW := hide (fun Wd => isLiteral_c v t Wd)
  have HR0 := hide (fun (Wd : World) => (⟨⟨[], OwnRows.nil⟩, by decide⟩ : ObR 22 3 Wd w.heap.size Wd.heap.size none 0 0 []))
  cases hn : narOk v cls W
  · have hz : restOk v W cls l t = false := by unfold restOk famR; rw [hn]; rfl
    rw [hz]
    rw [hn] at HN; clear hn hz
    simp only [Bool.false_eq_true, if_false]
    go_enter Try.func56, Try.ntmps56
    go_wp2_with (go_at_call 88; (with_reducible refine (HN.out _ (by (repeat (first | with_reducible exact Ext.refl _ | with_reducible assumption | ((with_reducible refine Ext.setCell ?_ ?_ _); rotate_left; focus (first | omega | (simp <;> omega))) | with_reducible refine Ext.alloc ?_ _ | with_reducible refine Ext.drewN ?_ _ | with_reducible refine Ext.drew ?_ | with_reducible refine Ext.trans ?_ (by with_reducible assumption))))).mono ?_); rintro e1 w1 ⟨rfl, he1⟩)
    go_ret2
    exact ⟨_, _, _, rfl, HR0.out _, by (repeat (first | with_reducible exact Ext.refl _ | with_reducible assumption | ((with_reducible refine Ext.setCell ?_ ?_ _); rotate_left; focus (first | omega | (simp <;> omega))) | with_reducible refine Ext.alloc ?_ _ | with_reducible refine Ext.drewN ?_ _ | with_reducible refine Ext.drew ?_ | with_reducible refine Ext.trans ?_ (by with_reducible assumption)))⟩
  rw [hn] at HN
  obtain ⟨u, rfl, hu⟩ := nar_nat hn
  obtain ⟨-, -, hWb, hc⟩ := nar_facts hn
  have hfr : famR u W cls l = famB u cls W l := by unfold famR; rw [hn, show ((u : Nat) : Int).toNat = u by omega]; rfl
  have HI := hide (fun Wd (E : Ext w Wd) => isFamily_c u W C nc dc cls A n d l Wd (h.rd.ext E) (hcl.ext E) hc hWb hu)
  cases hf : famB u cls W l
  · have hz : restOk u W cls l t = false := by unfold restOk; rw [hfr, hf]; rfl
    rw [hz]
    rw [hf] at HI
    clear hn hc hz hfr hf
    simp only [Bool.false_eq_true, if_false]
    go_enter Try.func56, Try.ntmps56
    go_wp2_with (first | (go_at_call 88; (with_reducible refine (HN.out _ (by (repeat (first | with_reducible exact Ext.refl _ | with_reducible assumption | ((with_reducible refine Ext.setCell ?_ ?_ _); rotate_left; focus (first | omega | (simp <;> omega))) | with_reducible refine Ext.alloc ?_ _ | with_reducible refine Ext.drewN ?_ _ | with_reducible refine Ext.drew ?_ | with_reducible refine Ext.trans ?_ (by with_reducible assumption))))).mono ?_); rintro e1 w1 ⟨rfl, he1⟩; have ew1 : Hid (Ext w w1) := hide (by (repeat (first | with_reducible exact Ext.refl _ | with_reducible assumption | ((with_reducible refine Ext.setCell ?_ ?_ _); rotate_left; focus (first | omega | (simp <;> omega))) | with_reducible refine Ext.alloc ?_ _ | with_reducible refine Ext.drewN ?_ _ | with_reducible refine Ext.drew ?_ | with_reducible refine Ext.trans ?_ (by with_reducible assumption)))); have bc0 := he1.cell (p := ⟨w.heap.size, 0, none⟩) (u := .int .i64 u) (by first | simp [go_sem] | simp [go_sem, *]); have bf0 := he1.frozen (p := ⟨w.heap.size, 0, none⟩) (by first | omega | (simp <;> omega)) (by first | simp [go_sem] | simp [go_sem, *]); have bc1 := he1.cell (p := ⟨w.heap.size, 1, none⟩) (u := .slice C nc dc) (by first | simp [go_sem] | simp [go_sem, *]); have bf1 := he1.frozen (p := ⟨w.heap.size, 1, none⟩) (by first | omega | (simp <;> omega)) (by first | simp [go_sem] | simp [go_sem, *])) | (go_at_call 92; (with_reducible refine (HI.out _ ew1.out).mono ?_); rintro e2 w2 ⟨rfl, he2⟩))
    go_ret2
    exact ⟨_, _, _, rfl, HR0.out _, ew1.out.trans he2⟩
  rw [hf] at HI
  obtain ⟨hoks, hasc⟩ := famR_facts (hfr.trans hf)
  cases hli : isLit u t
  · have hz : restOk u W cls l t = false := by unfold restOk; rw [hli, Bool.and_false]
    rw [hz]
    rw [hli] at HW
    clear hn hc hz hfr hf hli hoks hasc
    simp only [Bool.false_eq_true, if_false]
    go_enter Try.func56, Try.ntmps56
    go_wp2_with (first | (go_at_call 88; (with_reducible refine (HN.out _ (by (repeat (first | with_reducible exact Ext.refl _ | with_reducible assumption | ((with_reducible refine Ext.setCell ?_ ?_ _); rotate_left; focus (first | omega | (simp <;> omega))) | with_reducible refine Ext.alloc ?_ _ | with_reducible refine Ext.drewN ?_ _ | with_reducible refine Ext.drew ?_ | with_reducible refine Ext.trans ?_ (by with_reducible assumption))))).mono ?_); rintro e1 w1 ⟨rfl, he1⟩; have ew1 : Hid (Ext w w1) := hide (by (repeat (first | with_reducible exact Ext.refl _ | with_reducible assumption | ((with_reducible refine Ext.setCell ?_ ?_ _); rotate_left; focus (first | omega | (simp <;> omega))) | with_reducible refine Ext.alloc ?_ _ | with_reducible refine Ext.drewN ?_ _ | with_reducible refine Ext.drew ?_ | with_reducible refine Ext.trans ?_ (by with_reducible assumption)))); have bc2 := he1.cell (p := ⟨w.heap.size, 0, none⟩) (u := .int .i64 u) (by first | simp [go_sem] | simp [go_sem, *]); have bf2 := he1.frozen (p := ⟨w.heap.size, 0, none⟩) (by first | omega | (simp <;> omega)) (by first | simp [go_sem] | simp [go_sem, *]); have bc3 := he1.cell (p := ⟨w.heap.size, 1, none⟩) (u := .slice C nc dc) (by first | simp [go_sem] | simp [go_sem, *]); have bf3 := he1.frozen (p := ⟨w.heap.size, 1, none⟩) (by first | omega | (simp <;> omega)) (by first | simp [go_sem] | simp [go_sem, *])) | (go_at_call 92; (with_reducible refine (HI.out _ ew1.out).mono ?_); rintro e2 w2 ⟨rfl, he2⟩; have y0 := he2.cell bc2; have y1 := he2.cell bc3) | (go_at_call 109; (with_reducible refine (HW.out _).mono ?_); rintro e3 w3 ⟨rfl, rfl⟩))
    go_ret2
    exact ⟨_, _, _, rfl, HR0.out _, ew1.out.trans he2⟩
  have hz : restOk u W cls l t = true := by unfold restOk; rw [hfr, hf, hli]; rfl
  rw [hz]
  rw [hli] at HW
  have hts := lit_small hu hli
  have HV := hide (fun W => abs_c t W)
  rw [absW_small hts] at HV
  have hn7 : n ≤ 729 := by rw [HL.out]; exact famR_len (hfr.trans hf)
  have HH := hide (fun Wd (E : Ext w Wd) (X : Option Addr) (y z : Nat) (xs : List Int) (hi : Ints Wd X y xs) => Contains_int_c X y z t xs Wd hi)
  have HWo := hide (fun Wd (E : Ext w Wd) (X : Option Addr) (y z : Nat) (xs : List Int) (hi : Ints Wd X y xs) (hy : y ≤ 200) (hs : Small xs) => withoutVar_o X y z xs (t.natAbs : Int) Wd hi hs hy)
  have HSz := hide (restG_size (t := t) hoks (by rw [← HL.out]; exact hn7))
  have HSm := hide (fun x hx => clause_small (hoks x hx))
  have HLe := hide (fun x hx => (clause_facts (hoks x hx)).2.2)
  have HSr := hide (restG_small (t := t) hoks)
  have HAs := hide (restG_asc (t := t) l hoks hasc)
  clear hn hc hz hfr hf hli hoks hasc hts HR0
  simp only [if_true]
  go_enter Try.func56, Try.ntmps56
  go_wp2_with fail
  refine (HN.out _ (by (repeat (first | with_reducible exact Ext.refl _ | with_reducible assumption | ((with_reducible refine Ext.setCell ?_ ?_ _); rotate_left; focus (first | omega | (simp <;> omega))) | with_reducible refine Ext.alloc ?_ _ | with_reducible refine Ext.drewN ?_ _ | with_reducible refine Ext.drew ?_ | with_reducible refine Ext.trans ?_ (by with_reducible assumption))))).mono ?_
  rintro e1 w1 ⟨rfl, he1⟩
  have ew1 : Hid (Ext w w1) := hide (by (repeat (first | with_reducible exact Ext.refl _ | with_reducible assumption | ((with_reducible refine Ext.setCell ?_ ?_ _); rotate_left; focus (first | omega | (simp <;> omega))) | with_reducible refine Ext.alloc ?_ _ | with_reducible refine Ext.drewN ?_ _ | with_reducible refine Ext.drew ?_ | with_reducible refine Ext.trans ?_ (by with_reducible assumption))))
  have bc4 := he1.cell (p := ⟨w.heap.size, 0, none⟩) (u := .int .i64 u) (by first | simp [go_sem] | simp [go_sem, *]); have bf4 := he1.frozen (p := ⟨w.heap.size, 0, none⟩) (by first | omega | (simp <;> omega)) (by first | simp [go_sem] | simp [go_sem, *]); have bc5 := he1.cell (p := ⟨w.heap.size, 1, none⟩) (u := .slice C nc dc) (by first | simp [go_sem] | simp [go_sem, *]); have bf5 := he1.frozen (p := ⟨w.heap.size, 1, none⟩) (by first | omega | (simp <;> omega)) (by first | simp [go_sem] | simp [go_sem, *])
  go_wp2_with fail
  refine (HI.out _ ew1.out).mono ?_
  rintro e2 w2 ⟨rfl, he2⟩
  have ew2 : Hid (Ext w w2) := hide (ew1.out.trans he2)
  have y0 := he2.cell bc4
  go_wp2_with fail
  refine (HW.out _).mono ?_
  rintro e3 w3 ⟨rfl, rfl⟩
  clear he1 bc4 bc5 bf4 bf5 y0
  go_wp2_with fail
  refine wp_loopF 51 _ rfl rfl [3, 31, 32, 48, 50] rfl (fun fr wr => Ext w2 wr ∧ ∃ (i mm d2 : Nat) (A2 : Option Addr) (us : List Value), i ≤ n ∧ (fr 33) = .int .i64 i ∧ (fr 10) = .slice A2 mm d2 ∧ mm ≤ i ∧ Hid (OwnRows wr w2.heap.size wr.heap.size 22 3 A2 mm d2 (restG (l.take i) t) us)) (fun fr wr => n - (intOf (fr 33)).toNat) ?_ ?_
  · (exact ⟨Ext.refl _, 0, 0, _, _, [], by omega, rfl, rfl, Nat.le_refl _, hide OwnRows.nil⟩)
  intro ks fr wr hkept hrel; (try dsimp only at hrel)
  change Code.wp _ _ _ ⟨#[fr 0, fr 1, fr 2, ks 3, fr 4, fr 5, fr 6, fr 7, fr 8, fr 9, fr 10, fr 11, fr 12, fr 13, fr 14, fr 15, fr 16, fr 17, fr 18, fr 19, fr 20, fr 21, fr 22, fr 23, fr 24, fr 25, fr 26, fr 27, fr 28, fr 29, fr 30, ks 31, ks 32, fr 33, fr 34, fr 35, fr 36, fr 37, fr 38, fr 39, fr 40, fr 41, fr 42, fr 43, fr 44, fr 45, fr 46, fr 47, ks 48, fr 49, ks 50], []⟩ wr
  simp only [KeptV, List.getD_cons_zero, List.getD_cons_succ] at hkept; obtain ⟨hk3, hk31, hk32, hk48, hk50, -⟩ := hkept
  generalize ks 3 = k3 at hk3 ⊢; subst hk3
  generalize ks 31 = k31 at hk31 ⊢; subst hk31
  generalize ks 32 = k32 at hk32 ⊢; subst hk32
  generalize ks 48 = k48 at hk48 ⊢; subst hk48
  generalize ks 50 = k50 at hk50 ⊢; subst hk50
  generalize fr 10 = s10 at hrel ⊢
  generalize fr 33 = s33 at hrel ⊢
  obtain ⟨he, i, mm, d2, A2, us, hi, hs1, hs2, hmi, hor⟩ := hrel
  subst hs1
  subst hs2
  have ewr : Hid (Ext w wr) := hide (ew2.out.trans he)
  by_cases hlt : i < n
  · obtain ⟨ad, xs, X, y, z, rfl, hx, gx, hin⟩ := (h.rd.ext ewr.out).at_ hlt
    have hmem := List.mem_of_getElem? hx.out
    have HHx := hide (HH.out wr ewr.out X y z xs hin)
    have hT := restG_take (t := t) hx
    have hyl : y ≤ 12 := by have := hin.len; have := HLe.out xs hmem; omega
    cases hm : hasInt t xs
    · rw [hm, if_neg (by simp), List.append_nil] at hT
      rw [hm] at HHx
      rw [← hT] at hor
      clear hm hx hT hmem
      go_wp2_with fail
      refine HHx.out.mono ?_
      rintro e w4 ⟨rfl, he4⟩
      have hor2 := hide ((hor.out.ext he4).wider he4.size)
      go_wp2_with fail
      exact ⟨⟨(by (repeat (first | exact trivial | refine ⟨rfl, ?_⟩))), he.trans he4, i + 1, mm, d2, A2, us, by omega, by go_num, rfl, by omega, hor2⟩, (by simp [intOf] <;> omega)⟩
    · rw [hm, if_pos rfl] at hT
      rw [hm] at HHx
      have hsx := HSm.out xs hmem
      have HT := hide hT
      have HWx := hide (fun Wd (E : Ext wr Wd) => HWo.out Wd (ewr.out.trans E) X y z xs (hin.ext E) (by omega) hsx)
      clear hm hx hT hmem hsx
      go_wp2_with fail
      refine HHx.out.mono ?_
      rintro e w4 ⟨rfl, he4⟩
      go_wp2_with fail
      refine (HV.out _).mono ?_
      rintro e5 w5 ⟨rfl, rfl⟩
      go_wp2_with fail
      refine (HWx.out _ he4).mono ?_
      rintro e6 w6 ⟨X6, y6, z6, rfl, ho6, hy6, he6⟩
      have ew6 := he4.trans he6
      have how := hor.out.outer.ext ew6
      have es := he4.size
      have es6 := he6.size
      have es0 := he.size
      clear HHx HWx
      go_wp2_with (at_builtin; refine wpList_app rfl _ _ _ _ rfl Try.underlying33 _ 1 24 info_ints rfl (by decide) rfl how 1 [.slice X6 y6 z6] (by first | rfl | simp [go_sem]) rfl ?_ ?_ ?_ ?_ ?_; (intro u hu; simp at hu; first | (subst hu; rfl) | (rcases hu with rfl | rfl <;> rfl) | (rcases hu with rfl | rfl | rfl <;> rfl) | (rcases hu with rfl | rfl | rfl | rfl <;> rfl) | (rcases hu with rfl | rfl | rfl | rfl | rfl <;> rfl) | (rcases hu with rfl | rfl | rfl | rfl | rfl | rfl <;> rfl)); omega; omega; (first | omega | (simp; omega)); intro A' c' w' ho' hg' hb')
      have hgs := hg'.size
      have horz := (hor.out.ext ew6).push (by decide) es0 (by omega) hgs ((RowV.ofOwn (ho6.lower es) (by omega))) ho' hg'
      rw [← HT.out] at horz
      have HOZ := hide horz
      have hE := Ext.trans_own (he.trans ew6) (Nat.le_refl _) how hg'
      clear horz hor ho6 HT how hg' ho'
      exact ⟨⟨(by (repeat (first | exact trivial | refine ⟨rfl, ?_⟩))), hE, i + 1, mm + 1, c', A', us ++ [.slice X6 y6 z6], by omega, by go_num, rfl, by omega, HOZ⟩, (by simp [intOf] <;> omega)⟩
  · obtain rfl : i = n := by omega
    have hor2 := hor.out
    rw [List.take_of_length_le (by rw [← HL.out]; exact Nat.le_refl _)] at hor2
    have HOZ := hide hor2
    have hsz := ew2.out.size
    clear hor hor2
    by_cases hm0 : mm = 0
    · subst hm0
      have HS := hide (fun W => SortFunc_nil A2 d2 (.func (.func 112) #[] #[]) W)
      go_wp2_with fail
      refine (HS.out _).mono ?_
      rintro e w5 ⟨rfl, rfl⟩
      go_wp2_with fail
      go_ret2
      exact ⟨_, _, _, rfl, ⟨⟨us, HOZ.out.lower hsz⟩, HSz.out⟩, ewr.out⟩
    · obtain ⟨g, rfl, hg1, hg2⟩ := HOZ.out.outer.form (by omega)
      have HS := hide (SortFunc_rows _ _ g mm d2 _ us _ HOZ.out HSr.out (by omega))
      go_wp2_with fail
      refine HS.out.mono ?_
      rintro e w5 ⟨rfl, xss', us', hp, hd, ho5, hg5⟩
      have hq := desc_unique hp hd HAs.out
      subst hq
      have hE := ewr.out.grown hg5 (fun k hk => by injection hk with hk; omega)
      have HO5 := hide ((ho5.lower hsz).wider hg5.size)
      clear hp hd ho5 hg5 HS HOZ
      go_wp2_with fail
      go_ret2
      exact ⟨_, _, _, rfl, ⟨⟨us', HO5.out⟩, HSz.out⟩, hE⟩
end Go.Proofs.Ytebklankehkmhaa
