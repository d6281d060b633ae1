/-
  The reference's RoundTaken and ShrinkingRounds; no condition.
-/
import Derived.Test.YtaigjmbhgpcalaaF29

namespace Go.Proofs.Ytaigjmbhgpcalaa
set_option linter.unusedSimpArgs false
set_option linter.unusedVariables false
open Go.RowKit
theorem genR_all : ∀ (k : Nat) (u : Int) (c : List Int) (z : Int) (x : List Int), 1 ≤ u → u ≤ (z.natAbs : Int) → (z.natAbs : Int) < u + k → (∀ y ∈ x, (y.natAbs : Int) < u + k) → risesL z.natAbs x → c ++ z :: x ∈ genR k u c
  | 0, u, c, z, x, _, h1, h2, _, _ => by omega
  | k + 1, u, c, z, x, hu, h1, h2, h3, h4 => by
    simp only [genR, List.mem_append, List.mem_cons]
    by_cases e : (z.natAbs : Int) = u
    · have hz : z = u ∨ z = -u := by omega
      have hin : ∀ (d : Int), d = z → c ++ z :: x = c ++ [d] ∨ c ++ z :: x ∈ genR k (u + 1) (c ++ [d]) := by
        rintro d rfl
        cases x with
        | nil => exact .inl rfl
        | cons y x =>
          right
          have h5 : d.natAbs < y.natAbs := h4.1
          have := genR_all k (u + 1) (c ++ [d]) y x (by omega) (by omega) (by have := h3 y (by simp); omega) (fun t ht => by have := h3 t (by simp [ht]); omega) h4.2
          simpa using this
      rcases hz with hz | hz
      · exact .inl (hin u hz.symm)
      · exact .inr (.inl (hin (-u) hz.symm))
    · exact .inr (.inr (genR_all k (u + 1) c z x (by omega) (by omega) (by omega) (fun t ht => by have := h3 t ht; omega) h4))
theorem allG_in {v : Nat} {cls : List (List Int)} {W : Int} {a : List Int} (h1 : clauseOk v a = true) (h2 : allowB cls W a = true) : a ∈ allG v cls W := by
  rw [allG_mem]
  refine List.mem_filter.2 ⟨?_, h2⟩
  obtain ⟨hr, hb⟩ := clauseOk_rises h1
  cases a with
  | nil => simp
  | cons z x =>
    refine List.mem_cons_of_mem _ ?_
    have := genR_all v 1 [] z x (by omega) (by have : 0 < z.natAbs := hr.1; omega) (by have := hb z (by simp); omega) (fun y hy => by have := hb y (by simp [hy]); omega) hr.2
    simpa using this
/-- The round in which an assignment is taken out. -/
noncomputable def rtV (v : Nat) (cls : List (List Int)) (W : Int) (a : List Int) : Int := (rd (keepB v W) (allG v cls W) (stopN (keepB v W) (allG v cls W)) a : Nat)
def rtOk (v W : Int) (cls : List (List Int)) (a : List Int) : Bool := narOk v cls W && (clauseOk v a && allowB cls W a)
noncomputable def rtR (v W : Int) (cls : List (List Int)) (a : List Int) : Int := if rtOk v W cls a then rtV v.toNat cls W a else 0
noncomputable def srR (v W : Int) (cls : List (List Int)) : List Int := if narOk v cls W then cntL (keepB v.toNat W) (allG v.toNat cls W) (stopN (keepB v.toNat W) (allG v.toNat cls W)) else []
set_option maxRecDepth 100000 in
theorem l2At_in (A : Option Addr) (n d : Nat) (l : List (List Int)) (B : Option Addr) (m q : Nat) (c : List Int) (w : World) (h : Intss w A n l) (k : Ints w B m c) (hn : n ≤ 1000) (ha : Asc l) (hl : ∀ x ∈ l, Small x) (hc : Small c) (hm : c ∈ l) :
    Calls Try.prog 52 #[.slice A n d, .slice B m q] w fun e w' => ∃ r : Nat, e = .returned (.int .i64 (r : Int)) ∧ l[r]? = some c ∧ Ext w w' := by
  have HP := hide (l2Place_c A n d l B m q c w h k hn ha hl hc)
  have HA := hide ha
  have hmm := hide (memC_iff.2 hm)
  clear hc ha hl hm
  have hbn := h.bound
  have HL := hide h.len
  go_enter Try.func52, Try.ntmps52
  go_wp2_with fail
  refine HP.out.mono ?_
  rintro e w1 ⟨p, rfl, hpn, hlo, hhi, he1⟩
  have HM := hide ((place_at HA.out hlo hhi).1 hmm.out)
  clear hlo hhi
  have hp : p < n := by have := (List.getElem?_eq_some_iff.1 HM.out).1; rw [← HL.out] at this; exact this
  obtain ⟨ad, xs, X, y, z, rfl, hx, hcx, hin⟩ := (h.ext he1).at_ hp
  have HS := hide (l1Same_c X y z xs B m q c w1 hin (k.ext he1))
  have hxc : xs = c := by have h1 := hx.out; rw [HM.out] at h1; injection h1 with h1; exact h1.symm
  rw [decide_eq_true hxc] at HS
  clear hx hxc
  go_wp2_with fail
  refine HS.out.mono ?_
  rintro e w2 ⟨rfl, he2⟩
  go_wp2_with fail
  go_ret
  exact ⟨p, rfl, HM.out, he1.trans he2⟩
set_option maxRecDepth 100000 in
theorem l13Round_c (gA n cA gR : Nat) (AC : Option Addr) (nC cC : Nat) (AL : Option Addr) (nL cL : Nat) (L : List (List Int)) (R : List Int → Int) (X : Option Addr) (y z : Nat) (a : List Int) (w : World)
    (h : Intss w (some ⟨gA, 0, none⟩) n L) (hr : Ints w (some ⟨gR, 0, none⟩) n (L.map R)) (k : Ints w X y a) (hn : n ≤ 1000) (ha : Asc L) (hl : ∀ x ∈ L, Small x) (hm : a ∈ L) :
    Calls Try.prog 32 #[.agg #[.slice (some ⟨gA, 0, none⟩) n cA, .slice (some ⟨gR, 0, none⟩) n n, .slice AC nC cC, .slice AL nL cL], .slice X y z] w fun e w' => e = .returned (.int .i64 (R a)) ∧ Ext w w' := by
  have E0 : Hid (Ext w (w.alloc (.cells #[.slice (some ⟨gA, 0, none⟩) n cA, .slice (some ⟨gR, 0, none⟩) n n, .slice AC nC cC, .slice AL nL cL] 51))) := hide ((Ext.refl w).alloc _)
  have HAt := hide (l2At_in (some ⟨gA, 0, none⟩) n cA L X y z a _ (h.ext E0.out) (k.ext E0.out) hn ha hl (hl a hm) hm)
  have HR := hide (fun (Wd : World) (E : Ext w Wd) (j : Nat) (x : List Int) (hx : L[j]? = some x) => (by
    have h1 := (hr.ext E).cells j (.int .i64 (R x)) (by rw [List.getElem?_map, List.getElem?_map, hx]; rfl)
    rwa [addr_addN, Nat.zero_add] at h1 : Wd.cell? ⟨gR, j, none⟩ = some (.int .i64 (R x))))
  have HL := hide h.len
  obtain ⟨t, ht⟩ : ∃ t, t = R a := ⟨_, rfl⟩
  rw [← ht]
  have HT := hide ht
  clear h hr k ha hl hm ht
  go_enter Try.func32, Try.ntmps32
  go_wp2_with fail
  refine HAt.out.mono ?_
  rintro e w1 ⟨j, rfl, hj, he1⟩
  have bc0 := he1.cell (p := ⟨w.heap.size, 0, none⟩) (u := .slice (some ⟨gA, 0, none⟩) n cA) (by first | simp [go_sem] | simp [go_sem, *]); have bf0 := he1.frozen (p := ⟨w.heap.size, 0, none⟩) (by first | omega | (simp <;> omega)) (by first | simp [go_sem] | simp [go_sem, *]); have bc1 := he1.cell (p := ⟨w.heap.size, 1, none⟩) (u := .slice (some ⟨gR, 0, none⟩) n n) (by first | simp [go_sem] | simp [go_sem, *]); have bf1 := he1.frozen (p := ⟨w.heap.size, 1, none⟩) (by first | omega | (simp <;> omega)) (by first | simp [go_sem] | simp [go_sem, *])
  have ew1 := hide (E0.out.trans he1)
  have g0 := HR.out w1 ew1.out j a hj
  have hjn : j < n := by have := (List.getElem?_eq_some_iff.1 hj).1; rw [← HL.out] at this; exact this
  have hj0 : ¬ (j : Int) < 0 := by omega
  rw [← HT.out] at g0
  clear hj HR HAt
  go_wp2_with fail
  go_ret
  exact ⟨rfl, ew1.out⟩
set_option maxRecDepth 100000 in
set_option maxHeartbeats 3200000 in
theorem spec_RoundTaken_c (v W : Int) (C : Option Addr) (nc dc : Nat) (cls : List (List Int)) (B : Option Addr) (m q : Nat) (a : List Int) (w : World) (h : Intss w C nc cls) (k : Ints w B m a) :
    Calls Try.prog 15 #[.agg #[.int .i64 v, .slice C nc dc], .int .i64 W, .slice B m q] w fun e w' => e = .returned (.tuple #[.int .i64 (rtR v W cls a), .bool (rtOk v W cls a)]) ∧ Ext w w' := by
  have HN := hide (fun Wd (E : Ext w Wd) => l13Asked_c v W C nc dc cls Wd (h.ext E))
  have HG := hide (fun Wd (E : Ext w Wd) => l3Good_c v B m q a Wd (k.ext E))
  unfold rtR rtOk
  have E0 : Hid (Ext w (w.alloc (.cells #[.int .i64 v, .slice C nc dc] 28))) := hide ((Ext.refl w).alloc _)
  cases hn : narOk v cls W
  · rw [hn] at HN; clear hn
    simp only [Bool.false_and, Bool.false_eq_true, if_false]
    go_enter Try.func15, Try.ntmps15
    go_wp2_with fail
    refine (HN.out _ E0.out).mono ?_
    rintro e1 w1 ⟨rfl, he1⟩
    go_wp2_with fail
    go_ret2
    exact ⟨rfl, E0.out.trans he1⟩
  rw [hn] at HN
  obtain ⟨u, rfl, hu⟩ := nar_nat hn
  obtain ⟨-, -, hWb, hc⟩ := nar_facts hn
  cases hg : clauseOk u a
  · rw [hg] at HG; clear hg hn hc
    simp only [Bool.false_and, Bool.and_false, Bool.false_eq_true, if_false]
    go_enter Try.func15, Try.ntmps15
    go_wp2_with fail
    refine (HN.out _ E0.out).mono ?_
    rintro e1 w1 ⟨rfl, he1⟩
    have ew1 := hide (E0.out.trans he1)
    have bc2 := he1.cell (p := ⟨w.heap.size, 0, none⟩) (u := .int .i64 u) (by first | simp [go_sem] | simp [go_sem, *]); have bf2 := he1.frozen (p := ⟨w.heap.size, 0, none⟩) (by first | omega | (simp <;> omega)) (by first | simp [go_sem] | simp [go_sem, *]); have bc3 := he1.cell (p := ⟨w.heap.size, 1, none⟩) (u := .slice C nc dc) (by first | simp [go_sem] | simp [go_sem, *]); have bf3 := he1.frozen (p := ⟨w.heap.size, 1, none⟩) (by first | omega | (simp <;> omega)) (by first | simp [go_sem] | simp [go_sem, *])
    clear he1
    go_wp2_with fail
    refine (HG.out _ ew1.out).mono ?_
    rintro e2 w2 ⟨rfl, he2⟩
    go_wp2_with fail
    go_ret2
    exact ⟨rfl, ew1.out.trans he2⟩
  rw [hg] at HG
  have HA := hide (fun Wd (E : Ext w Wd) => l13Allowed_c u W C nc dc cls B m q a Wd (h.ext E) (k.ext E) hc hWb)
  cases hal : allowB cls W a
  · rw [hal] at HA; clear hg hn hc hal
    simp only [Bool.and_false, Bool.false_eq_true, if_false]
    go_enter Try.func15, Try.ntmps15
    go_wp2_with fail
    refine (HN.out _ E0.out).mono ?_
    rintro e1 w1 ⟨rfl, he1⟩
    have ew1 := hide (E0.out.trans he1)
    have bc4 := he1.cell (p := ⟨w.heap.size, 0, none⟩) (u := .int .i64 u) (by first | simp [go_sem] | simp [go_sem, *]); have bf4 := he1.frozen (p := ⟨w.heap.size, 0, none⟩) (by first | omega | (simp <;> omega)) (by first | simp [go_sem] | simp [go_sem, *]); have bc5 := he1.cell (p := ⟨w.heap.size, 1, none⟩) (u := .slice C nc dc) (by first | simp [go_sem] | simp [go_sem, *]); have bf5 := he1.frozen (p := ⟨w.heap.size, 1, none⟩) (by first | omega | (simp <;> omega)) (by first | simp [go_sem] | simp [go_sem, *])
    clear he1
    go_wp2_with fail
    refine (HG.out _ ew1.out).mono ?_
    rintro e2 w2 ⟨rfl, he2⟩
    have ew2 := hide (ew1.out.trans he2)
    have y0 := he2.cell bc4
    have y1 := he2.cell bc5
    go_wp2_with fail
    refine (HA.out _ ew2.out).mono ?_
    rintro e3 w3 ⟨rfl, he3⟩
    go_wp2_with fail
    go_ret2
    exact ⟨rfl, ew2.out.trans he3⟩
  rw [hal] at HA
  have hmem := allG_in hg hal
  have HSh := hide (fun Wd (E : Ext w Wd) => l13Shrink_c u W C nc dc cls Wd (h.ext E) hc hWb hu)
  have HOK := hide (fun x hx => clause_small (allG_ok (cls := cls) (W := W) hu x hx).1)
  have HAs := hide (allG_asc u cls W)
  have HLn := hide (allG_len hu cls W)
  have HM := hide hmem
  obtain ⟨t, ht⟩ : ∃ t, t = rtV u cls W a := ⟨_, rfl⟩
  simp only [Bool.and_true, if_true, Int.toNat_natCast]
  rw [← ht]
  have HT := hide ht
  clear hg hn hc hal hmem ht
  go_enter Try.func15, Try.ntmps15
  go_wp2_with fail
  refine (HN.out _ E0.out).mono ?_
  rintro e1 w1 ⟨rfl, he1⟩
  have ew1 := hide (E0.out.trans he1)
  have bc6 := he1.cell (p := ⟨w.heap.size, 0, none⟩) (u := .int .i64 u) (by first | simp [go_sem] | simp [go_sem, *]); have bf6 := he1.frozen (p := ⟨w.heap.size, 0, none⟩) (by first | omega | (simp <;> omega)) (by first | simp [go_sem] | simp [go_sem, *]); have bc7 := he1.cell (p := ⟨w.heap.size, 1, none⟩) (u := .slice C nc dc) (by first | simp [go_sem] | simp [go_sem, *]); have bf7 := he1.frozen (p := ⟨w.heap.size, 1, none⟩) (by first | omega | (simp <;> omega)) (by first | simp [go_sem] | simp [go_sem, *])
  clear he1
  go_wp2_with fail
  refine (HG.out _ ew1.out).mono ?_
  rintro e2 w2 ⟨rfl, he2⟩
  have ew2 := hide (ew1.out.trans he2)
  have y0 := he2.cell bc6
  have y1 := he2.cell bc7
  clear he2
  go_wp2_with fail
  refine (HA.out _ ew2.out).mono ?_
  rintro e3 w3 ⟨rfl, he3⟩
  have ew3 := hide (ew2.out.trans he3)
  have z0 := he3.cell y0
  have z1 := he3.cell y1
  clear he3
  go_wp2_with fail
  refine (HSh.out _ ew3.out).mono ?_
  rintro e4 w4 ⟨gA, n, cA, gR, AC, nC, cC, AL, nL, cL, rfl, ⟨us, hor⟩, hrr, -, he4⟩
  have hn9 : n ≤ 729 := by have h1 := hor.len; have h2 := HLn.out; omega
  have ew4 := hide (ew3.out.trans he4)
  have HRd := hide (l13Round_c gA n cA gR AC nC cC AL nL cL (allG u cls W) (rtV u cls W) B m q a w4 (hor.intss (by omega)) (hrr.ints (by omega)) (k.ext ew4.out) (by omega) HAs.out HOK.out HM.out)
  rw [← HT.out] at HRd
  clear hor hrr he4
  go_wp2_with fail
  refine HRd.out.mono ?_
  rintro e5 w5 ⟨rfl, he5⟩
  go_wp2_with fail
  go_ret2
  exact ⟨rfl, ew4.out.trans he5⟩
theorem field_work (a b c d : Value) (W : World) : Sem.run Try.prog (Instr.field 51 (.agg #[a, b, c, d]) 2) W = .ok c W := by first | kernel_rfl | rfl
set_option maxRecDepth 100000 in
set_option maxHeartbeats 3200000 in
theorem spec_ShrinkingRounds_o (v W : Int) (C : Option Addr) (nc dc : Nat) (cls : List (List Int)) (w : World) (h : Intss w C nc cls) :
    Calls Try.prog 19 #[.agg #[.int .i64 v, .slice C nc dc], .int .i64 W] w fun e w' =>
      ∃ A' n' c', e = .returned (.tuple #[.slice A' n' c', .bool (narOk v cls W)]) ∧ Own w' w.heap.size 3 1 A' n' c' ((srR v W cls).map (Value.int .i64)) ∧ Ext w w' := by
  have HN := hide (fun Wd (E : Ext w Wd) => l13Asked_c v W C nc dc cls Wd (h.ext E))
  have E0 : Hid (Ext w (w.alloc (.cells #[.int .i64 v, .slice C nc dc] 28))) := hide ((Ext.refl w).alloc _)
  unfold srR
  cases hn : narOk v cls W
  · rw [hn] at HN; clear hn
    simp only [Bool.false_eq_true, if_false]
    go_enter Try.func19, Try.ntmps19
    go_wp2_with fail
    refine (HN.out _ E0.out).mono ?_
    rintro e1 w1 ⟨rfl, he1⟩
    have ew1 := hide (E0.out.trans he1)
    clear he1
    go_wp2_with fail
    go_ret2
    exact ⟨_, _, _, rfl, Own.arr_at #[] 0 [] rfl ew1.out.size (by decide) rfl rfl, ew1.out.alloc _⟩
  · rw [hn] at HN
    obtain ⟨u, rfl, hu⟩ := nar_nat hn
    obtain ⟨-, -, hWb, hc⟩ := nar_facts hn
    have HSh := hide (fun Wd (E : Ext w Wd) => l13Shrink_c u W C nc dc cls Wd (h.ext E) hc hWb hu)
    have hfd := field_work
    clear hn hc
    simp only [if_true, Int.toNat_natCast]
    go_enter Try.func19, Try.ntmps19
    go_wp2_with fail
    refine (HN.out _ E0.out).mono ?_
    rintro e1 w1 ⟨rfl, he1⟩
    have ew1 := hide (E0.out.trans he1)
    have bc8 := he1.cell (p := ⟨w.heap.size, 0, none⟩) (u := .int .i64 u) (by first | simp [go_sem] | simp [go_sem, *]); have bf8 := he1.frozen (p := ⟨w.heap.size, 0, none⟩) (by first | omega | (simp <;> omega)) (by first | simp [go_sem] | simp [go_sem, *]); have bc9 := he1.cell (p := ⟨w.heap.size, 1, none⟩) (u := .slice C nc dc) (by first | simp [go_sem] | simp [go_sem, *]); have bf9 := he1.frozen (p := ⟨w.heap.size, 1, none⟩) (by first | omega | (simp <;> omega)) (by first | simp [go_sem] | simp [go_sem, *])
    clear he1
    go_wp2_with fail
    refine (HSh.out _ ew1.out).mono ?_
    rintro e4 w4 ⟨gA, n, cA, gR, AC, nC, cC, AL, nL, cL, rfl, -, -, hoc, he4⟩
    have ew4 := hide (ew1.out.trans he4)
    have HO := hide (hoc.lower ew1.out.size)
    clear hoc he4
    go_wp2_with fail
    go_ret2
    exact ⟨_, _, _, rfl, HO.out, ew4.out⟩
end Go.Proofs.Ytaigjmbhgpcalaa
