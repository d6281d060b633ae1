/-
  The game's tables in memory; the program's method fill.
-/
import Derived.Test.YtmpfhibncnamnaaC42
import Derived.Deep.DeepCutAuto
namespace Go.Proofs.Ytmpfhibncnamnaa
set_option linter.unusedSimpArgs false
set_option linter.unusedVariables false
open Go.RowKit

def natInts (vs : List Nat) : List Int := vs.map fun v : Nat => (v : Int)
structure TabAt (w : World) (L g1 g2 g3 N : Nat) (T : Tab) : Prop where
  o1 : BoxAt w g1 3 (T.sc.map (Value.int .i64)).toArray
  o2 : BoxAt w g2 3 (T.sz.map (Value.int .i64)).toArray
  o3 : BoxAt w g3 3 (T.ht.map (Value.int .i64)).toArray
  full : T.Full N
  ne : g1 ≠ g2 ∧ g1 ≠ g3 ∧ g2 ≠ g3
  lo : L ≤ g1 ∧ L ≤ g2 ∧ L ≤ g3
theorem TabAt.ext {w w' : World} {L g1 g2 g3 N : Nat} {T : Tab} (h : TabAt w L g1 g2 g3 N T) (he : Ext w w') : TabAt w' L g1 g2 g3 N T := ⟨h.o1.ext he, h.o2.ext he, h.o3.ext he, h.full, h.ne, h.lo⟩
theorem list_cell {xs : List Int} {k : Nat} (hk : k < xs.length) : (xs.map (Value.int .i64)).toArray[k]? = some (.int .i64 (xs.getD k 0)) := by
  rw [List.getElem?_toArray, List.getElem?_map, List.getD_eq_getElem?_getD, List.getElem?_eq_getElem hk]; rfl
theorem TabAt.sc {w : World} {L g1 g2 g3 N : Nat} {T : Tab} (h : TabAt w L g1 g2 g3 N T) {k : Nat} (hk : k < N) : w.cell? ⟨g1, k, none⟩ = some (.int .i64 (T.sc.getD k 0)) := h.o1.cell k _ (list_cell (by have := h.full.sc; omega))
theorem TabAt.sz {w : World} {L g1 g2 g3 N : Nat} {T : Tab} (h : TabAt w L g1 g2 g3 N T) {k : Nat} (hk : k < N) : w.cell? ⟨g2, k, none⟩ = some (.int .i64 (T.sz.getD k 0)) := h.o2.cell k _ (list_cell (by have := h.full.sz; omega))
theorem TabAt.ht {w : World} {L g1 g2 g3 N : Nat} {T : Tab} (h : TabAt w L g1 g2 g3 N T) {k : Nat} (hk : k < N) : w.cell? ⟨g3, k, none⟩ = some (.int .i64 (T.ht.getD k 0)) := h.o3.cell k _ (list_cell (by have := h.full.ht; omega))
theorem map_set_arr (xs : List Int) (k : Nat) (x : Int) : (xs.map (Value.int .i64)).toArray.setIfInBounds k (.int .i64 x) = ((xs.set k x).map (Value.int .i64)).toArray := by
  rw [List.map_set, List.setIfInBounds_toArray]
theorem TabAt.setSc {w : World} {L g1 g2 g3 N k : Nat} {T : Tab} {a b c : Int} (h : TabAt w L g1 g2 g3 N (T.put k (a, b, c))) (x : Int) : TabAt (w.setCell ⟨g1, k, none⟩ (.int .i64 x)) L g1 g2 g3 N (T.put k (x, b, c)) := by
  have h1 := h.o1.set k (.int .i64 x)
  rw [map_set_arr] at h1
  simp only [Tab.put, List.set_set] at h1
  exact ⟨h1, h.o2.setOther (by have := h.ne; simp; omega) _, h.o3.setOther (by have := h.ne; simp; omega) _, ⟨by simpa [Tab.put] using h.full.sc, by simpa [Tab.put] using h.full.sz, by simpa [Tab.put] using h.full.ht⟩, h.ne, h.lo⟩
theorem TabAt.setSz {w : World} {L g1 g2 g3 N k : Nat} {T : Tab} {a b c : Int} (h : TabAt w L g1 g2 g3 N (T.put k (a, b, c))) (x : Int) : TabAt (w.setCell ⟨g2, k, none⟩ (.int .i64 x)) L g1 g2 g3 N (T.put k (a, x, c)) := by
  have h1 := h.o2.set k (.int .i64 x)
  rw [map_set_arr] at h1
  simp only [Tab.put, List.set_set] at h1
  exact ⟨h.o1.setOther (by have := h.ne; simp; omega) _, h1, h.o3.setOther (by have := h.ne; simp; omega) _, ⟨by simpa [Tab.put] using h.full.sc, by simpa [Tab.put] using h.full.sz, by simpa [Tab.put] using h.full.ht⟩, h.ne, h.lo⟩
theorem TabAt.setHt {w : World} {L g1 g2 g3 N k : Nat} {T : Tab} {a b c : Int} (h : TabAt w L g1 g2 g3 N (T.put k (a, b, c))) (x : Int) : TabAt (w.setCell ⟨g3, k, none⟩ (.int .i64 x)) L g1 g2 g3 N (T.put k (a, b, x)) := by
  have h1 := h.o3.set k (.int .i64 x)
  rw [map_set_arr] at h1
  simp only [Tab.put, List.set_set] at h1
  exact ⟨h.o1.setOther (by have := h.ne; simp; omega) _, h.o2.setOther (by have := h.ne; simp; omega) _, h1, ⟨by simpa [Tab.put] using h.full.sc, by simpa [Tab.put] using h.full.sz, by simpa [Tab.put] using h.full.ht⟩, h.ne, h.lo⟩
theorem TabAt.setOther {w : World} {L g1 g2 g3 N : Nat} {T : Tab} (h : TabAt w L g1 g2 g3 N T) {p : Addr} (u : Value) (h1 : g1 ≠ p.block) (h2 : g2 ≠ p.block) (h3 : g3 ≠ p.block) : TabAt (w.setCell p u) L g1 g2 g3 N T :=
  ⟨h.o1.setOther h1 _, h.o2.setOther h2 _, h.o3.setOther h3 _, h.full, h.ne, h.lo⟩
theorem put_at_sc {T : Tab} {N k : Nat} {a b c : Int} (h : (T.put k (a, b, c)).Full N) (hk : k < N) : (T.put k (a, b, c)).sc.getD k 0 = a := getD_set_eq _ (by have := h.sc; simp [Tab.put] at this; omega) _ _
theorem put_at_sz {T : Tab} {N k : Nat} {a b c : Int} (h : (T.put k (a, b, c)).Full N) (hk : k < N) : (T.put k (a, b, c)).sz.getD k 0 = b := getD_set_eq _ (by have := h.sz; simp [Tab.put] at this; omega) _ _
theorem put_at_ht {T : Tab} {N k : Nat} {a b c : Int} (h : (T.put k (a, b, c)).Full N) (hk : k < N) : (T.put k (a, b, c)).ht.getD k 0 = c := getD_set_eq _ (by have := h.ht; simp [Tab.put] at this; omega) _ _
theorem put_no_sc {T : Tab} {k j : Nat} {c : Int × Int × Int} (h : k ≠ j) : (T.put k c).sc.getD j 0 = T.sc.getD j 0 := getD_set_ne _ h _ _
theorem put_no_sz {T : Tab} {k j : Nat} {c : Int × Int × Int} (h : k ≠ j) : (T.put k c).sz.getD j 0 = T.sz.getD j 0 := getD_set_ne _ h _ _
theorem put_no_ht {T : Tab} {k j : Nat} {c : Int × Int × Int} (h : k ≠ j) : (T.put k c).ht.getD j 0 = T.ht.getD j 0 := getD_set_ne _ h _ _
theorem BoxAt.ints {w : World} {g N : Nat} {xs : List Int} (h : BoxAt w g 3 (xs.map (Value.int .i64)).toArray) (hl : xs.length = N) (hb : N ≤ 9223372036854775807) : Ints w (some ⟨g, 0, none⟩) N xs :=
  ⟨hl.symm, hb, fun _ => ⟨_, rfl, fun j u hu => by
    have := h.cell j u (by rw [List.getElem?_toArray]; exact hu)
    cases j
    · exact this
    · simpa [Addr.add] using this⟩⟩

structure GameAt (w : World) (L b g0 g1 g2 g3 : Nat) (v : Int) (A : Option Addr) (m d N : Nat) (ov : List Bool) (T : Tab) : Prop where
  box : BoxAt w b 70 #[.int .i64 v, .slice A m d, .slice (some ⟨g0, 0, none⟩) N N, .slice (some ⟨g1, 0, none⟩) N N, .slice (some ⟨g2, 0, none⟩) N N, .slice (some ⟨g3, 0, none⟩) N N]
  over : BoxAt w g0 4 (ov.map Value.bool).toArray
  tab : TabAt w L g1 g2 g3 N T
  len : ov.length = N
  ne : b ≠ g0 ∧ b ≠ g1 ∧ b ≠ g2 ∧ b ≠ g3 ∧ g0 ≠ g1 ∧ g0 ≠ g2 ∧ g0 ≠ g3
  lo : L ≤ b ∧ L ≤ g0
theorem GameAt.ext {w w' : World} {L b g0 g1 g2 g3 : Nat} {v : Int} {A : Option Addr} {m d N : Nat} {ov : List Bool} {T : Tab} (h : GameAt w L b g0 g1 g2 g3 v A m d N ov T) (he : Ext w w') : GameAt w' L b g0 g1 g2 g3 v A m d N ov T :=
  ⟨h.box.ext he, h.over.ext he, h.tab.ext he, h.len, h.ne, h.lo⟩
theorem GameAt.setSc {w : World} {L b g0 g1 g2 g3 : Nat} {v : Int} {A : Option Addr} {m d N k : Nat} {ov : List Bool} {T : Tab} {x y z : Int} (h : GameAt w L b g0 g1 g2 g3 v A m d N ov (T.put k (x, y, z))) (u : Int) : GameAt (w.setCell ⟨g1, k, none⟩ (.int .i64 u)) L b g0 g1 g2 g3 v A m d N ov (T.put k (u, y, z)) :=
  ⟨h.box.setOther (by have := h.ne; simp; omega) _, h.over.setOther (by have := h.ne; simp; omega) _, h.tab.setSc u, h.len, h.ne, h.lo⟩
theorem GameAt.setSz {w : World} {L b g0 g1 g2 g3 : Nat} {v : Int} {A : Option Addr} {m d N k : Nat} {ov : List Bool} {T : Tab} {x y z : Int} (h : GameAt w L b g0 g1 g2 g3 v A m d N ov (T.put k (x, y, z))) (u : Int) : GameAt (w.setCell ⟨g2, k, none⟩ (.int .i64 u)) L b g0 g1 g2 g3 v A m d N ov (T.put k (x, u, z)) :=
  ⟨h.box.setOther (by have := h.ne; simp; omega) _, h.over.setOther (by have := h.ne; simp; omega) _, h.tab.setSz u, h.len, h.ne, h.lo⟩
theorem GameAt.setHt {w : World} {L b g0 g1 g2 g3 : Nat} {v : Int} {A : Option Addr} {m d N k : Nat} {ov : List Bool} {T : Tab} {x y z : Int} (h : GameAt w L b g0 g1 g2 g3 v A m d N ov (T.put k (x, y, z))) (u : Int) : GameAt (w.setCell ⟨g3, k, none⟩ (.int .i64 u)) L b g0 g1 g2 g3 v A m d N ov (T.put k (x, y, u)) :=
  ⟨h.box.setOther (by have := h.ne; simp; omega) _, h.over.setOther (by have := h.ne; simp; omega) _, h.tab.setHt u, h.len, h.ne, h.lo⟩
theorem GameAt.setOv {w : World} {L b g0 g1 g2 g3 : Nat} {v : Int} {A : Option Addr} {m d N : Nat} {ov : List Bool} {T : Tab} (h : GameAt w L b g0 g1 g2 g3 v A m d N ov T) (k : Nat) (u : Bool) : GameAt (w.setCell ⟨g0, k, none⟩ (.bool u)) L b g0 g1 g2 g3 v A m d N (ov.set k u) T := by
  have h1 := h.over.set k (.bool u)
  rw [List.setIfInBounds_toArray, ← List.map_set] at h1
  exact ⟨h.box.setOther (by have := h.ne; simp; omega) _, h1, h.tab.setOther _ (by have := h.ne; simp; omega) (by have := h.ne; simp; omega) (by have := h.ne; simp; omega), by simpa using h.len, h.ne, h.lo⟩
theorem GameAt.ov {w : World} {L b g0 g1 g2 g3 : Nat} {v : Int} {A : Option Addr} {m d N : Nat} {ov : List Bool} {T : Tab} (h : GameAt w L b g0 g1 g2 g3 v A m d N ov T) {k : Nat} (hk : k < N) : w.cell? ⟨g0, k, none⟩ = some (.bool (ov.getD k false)) := by
  have hl := h.len
  refine h.over.cell k _ ?_
  rw [List.getElem?_toArray, List.getElem?_map, List.getD_eq_getElem?_getD, List.getElem?_eq_getElem (by omega)]; rfl
theorem gSt_take {T : Tab} {code : Nat} {vs : List Nat} {k v : Nat} (hv : Hid (vs[k]? = some v)) : (gSt T code (vs.take (k + 1))).2 = gLess (decide (k = 0)) (gOne T code v) (gSt T code (vs.take k)).2 := by
  have hl := (List.getElem?_eq_some_iff.1 hv.out).1
  rw [take_succ_of hv, gSt_snoc]
  simp only []
  rw [gSt_first, List.length_take, show min k vs.length = k by omega]

set_option maxRecDepth 100000 in
set_option maxHeartbeats 4000000 in
theorem fill_c (L b g0 g1 g2 g3 code n N : Nat) (A : Option Addr) (m d : Nat) (cls : List (List Int)) (ov : List Bool) (T : Tab) (w0 w : World) (hI : Intss w0 A m cls) (he0 : Ext w0 w) (hL : w0.heap.size ≤ L)
    (hG : GameAt w L b g0 g1 g2 g3 n A m d N ov T) (hn : n ≤ 6) (hN : N = pow3 n) (hc : code < N) (hT : T.at_ code = (0, 0, 0)) (hm : m ≤ 60) (hcl : ∀ c ∈ cls, ∀ x ∈ c, -12 ≤ x ∧ x ≤ 12 ∧ x ≠ 0) :
    Calls Try.prog 102 #[.pointer (some ⟨b, 0, none⟩), .int .i64 code] w fun e w' =>
      e = .returned (.tuple #[]) ∧ GameAt w' L b g0 g1 g2 g3 n A m d N (if falseAny cls (codeLits n 1 code) then ov.set code true else ov) (T.put code (gRow n cls T code)) ∧ Ext w0 w' := by
  have hN6 : N ≤ 729 := by have := pow3_mono hn; have h6 : pow3 6 = 729 := rfl; omega
  have HCL := hide hcl
  clear hcl
  have HN := hide hN
  clear hN
  have c0 := hG.box.cell 0 (.int .i64 n) rfl
  have c1 := hG.box.cell 1 (.slice A m d) rfl
  have c2 := hG.box.cell 2 (.slice (some ⟨g0, 0, none⟩) N N) rfl
  have c4 := hG.box.cell 4 (.slice (some ⟨g2, 0, none⟩) N N) rfl
  have hTself := Tab.put_self hT
  cases hfa : falseAny cls (codeLits n 1 code)
  · have hrow : gRow n cls T code = (gSt T code (opens n code)).2 := by simp [gRow, hfa]
    rw [hrow]
    simp only [Bool.false_eq_true, if_false]
    have HF := hide hfa
    clear hfa hrow
    have hol : openList n (codeLits n 1 code) = natInts (opens n code) := openList_code
    have HOL := hide hol
    clear hol
    have HT := hide hTself
    clear hTself
    go_enter Try.func102, Try.ntmps102
    go_wp2_with fail
    refine (ofCode_c n code _ hn (by omega)).mono ?_
    rintro e w1 ⟨X1, y1, z1, rfl, ho1, hy1, he1⟩
    have d0 := he1.cell c0; have d1 := he1.cell c1
    go_wp2_with fail
    refine (falseClauses_c A m d cls X1 y1 z1 (codeLits n 1 code) _ (hI.ext (by (repeat (first | with_reducible exact Ext.refl _ | with_reducible assumption | ((with_reducible refine Ext.setCell ?_ ?_ _); rotate_left; focus (first | omega | (simp <;> omega))) | with_reducible refine Ext.alloc ?_ _ | with_reducible refine Ext.drewN ?_ _ | with_reducible refine Ext.drew ?_ | with_reducible refine Ext.trans ?_ (by with_reducible assumption))))) (ho1.ints (by omega)) hm HCL.out).mono ?_
    rw [HF.out]
    rintro e w2 ⟨X2, y2, z2, rfl, hy2, hq2, he2⟩
    have hy0 : y2 = 0 := by simpa using hq2
    subst hy0
    clear d0 d1 hq2
    have d0 := he2.cell (he1.cell c0)
    go_wp2_with fail
    refine (openVars_c n X1 y1 z1 (codeLits n 1 code) _ ((ho1.ints (by omega)).ext (by (repeat (first | with_reducible exact Ext.refl _ | with_reducible assumption | ((with_reducible refine Ext.setCell ?_ ?_ _); rotate_left; focus (first | omega | (simp <;> omega))) | with_reducible refine Ext.alloc ?_ _ | with_reducible refine Ext.drewN ?_ _ | with_reducible refine Ext.drew ?_ | with_reducible refine Ext.trans ?_ (by with_reducible assumption))))) (by omega)).mono ?_
    rintro e w3 ⟨X, y, z, rfl, ho, hyn, he3⟩
    rw [HOL.out] at ho
    have hG3 := hG.ext (w' := w3) (by (repeat (first | with_reducible exact Ext.refl _ | with_reducible assumption | ((with_reducible refine Ext.setCell ?_ ?_ _); rotate_left; focus (first | omega | (simp <;> omega))) | with_reducible refine Ext.alloc ?_ _ | with_reducible refine Ext.drewN ?_ _ | with_reducible refine Ext.drew ?_ | with_reducible refine Ext.trans ?_ (by with_reducible assumption))))
    have hE3 : Ext w0 w3 := by (repeat (first | with_reducible exact Ext.refl _ | with_reducible assumption | ((with_reducible refine Ext.setCell ?_ ?_ _); rotate_left; focus (first | omega | (simp <;> omega))) | with_reducible refine Ext.alloc ?_ _ | with_reducible refine Ext.drewN ?_ _ | with_reducible refine Ext.drew ?_ | with_reducible refine Ext.trans ?_ (by with_reducible assumption)))
    have hbs := hG.box.lt
    have hg1 := hG.tab.o1.lt
    have hg2 := hG.tab.o2.lt
    have hg3 := hG.tab.o3.lt
    have hsz3 : w.heap.size ≤ w2.heap.size := by have h1 := he1.size; have h2 := he2.size; omega
    have ho := ho.lower hsz3
    have hyl : y = (opens n code).length := by have := ho.len; simpa [natInts] using this.symm
    have HYL := hide hyl
    clear hyl
    rw [← HT.out] at hG3
    go_wp2_with fail
    refine wp_loopF 161 _ rfl rfl [0, 1, 2, 46, 47] rfl (fun fr wr => Ext w0 wr ∧ Own wr w.heap.size 3 1 X y z ((natInts (opens n code)).map (Value.int .i64)) ∧ ∃ k : Nat, k ≤ y ∧ (fr 48) = .int .i64 k ∧ ∃ x1 x2 x3, GameAt wr L b g0 g1 g2 g3 n A m d N ov (T.put code (x1, x2, x3)) ∧ Hid ((x1, x2, x3) = (gSt T code ((opens n code).take k)).2)) (fun fr wr => y - (intOf (fr 48)).toNat) ?_ ?_
    · (exact ⟨hE3, ho, 0, by omega, rfl, 0, 0, 0, hG3, rfl⟩)
    intro ks fr wr hkept hrel; (try dsimp only at hrel)
    change Code.wp _ _ _ ⟨#[ks 0, ks 1, ks 2, fr 3, fr 4, fr 5, fr 6, fr 7, fr 8, fr 9, fr 10, fr 11, fr 12, fr 13, fr 14, fr 15, fr 16, fr 17, fr 18, fr 19, fr 20, fr 21, fr 22, fr 23, fr 24, fr 25, fr 26, fr 27, fr 28, fr 29, fr 30, fr 31, fr 32, fr 33, fr 34, fr 35, fr 36, fr 37, fr 38, fr 39, fr 40, fr 41, fr 42, fr 43, fr 44, fr 45, ks 46, ks 47, fr 48, fr 49, fr 50, fr 51, fr 52, fr 53, fr 54, fr 55, fr 56, fr 57, fr 58, fr 59, fr 60, fr 61, fr 62, fr 63, fr 64, fr 65, fr 66, fr 67, fr 68, fr 69, fr 70, fr 71, fr 72, fr 73, fr 74, fr 75, fr 76, fr 77, fr 78, fr 79, fr 80, fr 81, fr 82, fr 83, fr 84, fr 85, fr 86, fr 87, fr 88, fr 89, fr 90, fr 91, fr 92, fr 93, fr 94, fr 95, fr 96, fr 97, fr 98, fr 99, fr 100, fr 101, fr 102, fr 103, fr 104, fr 105, fr 106, fr 107, fr 108, fr 109, fr 110, fr 111, fr 112, fr 113, fr 114, fr 115, fr 116, fr 117, fr 118, fr 119, fr 120, fr 121, fr 122, fr 123, fr 124, fr 125, fr 126, fr 127, fr 128, fr 129, fr 130, fr 131, fr 132, fr 133, fr 134, fr 135, fr 136, fr 137, fr 138, fr 139, fr 140, fr 141, fr 142, fr 143, fr 144, fr 145, fr 146, fr 147, fr 148, fr 149, fr 150, fr 151, fr 152, fr 153, fr 154, fr 155, fr 156, fr 157, fr 158, fr 159, fr 160], []⟩ wr
    simp only [KeptV, List.getD_cons_zero, List.getD_cons_succ] at hkept; obtain ⟨hk0, hk1, hk2, hk46, hk47, -⟩ := hkept
    generalize ks 0 = k0 at hk0 ⊢; subst hk0
    generalize ks 1 = k1 at hk1 ⊢; subst hk1
    generalize ks 2 = k2 at hk2 ⊢; subst hk2
    generalize ks 46 = k46 at hk46 ⊢; subst hk46
    generalize ks 47 = k47 at hk47 ⊢; subst hk47
    generalize fr 48 = s48 at hrel ⊢
    clear hG3 hE3 ho d0 c0 c1 c2 c4 he1 he2 he3 ho1 hG he0
    obtain ⟨he, ho, k, hk, hs1, x1, x2, x3, hG, hst⟩ := hrel
    subst hs1
    by_cases hlt : k < y
    · obtain ⟨v, hv⟩ : ∃ v, (opens n code)[k]? = some v := ⟨_, List.getElem?_eq_getElem (by rw [← HYL.out]; exact hlt)⟩
      have hvm := List.mem_of_getElem? hv
      have hvo := List.mem_filter.1 hvm
      have hvr := mem_varsTo hvo.1
      have hcodes := open_codes (n := n) (by rw [← HN.out]; exact hc) hvr hvo.2
      rw [← HN.out] at hcodes
      obtain ⟨u, rfl⟩ : ∃ u, v = u + 1 := ⟨v - 1, by omega⟩
      have hstep := gSt_take (T := T) (code := code) (hide hv)
      rw [← hst.out] at hstep
      obtain ⟨g, rfl, hgl, hgh⟩ := ho.form (by omega)
      have hcv : wr.cell? ⟨g, k, none⟩ = some (.int .i64 ((u : Int) + 1)) := by
        have := ho.cell (j := k) (u := .int .i64 ((u : Int) + 1)) (by rw [natInts, List.getElem?_map, List.getElem?_map, hv]; rfl)
        exact this
      clear hvm hvo hv
      have hu : u ≤ 5 := by omega
      have hp3 : pow3 u ≤ 729 := by have := pow3_mono (show u ≤ 6 by omega); have h6 : pow3 6 = 729 := rfl; omega
      have hp0 := pow3_pos u
      have hge1 : gNo code (u + 1) = code + pow3 u := rfl
      have hge2 : gYes code (u + 1) = code + 2 * pow3 u := rfl
      have hyes : gYes code (u + 1) < N := by omega
      have hno : gNo code (u + 1) < N := by omega
      have hcn : code ≠ gNo code (u + 1) := by omega
      have hcy : code ≠ gYes code (u + 1) := by omega
      have HP := hide (fun W => power3_c u W (by omega))
      have hpts := fun W (he : Ext wr W) => points_c b (some ⟨g1, 0, none⟩) N N (T.put code (x1, x2, x3)).sc code u W (hG.tab.o1.ints hG.tab.full.sc (by omega) |>.ext he) ((hG.box.ext he).cell 3 _ rfl) hu hyes hN6
      have f1 := hG.tab.sz hno
      have f2 := hG.tab.sz hyes
      have f3 := hG.tab.ht hno
      have f4 := hG.tab.ht hyes
      rw [put_no_sz hcn] at f1
      rw [put_no_sz hcy] at f2
      rw [put_no_ht hcn] at f3
      rw [put_no_ht hcy] at f4
      rw [put_no_sc hcn, put_no_sc hcy] at hpts
      have q1 := hG.tab.sc hc
      have q2 := hG.tab.sz hc
      have q3 := hG.tab.ht hc
      rw [put_at_sc hG.tab.full hc] at q1
      rw [put_at_sz hG.tab.full hc] at q2
      rw [put_at_ht hG.tab.full hc] at q3
      unfold gOne at hstep
      rw [hge1] at hpts f1 f3 hstep hno hcn
      rw [hge2] at hpts f2 f4 hstep hyes hcy
      clear hge1 hge2 hcodes
      generalize T.sc.getD (code + pow3 u) 0 = s1 at *
      generalize T.sc.getD (code + 2 * pow3 u) 0 = s2 at *
      generalize T.sz.getD (code + pow3 u) 0 = s3 at *
      generalize T.sz.getD (code + 2 * pow3 u) 0 = s4 at *
      generalize T.ht.getD (code + pow3 u) 0 = s5 at *
      generalize T.ht.getD (code + 2 * pow3 u) 0 = s6 at *
      have hbest := fun W => best_pts s1 s2 W
      generalize pow3 u = p at *
      generalize hP : gPts s1 s2 = P1 at *
      clear hP
      have HPT := hide hpts
      have HB := hide hbest
      clear hpts hbest
      have e3 := hG.box.cell 3 (.slice (some ⟨g1, 0, none⟩) N N) rfl
      have e4 := hG.box.cell 4 (.slice (some ⟨g2, 0, none⟩) N N) rfl
      have e5 := hG.box.cell 5 (.slice (some ⟨g3, 0, none⟩) N N) rfl
      have z1 := hG.tab.o1.frozen code
      have z2 := hG.tab.o2.frozen code
      have z3 := hG.tab.o3.frozen code
      have hbl := hG.box.lt
      have hl1 := hG.tab.o1.lt
      have hl2 := hG.tab.o2.lt
      have hl3 := hG.tab.o3.lt
      have hne := hG.ne
      have hne2 := hG.tab.ne
      have hlo := hG.lo
      have hlo2 := hG.tab.lo
      go_wp2_with fail
      refine (HP.out _).mono ?_
      rintro e wa ⟨rfl, rfl⟩
      go_wp2_with fail
      refine (HP.out _).mono ?_
      rintro e wa ⟨rfl, rfl⟩
      go_wp2_with fail
      have ha1 : (0 : Int) ≤ (code : Int) + p := by omega
      have ha2 : (code : Int) + p < N := by omega
      have ha3 : ((code : Int) + p).toNat = code + p := by omega
      have ha4 : (0 : Int) ≤ (code : Int) + 2 * p := by omega
      have ha5 : (code : Int) + 2 * p < N := by omega
      have ha6 : ((code : Int) + 2 * p).toNat = code + 2 * p := by omega
      go_cut [9, 10, 11] (fun sA sB sC wx => sA = .int .i64 P1 ∧ sB = .int .i64 (wrap64 (s3 + s4)) ∧ sC = .int .i64 (wrap64 (1 + max s5 s6)) ∧ Ext wr wx)
      case first =>
        have h56 : s5 < s6 ∨ s6 ≤ s5 := by omega
        rcases h56 with h56 | h56
        · have hmx := hide (show max s5 s6 = s6 by omega)
          have hed := (Ext.refl wr).drew
          go_region_held3 (fun w' => w'.cell? ⟨b, 4, none⟩ = some (.slice (some ⟨g2, 0, none⟩) N N) ∧ w'.cell? ⟨b, 5, none⟩ = some (.slice (some ⟨g3, 0, none⟩) N N) ∧ w'.cell? ⟨g2, code + p, none⟩ = some (.int .i64 s3) ∧ w'.cell? ⟨g2, code + 2 * p, none⟩ = some (.int .i64 s4) ∧ w'.cell? ⟨g3, code + p, none⟩ = some (.int .i64 s5) ∧ w'.cell? ⟨g3, code + 2 * p, none⟩ = some (.int .i64 s6)) (simp [go_sem, *]) (first | (go_at_call 84; refine (HPT.out _ (by (repeat (first | with_reducible exact Ext.refl _ | with_reducible assumption | ((with_reducible refine Ext.setCell ?_ ?_ _); rotate_left; focus (first | omega | (simp <;> omega))) | with_reducible refine Ext.alloc ?_ _ | with_reducible refine Ext.drewN ?_ _ | with_reducible refine Ext.drew ?_ | with_reducible refine Ext.trans ?_ (by with_reducible assumption))))).mono ?_; rintro e w4 ⟨rfl, he4⟩; have h4 : Ext wr w4 := (by (repeat (first | with_reducible exact Ext.refl _ | with_reducible assumption | ((with_reducible refine Ext.setCell ?_ ?_ _); rotate_left; focus (first | omega | (simp <;> omega))) | with_reducible refine Ext.alloc ?_ _ | with_reducible refine Ext.drewN ?_ _ | with_reducible refine Ext.drew ?_ | with_reducible refine Ext.trans ?_ (by with_reducible assumption)))); have j4 := h4.cell e4; have j5 := h4.cell e5; have k1 := h4.cell f1; have k2 := h4.cell f2; have k3 := h4.cell f3; have k4 := h4.cell f4) | (go_at_call 71; refine (HB.out _).mono ?_; rintro e w5 ⟨rfl, he5⟩; have h5 : Ext wr w5 := (by (repeat (first | with_reducible exact Ext.refl _ | with_reducible assumption | ((with_reducible refine Ext.setCell ?_ ?_ _); rotate_left; focus (first | omega | (simp <;> omega))) | with_reducible refine Ext.alloc ?_ _ | with_reducible refine Ext.drewN ?_ _ | with_reducible refine Ext.drew ?_ | with_reducible refine Ext.trans ?_ (by with_reducible assumption)))); have j4 := h5.cell e4; have j5 := h5.cell e5; have k1 := h5.cell f1; have k2 := h5.cell f2; have k3 := h5.cell f3; have k4 := h5.cell f4; have j3 := h5.cell e3; have r1 := h5.cell q1; have r2 := h5.cell q2; have r3 := h5.cell q3; have y1 := h5.frozen hl1 z1; have y2 := h5.frozen hl2 z2; have y3 := h5.frozen hl3 z3))
          all_goals
            go_wp2_with fail
            go_meet
            exact ⟨rfl, (by first | rfl | simp [IntWalk.i64_left]), (by rw [hmx.out]; first | rfl | simp [IntWalk.i64_left]), h5⟩
        · have hmx := hide (show max s5 s6 = s5 by omega)
          have hed := (Ext.refl wr).drew
          go_region_held3 (fun w' => w'.cell? ⟨b, 4, none⟩ = some (.slice (some ⟨g2, 0, none⟩) N N) ∧ w'.cell? ⟨b, 5, none⟩ = some (.slice (some ⟨g3, 0, none⟩) N N) ∧ w'.cell? ⟨g2, code + p, none⟩ = some (.int .i64 s3) ∧ w'.cell? ⟨g2, code + 2 * p, none⟩ = some (.int .i64 s4) ∧ w'.cell? ⟨g3, code + p, none⟩ = some (.int .i64 s5) ∧ w'.cell? ⟨g3, code + 2 * p, none⟩ = some (.int .i64 s6)) (simp [go_sem, *]) (first | (go_at_call 84; refine (HPT.out _ (by (repeat (first | with_reducible exact Ext.refl _ | with_reducible assumption | ((with_reducible refine Ext.setCell ?_ ?_ _); rotate_left; focus (first | omega | (simp <;> omega))) | with_reducible refine Ext.alloc ?_ _ | with_reducible refine Ext.drewN ?_ _ | with_reducible refine Ext.drew ?_ | with_reducible refine Ext.trans ?_ (by with_reducible assumption))))).mono ?_; rintro e w4 ⟨rfl, he4⟩; have h4 : Ext wr w4 := (by (repeat (first | with_reducible exact Ext.refl _ | with_reducible assumption | ((with_reducible refine Ext.setCell ?_ ?_ _); rotate_left; focus (first | omega | (simp <;> omega))) | with_reducible refine Ext.alloc ?_ _ | with_reducible refine Ext.drewN ?_ _ | with_reducible refine Ext.drew ?_ | with_reducible refine Ext.trans ?_ (by with_reducible assumption)))); have j4 := h4.cell e4; have j5 := h4.cell e5; have k1 := h4.cell f1; have k2 := h4.cell f2; have k3 := h4.cell f3; have k4 := h4.cell f4) | (go_at_call 71; refine (HB.out _).mono ?_; rintro e w5 ⟨rfl, he5⟩; have h5 : Ext wr w5 := (by (repeat (first | with_reducible exact Ext.refl _ | with_reducible assumption | ((with_reducible refine Ext.setCell ?_ ?_ _); rotate_left; focus (first | omega | (simp <;> omega))) | with_reducible refine Ext.alloc ?_ _ | with_reducible refine Ext.drewN ?_ _ | with_reducible refine Ext.drew ?_ | with_reducible refine Ext.trans ?_ (by with_reducible assumption)))); have j4 := h5.cell e4; have j5 := h5.cell e5; have k1 := h5.cell f1; have k2 := h5.cell f2; have k3 := h5.cell f3; have k4 := h5.cell f4; have j3 := h5.cell e3; have r1 := h5.cell q1; have r2 := h5.cell q2; have r3 := h5.cell q3; have y1 := h5.frozen hl1 z1; have y2 := h5.frozen hl2 z2; have y3 := h5.frozen hl3 z3))
          all_goals
            go_wp2_with fail
            go_meet
            exact ⟨rfl, (by first | rfl | simp [IntWalk.i64_left]), (by rw [hmx.out]; first | rfl | simp [IntWalk.i64_left]), h5⟩
      case rest =>
      obtain ⟨hsA, hsB, hsC, h5⟩ := hcut
      subst hsA; subst hsB; subst hsC
      obtain ⟨w5, rfl⟩ : ∃ x, x = wc := ⟨_, rfl⟩
      have j3 := h5.cell e3; have j4 := h5.cell e4; have j5 := h5.cell e5; have r1 := h5.cell q1; have r2 := h5.cell q2; have r3 := h5.cell q3; have y1 := h5.frozen hl1 z1; have y2 := h5.frozen hl2 z2; have y3 := h5.frozen hl3 z3
      generalize hS2 : wrap64 (s3 + s4) = P2 at *
      generalize hS3 : wrap64 (1 + max s5 s6) = P3 at *
      clear hS2 hS3
      by_cases hk0 : k = 0
      · subst hk0
        have hnew : Hid ((P1, P2, P3) = (gSt T code ((opens n code).take (0 + 1))).2) := hide (by rw [hstep]; simp [gLess])
        clear hstep
        skip
        go_wp2
        have hGn := hG.ext (w' := w5) h5
        have hGn := hGn.setSc P1
        have hGn := hGn.setSz P2
        have hGn := hGn.setHt P3
        have hon := ho.ext h5
        have hen := he.trans h5
        have hon := hon.setLow (p := ⟨g1, code, none⟩) (by simp only []; omega) (.int .i64 P1)
        have hen := Ext.setCell hen (p := ⟨g1, code, none⟩) (by simp only []; omega) (.int .i64 P1)
        have hon := hon.setLow (p := ⟨g2, code, none⟩) (by simp only []; omega) (.int .i64 P2)
        have hen := Ext.setCell hen (p := ⟨g2, code, none⟩) (by simp only []; omega) (.int .i64 P2)
        have hon := hon.setLow (p := ⟨g3, code, none⟩) (by simp only []; omega) (.int .i64 P3)
        have hen := Ext.setCell hen (p := ⟨g3, code, none⟩) (by simp only []; omega) (.int .i64 P3)
        exact ⟨⟨(by (repeat (first | exact trivial | refine ⟨rfl, ?_⟩))), hen, hon, 0 + 1, by omega, by go_num, _, _, _, hGn, hnew⟩, (by simp [intOf] <;> omega)⟩
      · have hk0b : ((k : Int) == 0) = false := by simp; omega
        by_cases hc1 : P1 < x1
        · skip
          by_cases hc2 : P2 < x2
          · skip
            by_cases hc3 : P3 < x3
            · skip
              have hnew : Hid ((P1, P2, P3) = (gSt T code ((opens n code).take (k + 1))).2) := hide (by rw [hstep]; simp [gLess, hk0, hc1, hc2, hc3])
              clear hstep
              skip
              go_wp2
              have hGn := hG.ext (w' := w5) h5
              have hGn := hGn.setSc P1
              have hGn := hGn.setSz P2
              have hGn := hGn.setHt P3
              have hon := ho.ext h5
              have hen := he.trans h5
              have hon := hon.setLow (p := ⟨g1, code, none⟩) (by simp only []; omega) (.int .i64 P1)
              have hen := Ext.setCell hen (p := ⟨g1, code, none⟩) (by simp only []; omega) (.int .i64 P1)
              have hon := hon.setLow (p := ⟨g2, code, none⟩) (by simp only []; omega) (.int .i64 P2)
              have hen := Ext.setCell hen (p := ⟨g2, code, none⟩) (by simp only []; omega) (.int .i64 P2)
              have hon := hon.setLow (p := ⟨g3, code, none⟩) (by simp only []; omega) (.int .i64 P3)
              have hen := Ext.setCell hen (p := ⟨g3, code, none⟩) (by simp only []; omega) (.int .i64 P3)
              exact ⟨⟨(by (repeat (first | exact trivial | refine ⟨rfl, ?_⟩))), hen, hon, k + 1, by omega, by go_num, _, _, _, hGn, hnew⟩, (by simp [intOf] <;> omega)⟩
            · skip
              have hnew : Hid ((P1, P2, x3) = (gSt T code ((opens n code).take (k + 1))).2) := hide (by rw [hstep]; simp [gLess, hk0, hc1, hc2, hc3])
              clear hstep
              skip
              go_wp2
              have hGn := hG.ext (w' := w5) h5
              have hGn := hGn.setSc P1
              have hGn := hGn.setSz P2
              have hon := ho.ext h5
              have hen := he.trans h5
              have hon := hon.setLow (p := ⟨g1, code, none⟩) (by simp only []; omega) (.int .i64 P1)
              have hen := Ext.setCell hen (p := ⟨g1, code, none⟩) (by simp only []; omega) (.int .i64 P1)
              have hon := hon.setLow (p := ⟨g2, code, none⟩) (by simp only []; omega) (.int .i64 P2)
              have hen := Ext.setCell hen (p := ⟨g2, code, none⟩) (by simp only []; omega) (.int .i64 P2)
              exact ⟨⟨(by (repeat (first | exact trivial | refine ⟨rfl, ?_⟩))), hen, hon, k + 1, by omega, by go_num, _, _, _, hGn, hnew⟩, (by simp [intOf] <;> omega)⟩
          · skip
            by_cases hc3 : P3 < x3
            · skip
              have hnew : Hid ((P1, x2, P3) = (gSt T code ((opens n code).take (k + 1))).2) := hide (by rw [hstep]; simp [gLess, hk0, hc1, hc2, hc3])
              clear hstep
              skip
              go_wp2
              have hGn := hG.ext (w' := w5) h5
              have hGn := hGn.setSc P1
              have hGn := hGn.setHt P3
              have hon := ho.ext h5
              have hen := he.trans h5
              have hon := hon.setLow (p := ⟨g1, code, none⟩) (by simp only []; omega) (.int .i64 P1)
              have hen := Ext.setCell hen (p := ⟨g1, code, none⟩) (by simp only []; omega) (.int .i64 P1)
              have hon := hon.setLow (p := ⟨g3, code, none⟩) (by simp only []; omega) (.int .i64 P3)
              have hen := Ext.setCell hen (p := ⟨g3, code, none⟩) (by simp only []; omega) (.int .i64 P3)
              exact ⟨⟨(by (repeat (first | exact trivial | refine ⟨rfl, ?_⟩))), hen, hon, k + 1, by omega, by go_num, _, _, _, hGn, hnew⟩, (by simp [intOf] <;> omega)⟩
            · skip
              have hnew : Hid ((P1, x2, x3) = (gSt T code ((opens n code).take (k + 1))).2) := hide (by rw [hstep]; simp [gLess, hk0, hc1, hc2, hc3])
              clear hstep
              skip
              go_wp2
              have hGn := hG.ext (w' := w5) h5
              have hGn := hGn.setSc P1
              have hon := ho.ext h5
              have hen := he.trans h5
              have hon := hon.setLow (p := ⟨g1, code, none⟩) (by simp only []; omega) (.int .i64 P1)
              have hen := Ext.setCell hen (p := ⟨g1, code, none⟩) (by simp only []; omega) (.int .i64 P1)
              exact ⟨⟨(by (repeat (first | exact trivial | refine ⟨rfl, ?_⟩))), hen, hon, k + 1, by omega, by go_num, _, _, _, hGn, hnew⟩, (by simp [intOf] <;> omega)⟩
        · skip
          by_cases hc2 : P2 < x2
          · skip
            by_cases hc3 : P3 < x3
            · skip
              have hnew : Hid ((x1, P2, P3) = (gSt T code ((opens n code).take (k + 1))).2) := hide (by rw [hstep]; simp [gLess, hk0, hc1, hc2, hc3])
              clear hstep
              skip
              go_wp2
              have hGn := hG.ext (w' := w5) h5
              have hGn := hGn.setSz P2
              have hGn := hGn.setHt P3
              have hon := ho.ext h5
              have hen := he.trans h5
              have hon := hon.setLow (p := ⟨g2, code, none⟩) (by simp only []; omega) (.int .i64 P2)
              have hen := Ext.setCell hen (p := ⟨g2, code, none⟩) (by simp only []; omega) (.int .i64 P2)
              have hon := hon.setLow (p := ⟨g3, code, none⟩) (by simp only []; omega) (.int .i64 P3)
              have hen := Ext.setCell hen (p := ⟨g3, code, none⟩) (by simp only []; omega) (.int .i64 P3)
              exact ⟨⟨(by (repeat (first | exact trivial | refine ⟨rfl, ?_⟩))), hen, hon, k + 1, by omega, by go_num, _, _, _, hGn, hnew⟩, (by simp [intOf] <;> omega)⟩
            · skip
              have hnew : Hid ((x1, P2, x3) = (gSt T code ((opens n code).take (k + 1))).2) := hide (by rw [hstep]; simp [gLess, hk0, hc1, hc2, hc3])
              clear hstep
              skip
              go_wp2
              have hGn := hG.ext (w' := w5) h5
              have hGn := hGn.setSz P2
              have hon := ho.ext h5
              have hen := he.trans h5
              have hon := hon.setLow (p := ⟨g2, code, none⟩) (by simp only []; omega) (.int .i64 P2)
              have hen := Ext.setCell hen (p := ⟨g2, code, none⟩) (by simp only []; omega) (.int .i64 P2)
              exact ⟨⟨(by (repeat (first | exact trivial | refine ⟨rfl, ?_⟩))), hen, hon, k + 1, by omega, by go_num, _, _, _, hGn, hnew⟩, (by simp [intOf] <;> omega)⟩
          · skip
            by_cases hc3 : P3 < x3
            · skip
              have hnew : Hid ((x1, x2, P3) = (gSt T code ((opens n code).take (k + 1))).2) := hide (by rw [hstep]; simp [gLess, hk0, hc1, hc2, hc3])
              clear hstep
              skip
              go_wp2
              have hGn := hG.ext (w' := w5) h5
              have hGn := hGn.setHt P3
              have hon := ho.ext h5
              have hen := he.trans h5
              have hon := hon.setLow (p := ⟨g3, code, none⟩) (by simp only []; omega) (.int .i64 P3)
              have hen := Ext.setCell hen (p := ⟨g3, code, none⟩) (by simp only []; omega) (.int .i64 P3)
              exact ⟨⟨(by (repeat (first | exact trivial | refine ⟨rfl, ?_⟩))), hen, hon, k + 1, by omega, by go_num, _, _, _, hGn, hnew⟩, (by simp [intOf] <;> omega)⟩
            · skip
              have hnew : Hid ((x1, x2, x3) = (gSt T code ((opens n code).take (k + 1))).2) := hide (by rw [hstep]; simp [gLess, hk0, hc1, hc2, hc3])
              clear hstep
              skip
              go_wp2
              have hGn := hG.ext (w' := w5) h5
              have hon := ho.ext h5
              have hen := he.trans h5
              exact ⟨⟨(by (repeat (first | exact trivial | refine ⟨rfl, ?_⟩))), hen, hon, k + 1, by omega, by go_num, _, _, _, hGn, hnew⟩, (by simp [intOf] <;> omega)⟩
    · obtain rfl : k = y := by omega
      have hfin : Hid ((x1, x2, x3) = (gSt T code (opens n code)).2) := hide (by rw [hst.out, List.take_of_length_le (by rw [HYL.out]; exact Nat.le_refl _)])
      go_wp2
      go_end0
      exact ⟨rfl, by rw [← hfin.out]; exact hG, he⟩
  · have hrow : gRow n cls T code = (0, 1, 0) := by simp [gRow, hfa]
    rw [hrow]
    simp only [if_true]
    have HF := hide hfa
    clear hfa hrow
    have z0 := hG.over.frozen code
    have z2 := hG.tab.o2.frozen code
    have q0 := hG.ov hc
    have q2 := hG.tab.sz hc
    have hl0 := hG.over.lt
    have hl2 := hG.tab.o2.lt
    have hne := hG.ne
    have hlo := hG.lo
    have hlo2 := hG.tab.lo
    have hbl := hG.box.lt
    go_enter Try.func102, Try.ntmps102
    go_wp2_with fail
    refine (ofCode_c n code _ hn (by omega)).mono ?_
    rintro e w1 ⟨X1, y1, z1, rfl, ho1, hy1, he1⟩
    have d0 := he1.cell c0; have d1 := he1.cell c1
    go_wp2_with fail
    refine (falseClauses_c A m d cls X1 y1 z1 (codeLits n 1 code) _ (hI.ext (by (repeat (first | with_reducible exact Ext.refl _ | with_reducible assumption | ((with_reducible refine Ext.setCell ?_ ?_ _); rotate_left; focus (first | omega | (simp <;> omega))) | with_reducible refine Ext.alloc ?_ _ | with_reducible refine Ext.drewN ?_ _ | with_reducible refine Ext.drew ?_ | with_reducible refine Ext.trans ?_ (by with_reducible assumption))))) (ho1.ints (by omega)) hm HCL.out).mono ?_
    rw [HF.out]
    rintro e w2 ⟨X2, y2, z2', rfl, hy2, hq2, he2⟩
    have hy0 : 0 < y2 := by simpa using hq2
    clear d0 d1
    have h2 : Ext w w2 := by (repeat (first | with_reducible exact Ext.refl _ | with_reducible assumption | ((with_reducible refine Ext.setCell ?_ ?_ _); rotate_left; focus (first | omega | (simp <;> omega))) | with_reducible refine Ext.alloc ?_ _ | with_reducible refine Ext.drewN ?_ _ | with_reducible refine Ext.drew ?_ | with_reducible refine Ext.trans ?_ (by with_reducible assumption)))
    have d2 := h2.cell c2
    have d4 := h2.cell c4
    have d5 := h2.cell q0
    have d6 := h2.cell q2
    have y0 := h2.frozen hl0 z0
    have y2' := h2.frozen hl2 z2
    go_wp2
    have hG2 := hG.ext h2
    rw [← hTself] at hG2
    exact bodyPost_ret (v := .tuple #[]) (by simp [results, Try.results102, go_sem]) rfl ⟨rfl, (hG2.setOv code true).setSz 1, Ext.setCell (Ext.setCell (by (repeat (first | with_reducible exact Ext.refl _ | with_reducible assumption | ((with_reducible refine Ext.setCell ?_ ?_ _); rotate_left; focus (first | omega | (simp <;> omega))) | with_reducible refine Ext.alloc ?_ _ | with_reducible refine Ext.drewN ?_ _ | with_reducible refine Ext.drew ?_ | with_reducible refine Ext.trans ?_ (by with_reducible assumption)))) (by simp only []; omega) _) (by simp only []; omega) _⟩
end Go.Proofs.Ytmpfhibncnamnaa
