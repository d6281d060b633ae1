/-
  The reference's shrinking; no condition.
-/
import Derived.Test.YtaigjmbhgpcalaaF28
import Derived.Test.YtaigjmbhgpcalaaF6

namespace Go.Proofs.Ytaigjmbhgpcalaa
set_option linter.unusedSimpArgs false
set_option linter.unusedVariables false
open Go.RowKit
theorem asc_pw {l : List (List Int)} : Asc l ↔ l.Pairwise fun x y => befC x y = true := by
  rw [List.pairwise_iff_getElem]
  constructor
  · exact fun h i j hi hj hij => h i j _ _ hij (List.getElem?_eq_getElem hi) (List.getElem?_eq_getElem hj)
  · intro h i j x y hij hx hy
    obtain ⟨hi, rfl⟩ := List.getElem?_eq_some_iff.1 hx
    obtain ⟨hj, rfl⟩ := List.getElem?_eq_some_iff.1 hy
    exact h i j hi hj hij
theorem asc_filter {l : List (List Int)} (h : Asc l) (p : List Int → Bool) : Asc (l.filter p) := asc_pw.2 ((asc_pw.1 h).sublist List.filter_sublist)
theorem allG_asc (v : Nat) (cls : List (List Int)) (W : Int) : Asc (allG v cls W) := sortG_asc (allP_nodup v cls W)
theorem OwnRows.toP {w : World} {lo hi : Nat} {eo ei : TypeId} {A : Option Addr} {n c : Nat} {xss : List (List Int)} {us : List Value} (h : OwnRows w lo hi eo ei A n c xss us) :
    ∃ ps : List (Value × List Int), ps.map (·.1) = us ∧ ps.map (·.2) = xss ∧ PRows w lo hi ei ps := by
  have hul := h.ulen
  have hxl := h.len
  refine ⟨us.zip xss, List.map_fst_zip (by omega), List.map_snd_zip (by omega), fun p hp => ?_, ?_⟩
  · obtain ⟨i, hi, e⟩ := List.getElem_of_mem hp
    rw [List.getElem_zip] at e
    subst e
    simp only [List.length_zip] at hi
    exact h.inner i _ _ (List.getElem?_eq_getElem (by omega)) (List.getElem?_eq_getElem (by omega))
  · rw [List.pairwise_iff_getElem]
    intro i j hi hj hij k h1 h2
    rw [List.getElem_zip] at h1 h2
    simp only [List.length_zip] at hi hj
    have := h.apart i j _ _ k (List.getElem?_eq_getElem (by omega)) (List.getElem?_eq_getElem (by omega)) h1 h2
    omega
theorem PRows.touch {w w' : World} {lo hi l r : Nat} {ei : TypeId} {ps : List (Value × List Int)} (h : PRows w lo hi ei ps) (t : Touch l r w w') (hd : r ≤ lo ∨ hi ≤ l) : PRows w' lo hi ei ps := ⟨fun p hp => (h.row p hp).touchAny t hd, h.apart⟩
theorem PRows.filter {w : World} {lo hi : Nat} {ei : TypeId} {ps : List (Value × List Int)} (h : PRows w lo hi ei ps) (p : Value × List Int → Bool) : PRows w lo hi ei (ps.filter p) :=
  ⟨fun x hx => h.row x (List.mem_filter.1 hx).1, h.apart.sublist List.filter_sublist⟩
/-- The row of rounds, where the first i are those of the next round. -/
def RndAt (K : List (List Int) → List Int → Bool) (L : List (List Int)) (r i : Nat) (us : List Value) : Prop := ∀ (j : Nat) (a : List Int), L[j]? = some a → us[j]? = some (.int .i64 (if j < i then rd K L (r + 1) a else rd K L r a : Nat))
theorem RndAt.get {K : List (List Int) → List Int → Bool} {L : List (List Int)} {r i : Nat} {us : List Value} {a : List Int} (h : RndAt K L r i us) (ha : L[i]? = some a) : us[i]? = some (.int .i64 (rd K L r a : Nat)) := by
  have := h i a ha; rwa [if_neg (Nat.lt_irrefl _)] at this
theorem RndAt.same {K : List (List Int) → List Int → Bool} {L : List (List Int)} {r i : Nat} {us : List Value} {a : List Int} (h : RndAt K L r i us) (ha : L[i]? = some a) (hg : goneB K L r a = false) : RndAt K L r (i + 1) us := by
  intro j b hb
  have := h j b hb
  by_cases hj : j < i
  · rw [if_pos hj] at this; rw [if_pos (by omega)]; exact this
  · rw [if_neg hj] at this
    by_cases e : j = i
    · subst e
      rw [ha] at hb; injection hb with hb; subst hb
      rw [if_pos (by omega), rd_succ, if_neg (by rw [hg]; simp)]; exact this
    · rw [if_neg (by omega)]; exact this
theorem RndAt.set {K : List (List Int) → List Int → Bool} {L : List (List Int)} {r i : Nat} {us : List Value} {a : List Int} (h : RndAt K L r i us) (ha : L[i]? = some a) (hg : goneB K L r a = true) (hl : i < us.length) : RndAt K L r (i + 1) (us.set i (.int .i64 ((r : Int) + 1))) := by
  intro j b hb
  have := h j b hb
  by_cases e : i = j
  · subst e
    rw [ha] at hb; injection hb with hb; subst hb
    rw [List.getElem?_set_self hl, if_pos (by omega), rd_succ, if_pos hg]; rfl
  · rw [List.getElem?_set_ne e]
    by_cases hj : j < i
    · rw [if_pos hj] at this; rw [if_pos (by omega)]; exact this
    · rw [if_neg hj] at this; rw [if_neg (by omega)]; exact this
theorem RndAt.all {K : List (List Int) → List Int → Bool} {L : List (List Int)} {r : Nat} {us : List Value} (h : RndAt K L r L.length us) : RndAt K L (r + 1) 0 us := by
  intro j b hb
  have := h j b hb
  rw [if_pos (List.getElem?_eq_some_iff.1 hb).1] at this
  rw [if_neg (by omega)]; exact this
theorem RndAt.list {K : List (List Int) → List Int → Bool} {L : List (List Int)} {r : Nat} {us : List Value} (h : RndAt K L r 0 us) (hl : us.length = L.length) : us = (L.map fun a => (rd K L r a : Int)).map (Value.int .i64) := by
  apply List.ext_getElem?
  intro j
  rw [List.getElem?_map, List.getElem?_map]
  by_cases hj : j < L.length
  · rw [h j _ (List.getElem?_eq_getElem hj), if_neg (by omega), List.getElem?_eq_getElem hj]; rfl
  · rw [List.getElem?_eq_none (by omega), List.getElem?_eq_none (by omega)]; rfl
theorem RndAt.stop {K : List (List Int) → List Int → Bool} {L : List (List Int)} {r : Nat} {us : List Value} (h : RndAt K L r L.length us) (hc : cntS K L r = 0) : RndAt K L r 0 us := by
  intro j b hb
  have := h j b hb
  rw [if_pos (List.getElem?_eq_some_iff.1 hb).1, rd_succ] at this
  have hg : goneB K L r b = false := by
    cases hg : goneB K L r b
    · rfl
    · have h1 : b ∈ L.filter (goneB K L r) := List.mem_filter.2 ⟨List.mem_of_getElem? hb, hg⟩
      unfold cntS at hc
      rw [List.eq_nil_of_length_eq_zero hc] at h1; simp at h1
  rw [if_neg (by rw [hg]; simp)] at this
  rw [if_neg (by omega)]; exact this
theorem filter_take {α : Type} {ps : List α} {q : α → Bool} {i : Nat} {x : α} (hx : ps[i]? = some x) : (ps.take (i + 1)).filter q = (ps.take i).filter q ++ (if q x then [x] else []) := by
  rw [take_succ_of (hide hx), List.filter_append]
  cases h : q x <;> simp [h]
theorem Own.touch1 {w w' : World} {base b2 g n c m d : Nat} {e e2 : TypeId} {A : Option Addr} {us vs : List Value} (h : Own w base e 1 A n c us) (k : Own w b2 e2 1 (some ⟨g, 0, none⟩) m d vs) (hne : e ≠ e2) (t : Touch g (g + 1) w w') : Own w' base e 1 A n c us :=
  h.touch_below t fun j hj => by
    rcases h.ne_type k hne with h1 | h1
    · rw [h1] at hj; cases hj
    · have : j ≠ g := fun e => h1 (by rw [hj, e]; rfl)
      omega
theorem Own.touch2 {w w' : World} {base g n c : Nat} {e : TypeId} {A : Option Addr} {us : List Value} (h : Own w base e 1 A n c us) (hne : (Value.slice A n c).ownBlock ≠ some g) (t : Touch g (g + 1) w w') : Own w' base e 1 A n c us :=
  h.touch_below t fun j hj => by have : j ≠ g := fun e => hne (by rw [hj, e])
                                 omega
theorem BoxAt.touch1 {w w' : World} {b g : Nat} {t : TypeId} {cs : Array Value} (h : BoxAt w b t cs) (hne : b ≠ g) (k : Touch g (g + 1) w w') : BoxAt w' b t cs := (k.block b h.lt (by omega)).trans h
theorem Touch.grownNew {a b c : World} {lo hi : Nat} {row : Option Nat} (h : Touch lo hi a b) (hg : b.grownBy c row) (hr : ∀ k, row = some k → a.heap.size ≤ k) : Touch lo hi a c :=
  ⟨hg.os.trans h.os, hg.tape.trans h.tape, hg.output.trans h.output, Nat.le_trans h.size hg.size, fun k hk hj => (hg.block k (Nat.lt_of_lt_of_le hk h.size) (fun e => by have := hr k e.symm; omega)).trans (h.block k hk hj)⟩
theorem BoxAt.set4 {w : World} {b : Nat} {t : TypeId} {z0 z1 z2 z3 x0 x1 x2 x3 : Value} (h : BoxAt w b t #[z0, z1, z2, z3]) :
    BoxAt ((((w.setCell ⟨b, 0, none⟩ x0).setCell ⟨b, 1, none⟩ x1).setCell ⟨b, 2, none⟩ x2).setCell ⟨b, 3, none⟩ x3) b t #[x0, x1, x2, x3] := (((h.set 0 x0).set 1 x1).set 2 x2).set 3 x3
theorem touch_set {w : World} {g j : Nat} {u : Value} : Touch g (g + 1) w (w.setCell ⟨g, j, none⟩ u) := ⟨rfl, rfl, rfl, by simp [World.setCell], fun k _ hk => Below.heap_setCell _ _ _ _ (by simp; omega)⟩
theorem filter_snd {ps : List (Value × List Int)} (q : List Int → Bool) : (ps.filter (fun p => q p.2)).map (·.2) = (ps.map (·.2)).filter q := by
  induction ps with
  | nil => rfl
  | cons x ps ih => simp only [List.filter_cons, List.map_cons]; cases q x.2 <;> simp [ih]
set_option maxRecDepth 100000 in
set_option maxHeartbeats 6400000 in
theorem l13Shrink_c (v : Nat) (W : Int) (C : Option Addr) (nc dc : Nat) (cls : List (List Int)) (w : World) (hcl : Intss w C nc cls) (hc : ∀ c ∈ cls, ∀ x ∈ c, -12 ≤ x ∧ x ≤ 12 ∧ x ≠ 0) (hW : 0 ≤ W ∧ W ≤ 6) (hv : v ≤ 6) :
    Calls Try.prog 33 #[.agg #[.int .i64 v, .slice C nc dc], .int .i64 W] w fun e w' =>
      ∃ (gA n cA gR : Nat) (AC : Option Addr) (nC cC : Nat) (AL : Option Addr) (nL cL : Nat), e = .returned (.agg #[.slice (some ⟨gA, 0, none⟩) n cA, .slice (some ⟨gR, 0, none⟩) n n, .slice AC nC cC, .slice AL nL cL]) ∧
        (∃ us, OwnRows w' w.heap.size w'.heap.size 35 3 (some ⟨gA, 0, none⟩) n cA (allG v cls W) us) ∧
        Own w' w.heap.size 3 1 (some ⟨gR, 0, none⟩) n n (((allG v cls W).map fun a => (rd (keepB v W) (allG v cls W) (stopN (keepB v W) (allG v cls W)) a : Int)).map (Value.int .i64)) ∧
        Own w' w.heap.size 3 1 AC nC cC ((cntL (keepB v W) (allG v cls W) (stopN (keepB v W) (allG v cls W))).map (Value.int .i64)) ∧ Ext w w' := by
  have HL := hide (fun Wd (E : Ext w Wd) => l13Sorted_c v W C nc dc cls Wd (hcl.ext E) hc hW hv)
  have HOK := hide (fun a ha => (allG_ok (cls := cls) (W := W) hv a ha).1)
  have HAsc := hide (allG_asc v cls W)
  have HLn := hide (allG_len hv cls W)
  have E0 : Hid (Ext w ((w.alloc (.cells #[.int .i64 v, .slice C nc dc] 28)).alloc (.cells #[.slice none 0 0, .slice none 0 0, .slice none 0 0, .slice none 0 0] 51))) := hide (((Ext.refl w).alloc _).alloc _)
  clear hc
  generalize allG v cls W = L at *
  obtain ⟨K, hK⟩ : ∃ K, K = keepB v W := ⟨_, rfl⟩
  rw [← hK]
  have HK := hide hK
  clear hK
  go_enter Try.func33, Try.ntmps33
  go_wp2_with fail
  refine (HL.out _ E0.out).mono ?_
  rintro e w1 ⟨gA, n, cA, rfl, hn, ⟨us, hor⟩, he1⟩
  have ew1 : Hid (Ext w w1) := hide (E0.out.trans he1)
  have bc0 := he1.cell (p := ⟨w.heap.size, 0, none⟩) (u := .int .i64 v) (by first | simp [go_sem] | simp [go_sem, *]); have bf0 := he1.frozen (p := ⟨w.heap.size, 0, none⟩) (by first | omega | (simp <;> omega)) (by first | simp [go_sem] | simp [go_sem, *]); have bc1 := he1.cell (p := ⟨w.heap.size, 1, none⟩) (u := .slice C nc dc) (by first | simp [go_sem] | simp [go_sem, *]); have bf1 := he1.frozen (p := ⟨w.heap.size, 1, none⟩) (by first | omega | (simp <;> omega)) (by first | simp [go_sem] | simp [go_sem, *])
  obtain ⟨ps, hp1, hp2, hpr⟩ := hor.toP
  subst hp1
  have HPS := hide hp2
  have HOut : Hid (Own w1 (w.heap.size + 1 + 1) 35 1 (some ⟨gA, 0, none⟩) n cA (ps.map (·.1))) := hide (by simpa using hor.outer)
  have HPR : Hid (PRows w1 (w.heap.size + 1 + 1) w1.heap.size 3 ps) := hide (by simpa using hpr)
  have hnl : n = L.length := hor.len
  have HNL := hide hnl
  have BF : Hid (BoxAt w1 w.heap.size 28 #[.int .i64 v, .slice C nc dc]) := hide (((BoxAt.made w _ _).ext ((Ext.refl _).alloc _)).ext he1)
  have BR : Hid (BoxAt w1 (w.heap.size + 1) 51 #[.slice none 0 0, .slice none 0 0, .slice none 0 0, .slice none 0 0]) := hide (by
    have h := (BoxAt.made (w.alloc (.cells #[.int .i64 v, .slice C nc dc] 28)) #[.slice none 0 0, .slice none 0 0, .slice none 0 0, .slice none 0 0] 51).ext he1
    simpa using h)
  have hz1 : w.heap.size + 2 ≤ w1.heap.size := by have := he1.size; simp at this; omega
  clear hor he1 hp2 hpr hnl bc0 bc1 bf0 bf1 HL E0
  have hmk := fun W => make_eq (P := Try.prog) 35 3 Try.underlying35 _ 8 info_int rfl n (by omega) (by omega) W
  go_wp2_with fail
  clear hmk
  have BS : Hid (BoxAt (((w1.alloc (.cells #[] 3)).alloc (.cells #[.slice (some ⟨gA, 0, none⟩) n cA, .slice (some ⟨w1.heap.size + 1 + 1, 0, none⟩) n n, .slice (some ⟨w1.heap.size, 0, none⟩) 0 0, .slice (some ⟨gA, 0, none⟩) n cA] 51)).alloc (.cells (madeCells #[.int .i64 0] n) 3)) (w1.heap.size + 1) 51 #[.slice (some ⟨gA, 0, none⟩) n cA, .slice (some ⟨w1.heap.size + 1 + 1, 0, none⟩) n n, .slice (some ⟨w1.heap.size, 0, none⟩) 0 0, .slice (some ⟨gA, 0, none⟩) n cA]) := hide (by
    have h := BoxAt.made (w1.alloc (.cells #[] 3)) #[.slice (some ⟨gA, 0, none⟩) n cA, .slice (some ⟨w1.heap.size + 1 + 1, 0, none⟩) n n, .slice (some ⟨w1.heap.size, 0, none⟩) 0 0, .slice (some ⟨gA, 0, none⟩) n cA] 51
    rw [show (w1.alloc (.cells #[] 3)).heap.size = w1.heap.size + 1 by simp] at h
    exact h.ext ((Ext.refl _).alloc _))
  have OC : Hid (Own (((w1.alloc (.cells #[] 3)).alloc (.cells #[.slice (some ⟨gA, 0, none⟩) n cA, .slice (some ⟨w1.heap.size + 1 + 1, 0, none⟩) n n, .slice (some ⟨w1.heap.size, 0, none⟩) 0 0, .slice (some ⟨gA, 0, none⟩) n cA] 51)).alloc (.cells (madeCells #[.int .i64 0] n) 3)) w1.heap.size 3 1 (some ⟨w1.heap.size, 0, none⟩) 0 0 ((cntL K L 0).map (Value.int .i64))) := hide (((Own.arr_at #[] 0 [] rfl (Nat.le_refl _) (by decide) rfl rfl).alloc _).alloc _)
  have OR : Hid (Own (((w1.alloc (.cells #[] 3)).alloc (.cells #[.slice (some ⟨gA, 0, none⟩) n cA, .slice (some ⟨w1.heap.size + 1 + 1, 0, none⟩) n n, .slice (some ⟨w1.heap.size, 0, none⟩) 0 0, .slice (some ⟨gA, 0, none⟩) n cA] 51)).alloc (.cells (madeCells #[.int .i64 0] n) 3)) w1.heap.size 3 1 (some ⟨w1.heap.size + 1 + 1, 0, none⟩) n n (List.replicate n (.int .i64 0))) := hide (by
    have h := Own.made (base := w1.heap.size) (w := (w1.alloc (.cells #[] 3)).alloc (.cells #[.slice (some ⟨gA, 0, none⟩) n cA, .slice (some ⟨w1.heap.size + 1 + 1, 0, none⟩) n n, .slice (some ⟨w1.heap.size, 0, none⟩) 0 0, .slice (some ⟨gA, 0, none⟩) n cA] 51)) (e := 3) (.int .i64 0) n (by simp; omega) (by simp only [maxLen]; omega)
    simpa using h)
  have RN : Hid (RndAt K L 0 0 (List.replicate n (.int .i64 0))) := hide (fun j a ha => by
    have hj := (List.getElem?_eq_some_iff.1 ha).1
    rw [List.getElem?_replicate, if_pos (by have := HNL.out; omega), if_neg (by omega)]; rfl)
  have OL : Hid (Own (((w1.alloc (.cells #[] 3)).alloc (.cells #[.slice (some ⟨gA, 0, none⟩) n cA, .slice (some ⟨w1.heap.size + 1 + 1, 0, none⟩) n n, .slice (some ⟨w1.heap.size, 0, none⟩) 0 0, .slice (some ⟨gA, 0, none⟩) n cA] 51)).alloc (.cells (madeCells #[.int .i64 0] n) 3)) (w.heap.size + 1 + 1) 35 1 (some ⟨gA, 0, none⟩) n cA ((ps.filter fun p => inB K L 0 p.2).map (·.1))) := hide (by
    have e : (ps.filter fun p => inB K L 0 p.2) = ps := List.filter_eq_self.2 (fun _ _ => rfl)
    rw [e]
    exact (((HOut.out.alloc _).alloc _).alloc _))
  have EE : Hid (Ext w1 (((w1.alloc (.cells #[] 3)).alloc (.cells #[.slice (some ⟨gA, 0, none⟩) n cA, .slice (some ⟨w1.heap.size + 1 + 1, 0, none⟩) n n, .slice (some ⟨w1.heap.size, 0, none⟩) 0 0, .slice (some ⟨gA, 0, none⟩) n cA] 51)).alloc (.cells (madeCells #[.int .i64 0] n) 3))) := hide ((((Ext.refl _).alloc _).alloc _).alloc _)
  refine wp_loopF 75 _ rfl rfl [1, 2, 4, 5] rfl (fun fr wr => Ext w1 wr ∧ ∃ (r : Nat) (AC : Option Addr) (cC : Nat) (AL : Option Addr) (nL cL : Nat) (us : List Value), Hid (∀ q < r, 0 < cntS K L q) ∧ (fr 6) = .int .i64 ((r : Int) + 1) ∧ Hid (BoxAt wr (w1.heap.size + 1) 51 #[.slice (some ⟨gA, 0, none⟩) n cA, .slice (some ⟨w1.heap.size + 1 + 1, 0, none⟩) n n, .slice AC r cC, .slice AL nL cL]) ∧ Hid (Own wr w1.heap.size 3 1 (some ⟨w1.heap.size + 1 + 1, 0, none⟩) n n us) ∧ Hid (RndAt K L r 0 us) ∧ Hid (Own wr w1.heap.size 3 1 AC r cC ((cntL K L r).map (Value.int .i64))) ∧ Hid ((Value.slice AC r cC).ownBlock ≠ some (w1.heap.size + 1 + 1)) ∧ Hid (Own wr (w.heap.size + 1 + 1) 35 1 AL nL cL ((ps.filter fun p => inB K L r p.2).map (·.1)))) (fun fr wr => n + 1 - (intOf (fr 6)).toNat) ?_ ?_
  · (exact ⟨EE.out, 0, _, _, _, _, _, _, hide (fun q hq => by omega), by go_num, BS, OR, RN, OC, hide (by simp [Value.ownBlock]; omega), OL⟩)
  intro ks fr wr hkept hrel; (try dsimp only at hrel)
  change Code.wp _ _ _ ⟨#[fr 0, ks 1, ks 2, fr 3, ks 4, ks 5, fr 6, fr 7, fr 8, fr 9, fr 10, fr 11, fr 12, fr 13, fr 14, fr 15, fr 16, fr 17, fr 18, fr 19, fr 20, fr 21, fr 22, fr 23, fr 24, fr 25, fr 26, fr 27, fr 28, fr 29, fr 30, fr 31, fr 32, fr 33, fr 34, fr 35, fr 36, fr 37, fr 38, fr 39, fr 40, fr 41, fr 42, fr 43, fr 44, fr 45, fr 46, fr 47, fr 48, fr 49, fr 50, fr 51, fr 52, fr 53, fr 54, fr 55, fr 56, fr 57, fr 58, fr 59, fr 60, fr 61, fr 62, fr 63, fr 64, fr 65, fr 66, fr 67, fr 68, fr 69, fr 70, fr 71, fr 72, fr 73, fr 74], []⟩ wr
  simp only [KeptV, List.getD_cons_zero, List.getD_cons_succ] at hkept; obtain ⟨hk1, hk2, hk4, hk5, -⟩ := hkept
  generalize ks 1 = k1 at hk1 ⊢; subst hk1
  generalize ks 2 = k2 at hk2 ⊢; subst hk2
  generalize ks 4 = k4 at hk4 ⊢; subst hk4
  generalize ks 5 = k5 at hk5 ⊢; subst hk5
  generalize fr 6 = s6 at hrel ⊢
  obtain ⟨he, r, AC, cC, AL, nL, cL, us, hcn, hs1, hBS, hOR, hRN, hOC, hne, hOL⟩ := hrel
  subst hs1
  clear BS OC OR RN OL EE
  obtain ⟨Wo, hWo⟩ : ∃ W, W = wr := ⟨_, rfl⟩
  subst hWo
  have HE := hide he
  have hwo := he.size
  have hzo := (hOR.out.lt (w1.heap.size + 1 + 1) rfl).2
  have HLF : Hid ((ps.filter fun p => inB K L r p.2).map (·.2) = leftS K L r) := hide (by rw [filter_snd (inB K L r), HPS.out]; rfl)
  have hnL : nL ≤ 729 := by
    have h1 := congrArg List.length HLF.out
    have h2 := hOL.out.len
    have h3 : (leftS K L r).length ≤ L.length := List.length_filter_le _ _
    have h4 := HLn.out
    rw [List.length_map] at h1 h2; omega
  have ON : Hid (Own (Wo.alloc (.cells #[] 35)) Wo.heap.size 35 1 (some ⟨Wo.heap.size, 0, none⟩) 0 0 []) := hide (Own.arr_at #[] 0 [] rfl (Nat.le_refl _) (by decide) rfl rfl)
  have T0 : Hid (Touch (w1.heap.size + 1 + 1) (w1.heap.size + 1 + 1 + 1) Wo (Wo.alloc (.cells #[] 35))) := hide (((Ext.refl _).alloc _).touch _ _)
  have OR0 := hide (hOR.out.alloc (.cells #[] 35))
  clear he
  go_wp2_with fail
  refine wp_loopF 75 _ rfl rfl [1, 2, 4, 5, 6, 23, 24, 25, 64, 65, 66, 67, 68, 69, 70, 71, 72, 73, 74] rfl (fun fr wr => Hid (Touch (w1.heap.size + 1 + 1) (w1.heap.size + 1 + 1 + 1) Wo wr) ∧ ∃ (i m d : Nat) (A : Option Addr) (us : List Value), i ≤ n ∧ m ≤ i ∧ (fr 9) = .int .i64 i ∧ (fr 7) = .slice A m d ∧ (fr 8) = .int .i64 ((((L.take i).filter (goneB K L r)).length : Nat) : Int) ∧ Hid (Own wr w1.heap.size 3 1 (some ⟨w1.heap.size + 1 + 1, 0, none⟩) n n us) ∧ Hid (RndAt K L r i us) ∧ Hid (Own wr Wo.heap.size 35 1 A m d (((ps.take i).filter fun p => inB K L (r + 1) p.2).map (·.1)))) (fun fr wr => n - (intOf (fr 9)).toNat) ?_ ?_
  · (exact ⟨T0, 0, 0, 0, _, _, by omega, by omega, rfl, rfl, rfl, OR0, hRN, ON⟩)
  intro ks fr wr hkept hrel; (try dsimp only at hrel)
  change Code.wp _ _ _ ⟨#[fr 0, ks 1, ks 2, fr 3, ks 4, ks 5, ks 6, fr 7, fr 8, fr 9, fr 10, fr 11, fr 12, fr 13, fr 14, fr 15, fr 16, fr 17, fr 18, fr 19, fr 20, fr 21, fr 22, ks 23, ks 24, ks 25, fr 26, fr 27, fr 28, fr 29, fr 30, fr 31, fr 32, fr 33, fr 34, fr 35, fr 36, fr 37, fr 38, fr 39, fr 40, fr 41, fr 42, fr 43, fr 44, fr 45, fr 46, fr 47, fr 48, fr 49, fr 50, fr 51, fr 52, fr 53, fr 54, fr 55, fr 56, fr 57, fr 58, fr 59, fr 60, fr 61, fr 62, fr 63, ks 64, ks 65, ks 66, ks 67, ks 68, ks 69, ks 70, ks 71, ks 72, ks 73, ks 74], []⟩ wr
  simp only [KeptV, List.getD_cons_zero, List.getD_cons_succ] at hkept; obtain ⟨hk1, hk2, hk4, hk5, hk6, hk23, hk24, hk25, hk64, hk65, hk66, hk67, hk68, hk69, hk70, hk71, hk72, hk73, hk74, -⟩ := hkept
  generalize ks 1 = k1 at hk1 ⊢; subst hk1
  generalize ks 2 = k2 at hk2 ⊢; subst hk2
  generalize ks 4 = k4 at hk4 ⊢; subst hk4
  generalize ks 5 = k5 at hk5 ⊢; subst hk5
  generalize ks 6 = k6 at hk6 ⊢; subst hk6
  generalize ks 23 = k23 at hk23 ⊢; subst hk23
  generalize ks 24 = k24 at hk24 ⊢; subst hk24
  generalize ks 25 = k25 at hk25 ⊢; subst hk25
  generalize ks 64 = k64 at hk64 ⊢; subst hk64
  generalize ks 65 = k65 at hk65 ⊢; subst hk65
  generalize ks 66 = k66 at hk66 ⊢; subst hk66
  generalize ks 67 = k67 at hk67 ⊢; subst hk67
  generalize ks 68 = k68 at hk68 ⊢; subst hk68
  generalize ks 69 = k69 at hk69 ⊢; subst hk69
  generalize ks 70 = k70 at hk70 ⊢; subst hk70
  generalize ks 71 = k71 at hk71 ⊢; subst hk71
  generalize ks 72 = k72 at hk72 ⊢; subst hk72
  generalize ks 73 = k73 at hk73 ⊢; subst hk73
  generalize ks 74 = k74 at hk74 ⊢; subst hk74
  generalize fr 7 = s7 at hrel ⊢
  generalize fr 8 = s8 at hrel ⊢
  generalize fr 9 = s9 at hrel ⊢
  obtain ⟨hT, i, m, d, A, us2, hi, hmi, hs1, hs2, hs3, hOR2, hRN2, hON⟩ := hrel
  subst hs1
  subst hs2
  subst hs3
  clear ON T0 OR0
  have hE1 : Hid (Ext w1 wr) := hide (HE.out.touched hT.out (by omega))
  have bf := BF.out.ext hE1.out
  have bs := hBS.out.touch1 (by omega) hT.out
  have c0 := bf.cell 0 (.int .i64 v) rfl
  have c1 := bf.cell 1 (.slice C nc dc) rfl
  have s0 := bs.cell 0 (.slice (some ⟨gA, 0, none⟩) n cA) rfl
  have s1 := bs.cell 1 (.slice (some ⟨w1.heap.size + 1 + 1, 0, none⟩) n n) rfl
  have s2 := bs.cell 2 (.slice AC r cC) rfl
  have s3 := bs.cell 3 (.slice AL nL cL) rfl
  have hwz := hT.out.size
  obtain ⟨ct, hct⟩ : ∃ ct : Nat, ct = ((L.take i).filter (goneB K L r)).length := ⟨_, rfl⟩
  rw [← hct]
  have HCt := hide hct
  have hct7 : ct ≤ 729 := by
    have h1 := List.length_filter_le (goneB K L r) (L.take i)
    have h2 : (L.take i).length ≤ L.length := by rw [List.length_take]; omega
    have h3 := HLn.out
    omega
  clear hct
  by_cases hlt : i < n
  · obtain ⟨x, hx⟩ : ∃ x, ps[i]? = some x := ⟨_, List.getElem?_eq_getElem (by have := HOut.out.len; simp at this; omega)⟩
    obtain ⟨xv, xs⟩ := x
    have hLx : L[i]? = some xs := by rw [← HPS.out, List.getElem?_map, hx]; rfl
    have hok := HOK.out xs (List.mem_of_getElem? hLx)
    have hrow := (HPR.out.row _ (List.mem_of_getElem? hx)).ext hE1.out
    obtain ⟨X, z, hxv, hxo, hxl, -⟩ := hrow
    dsimp only at hxv hxo hxl
    subst hxv
    have gx : wr.cell? ⟨gA, i, none⟩ = some (.slice X xs.length z) := (HOut.out.ext hE1.out).cell (by rw [List.getElem?_map, hx]; rfl)
    have hul : us2.length = n := by have := hOR2.out.len; omega
    have gr : wr.cell? ⟨w1.heap.size + 1 + 1, i, none⟩ = some (.int .i64 (rd K L r xs : Nat)) := hOR2.out.cell (hRN2.out.get hLx)
    have gf := hOR2.out.frozen i
    have hft := filter_take (q := fun p : Value × List Int => inB K L (r + 1) p.2) hx
    have hgt := gone_take K L r (hide hLx)
    dsimp only at hft
    cases hin : inB K L r xs
    · have hg : goneB K L r xs = false := by unfold goneB; rw [hin]; rfl
      have hi2 : inB K L (r + 1) xs = false := by rw [in_succ, hin]; rfl
      have hr0 : rd K L r xs ≠ 0 := fun e => by rw [(rd_zero K L r xs).1 e] at hin; cases hin
      rw [hi2, if_neg (by simp), List.append_nil] at hft
      rw [hg, if_neg (by simp), Nat.add_zero] at hgt
      have HR3 := hide (hRN2.out.same hLx hg)
      obtain ⟨t, ht⟩ : ∃ t, t = rd K L r xs := ⟨_, rfl⟩
      rw [← ht] at gr hr0
      have htp : (0 : Int) < (t : Int) := by omega
      rw [← hft] at hON
      have HC2 : Hid (ct = ((L.take (i + 1)).filter (goneB K L r)).length) := hide (by rw [HCt.out]; exact hgt.symm)
      clear hft hgt hin hg hi2 hLx hok hx hxo hRN2 HCt ht
      go_wp2_with fail
      exact ⟨⟨(by (repeat (first | exact trivial | refine ⟨rfl, ?_⟩))), hT, i + 1, m, d, A, us2, by omega, by omega, by go_num, rfl, by rw [← HC2.out]; rfl, hOR2, HR3, hON⟩, (by simp [intOf] <;> omega)⟩
    · have hr0 := (rd_zero K L r xs).2 hin
      rw [hr0] at gr
      have gr0 : wr.cell? ⟨w1.heap.size + 1 + 1, i, none⟩ = some (.int .i64 0) := gr
      have hOL2 := hOL.out.touch1 hOR.out (by decide) hT.out
      have hPF : PRows wr (w.heap.size + 1 + 1) wr.heap.size 3 (ps.filter fun p => inB K L r p.2) := ((HPR.out.ext hE1.out).wider (by omega)).filter _
      have hint := (OwnRows.ofP hOL2 hPF (fun k hk => (hOL2.lt k hk).2)).intss (by omega)
      rw [HLF.out] at hint
      have hsm : ∀ y ∈ leftS K L r, Small y := fun y hy => clause_small (HOK.out y (List.mem_filter.1 hy).1)
      have HKe := hide (fun (Wd : World) (E : Ext wr Wd) => l13Keeps_c v W C nc dc AL nL cL (leftS K L r) X xs.length z xs Wd (hint.ext E) ((hxo.ints (by omega)).ext E) hxo.capV (by omega) (asc_filter HAsc.out _) hsm (clause_small hok) (by omega) (by have := (clause_facts hok).2.2; omega))
      rw [← HK.out] at HKe
      have e0 := (Ext.refl wr).drew
      have d0 := e0.cell c0
      have d1 := e0.cell c1
      have d2 := e0.cell s0
      have d3 := e0.cell s3
      have d4 := e0.cell gx
      have HT2 := hide (fun (Wd : World) (E : Ext wr Wd) => hT.out.trans (E.touch (w1.heap.size + 1 + 1) (w1.heap.size + 1 + 1 + 1)))
      cases hk : K (leftS K L r) xs
      · have hg : goneB K L r xs = true := by unfold goneB; rw [hin, hk]; rfl
        have hi2 : inB K L (r + 1) xs = false := by rw [in_succ, hin, hk]; rfl
        rw [hi2, if_neg (by simp), List.append_nil] at hft
        rw [hg, if_pos rfl] at hgt
        rw [hk] at HKe
        have HR3 := hide (hRN2.out.set hLx hg (by omega))
        have HF := hide hft
        have HC2 : Hid (ct + 1 = ((L.take (i + 1)).filter (goneB K L r)).length) := hide (by rw [HCt.out]; exact hgt.symm)
        clear hft hgt hin hg hi2 hLx hok hx hr0 hxo hint hsm hPF hOL2 hRN2 hk gr HCt
        go_wp2_with fail
        refine wp_region_held_drew (S := (fun w' => w'.cell? ⟨w.heap.size, 0, none⟩ = some (.int .i64 v) ∧ w'.cell? ⟨w.heap.size, 1, none⟩ = some (.slice C nc dc) ∧ w'.cell? ⟨w1.heap.size + 1, 0, none⟩ = some (.slice (some ⟨gA, 0, none⟩) n cA) ∧ w'.cell? ⟨w1.heap.size + 1, 3, none⟩ = some (.slice AL nL cL) ∧ w'.cell? ⟨gA, i, none⟩ = some (.slice X xs.length z))) (by kernel_rfl) ?_ (fun hHeld => ?_)
        · ((try dsimp only); (first | exact ⟨d0, d1, d2, d3, d4⟩ | exact ⟨E4.out.cell c0, E4.out.cell c1, E4.out.cell s0, E4.out.cell s3, E4.out.cell gx⟩))
        refine heldTake 0 (v := ?_) rfl (by kernel_rfl) (by kernel_rfl) (by kernel_rfl) (fun _ _ _ h => h) (Or.inl ⟨by rfl, ?_⟩) (by assumption) ?_
        rotate_left 1
        focus (intro wS hSw; (try dsimp only at hSw); go_simp; (try with_reducible rfl))
        (try simp only [Act.put, List.setIfInBounds_toArray, List.set_cons_zero, List.set_cons_succ])
        refine heldTake 1 (v := ?_) rfl (by kernel_rfl) (by kernel_rfl) (by kernel_rfl) (fun _ _ _ h => h) (Or.inl ⟨by rfl, ?_⟩) (by assumption) ?_
        rotate_left 1
        focus (intro wS hSw; (try dsimp only at hSw); go_simp; (try with_reducible rfl))
        (try simp only [Act.put, List.setIfInBounds_toArray, List.set_cons_zero, List.set_cons_succ])
        refine heldTake 2 (v := ?_) rfl (by kernel_rfl) (by kernel_rfl) (by kernel_rfl) (fun _ _ _ h => h) (Or.inl ⟨by rfl, ?_⟩) (by assumption) ?_
        rotate_left 1
        focus (intro wS hSw; (try dsimp only at hSw); go_simp; (try with_reducible rfl))
        (try simp only [Act.put, List.setIfInBounds_toArray, List.set_cons_zero, List.set_cons_succ])
        refine heldTake 3 (v := ?_) rfl (by kernel_rfl) (by kernel_rfl) (by kernel_rfl) (fun _ _ _ h => h) (Or.inl ⟨by rfl, ?_⟩) (by assumption) ?_
        rotate_left 1
        focus (intro wS hSw; (try dsimp only at hSw); go_simp; (try with_reducible rfl))
        (try simp only [Act.put, List.setIfInBounds_toArray, List.set_cons_zero, List.set_cons_succ])
        refine heldTake 4 (v := ?_) rfl (by kernel_rfl) (by kernel_rfl) (by kernel_rfl) (fun _ _ _ h => h) (Or.inl ⟨by rfl, ?_⟩) (by assumption) ?_
        rotate_left 1
        focus (intro wS hSw; (try dsimp only at hSw); go_simp; (try with_reducible rfl))
        (try simp only [Act.put, List.setIfInBounds_toArray, List.set_cons_zero, List.set_cons_succ])
        refine heldTake 5 (v := ?_) rfl (by kernel_rfl) (by kernel_rfl) (by kernel_rfl) (fun _ _ _ h => h) (Or.inl ⟨by rfl, ?_⟩) (by assumption) ?_
        rotate_left 1
        focus (intro wS hSw; (try dsimp only at hSw); go_simp; (try with_reducible rfl))
        (try simp only [Act.put, List.setIfInBounds_toArray, List.set_cons_zero, List.set_cons_succ])
        refine heldTake 6 (v := ?_) rfl (by kernel_rfl) (by kernel_rfl) (by kernel_rfl) (fun _ _ _ h => h) (Or.inl ⟨by rfl, ?_⟩) (by assumption) ?_
        rotate_left 1
        focus (intro wS hSw; (try dsimp only at hSw); go_simp; (try with_reducible rfl))
        (try simp only [Act.put, List.setIfInBounds_toArray, List.set_cons_zero, List.set_cons_succ])
        refine heldTake 7 (v := ?_) rfl (by kernel_rfl) (by kernel_rfl) (by kernel_rfl) (fun _ _ _ h => h) (Or.inl ⟨by rfl, ?_⟩) (by assumption) ?_
        rotate_left 1
        focus (intro wS hSw; (try dsimp only at hSw); go_simp; (try with_reducible rfl))
        (try simp only [Act.put, List.setIfInBounds_toArray, List.set_cons_zero, List.set_cons_succ])
        refine heldTake 8 (v := ?_) rfl (by kernel_rfl) (by kernel_rfl) (by kernel_rfl) (fun _ _ _ h => h) (Or.inl ⟨by rfl, ?_⟩) (by assumption) ?_
        rotate_left 1
        focus (intro wS hSw; (try dsimp only at hSw); go_simp; (try with_reducible rfl))
        (try simp only [Act.put, List.setIfInBounds_toArray, List.set_cons_zero, List.set_cons_succ])
        refine wpAnyH_ready (rs := [9]) (by kernel_rfl) (by simp) ?_
        refine heldStep 9 rfl (fun K hK => ?_) AllReadyH.nil
        rw [if_pos (by kernel_rfl)]
        (go_wp2_with (go_at_call 53; (with_reducible refine (HKe.out _ (by (repeat (first | with_reducible exact Ext.refl _ | with_reducible assumption | ((with_reducible refine Ext.setCell ?_ ?_ _); rotate_left; focus (first | omega | (simp <;> omega))) | with_reducible refine Ext.alloc ?_ _ | with_reducible refine Ext.drewN ?_ _ | with_reducible refine Ext.drew ?_ | with_reducible refine Ext.trans ?_ (by with_reducible assumption))))).mono ?_); rintro e w4 ⟨rfl, he4⟩; have E4 : Hid (Ext wr w4) := hide (Ext.trans (by (repeat (first | with_reducible exact Ext.refl _ | with_reducible assumption | ((with_reducible refine Ext.setCell ?_ ?_ _); rotate_left; focus (first | omega | (simp <;> omega))) | with_reducible refine Ext.alloc ?_ _ | with_reducible refine Ext.drewN ?_ _ | with_reducible refine Ext.drew ?_ | with_reducible refine Ext.trans ?_ (by with_reducible assumption)))) he4)))
        refine hK.out _ _ ?_ (fun hHeld => ?_)
        · ((try dsimp only); (first | exact ⟨d0, d1, d2, d3, d4⟩ | exact ⟨E4.out.cell c0, E4.out.cell c1, E4.out.cell s0, E4.out.cell s3, E4.out.cell gx⟩))
        clear hK K
        (try simp only [Act.put, List.setIfInBounds_toArray, List.set_cons_zero, List.set_cons_succ])
        refine wpAnyH_done (by kernel_rfl) ?_ _
        have y1 := E4.out.cell s1
        have hOR3 := hide (hOR2.out.ext E4.out)
        have yg := E4.out.cell gr0
        have yf := hOR3.out.frozen i
        have hON3 := hide (hON.out.ext E4.out)
        have HT3 := hide ((HT2.out w4 E4.out).trans (touch_set (w := w4) (g := w1.heap.size + 1 + 1) (j := i) (u := .int .i64 ((r : Int) + 1))))
        have HON4 := hide (hON3.out.touch1 hOR3.out (by decide) (touch_set (w := w4) (g := w1.heap.size + 1 + 1) (j := i) (u := .int .i64 ((r : Int) + 1))))
        rw [← HF.out] at HON4
        have HOR4 := hide (hOR3.out.store i (.int .i64 ((r : Int) + 1)))
        clear hT hON hON3 hOR3 hOR2 HT2 HKe
        go_wp2_with fail
        exact ⟨⟨(by (repeat (first | exact trivial | refine ⟨rfl, ?_⟩))), HT3, i + 1, m, d, A, _, by omega, by omega, by go_num, rfl, by rw [← HC2.out]; go_num, HOR4, HR3, HON4⟩, (by simp [intOf] <;> omega)⟩
      · have hg : goneB K L r xs = false := by unfold goneB; rw [hk, Bool.not_true, Bool.and_false]
        have hi2 : inB K L (r + 1) xs = true := by rw [in_succ, hin, hk]; rfl
        rw [hi2, if_pos rfl] at hft
        rw [hg, if_neg (by simp), Nat.add_zero] at hgt
        rw [hk] at HKe
        have HR3 := hide (hRN2.out.same hLx hg)
        have HF := hide hft
        have HC2 : Hid (ct = ((L.take (i + 1)).filter (goneB K L r)).length) := hide (by rw [HCt.out]; exact hgt.symm)
        clear hft hgt hin hg hi2 hLx hok hx hr0 hxo hint hsm hPF hOL2 hRN2 hk gr HCt
        go_wp2_with fail
        refine wp_region_held_drew (S := (fun w' => w'.cell? ⟨w.heap.size, 0, none⟩ = some (.int .i64 v) ∧ w'.cell? ⟨w.heap.size, 1, none⟩ = some (.slice C nc dc) ∧ w'.cell? ⟨w1.heap.size + 1, 0, none⟩ = some (.slice (some ⟨gA, 0, none⟩) n cA) ∧ w'.cell? ⟨w1.heap.size + 1, 3, none⟩ = some (.slice AL nL cL) ∧ w'.cell? ⟨gA, i, none⟩ = some (.slice X xs.length z))) (by kernel_rfl) ?_ (fun hHeld => ?_)
        · ((try dsimp only); (first | exact ⟨d0, d1, d2, d3, d4⟩ | exact ⟨E4.out.cell c0, E4.out.cell c1, E4.out.cell s0, E4.out.cell s3, E4.out.cell gx⟩))
        refine heldTake 0 (v := ?_) rfl (by kernel_rfl) (by kernel_rfl) (by kernel_rfl) (fun _ _ _ h => h) (Or.inl ⟨by rfl, ?_⟩) (by assumption) ?_
        rotate_left 1
        focus (intro wS hSw; (try dsimp only at hSw); go_simp; (try with_reducible rfl))
        (try simp only [Act.put, List.setIfInBounds_toArray, List.set_cons_zero, List.set_cons_succ])
        refine heldTake 1 (v := ?_) rfl (by kernel_rfl) (by kernel_rfl) (by kernel_rfl) (fun _ _ _ h => h) (Or.inl ⟨by rfl, ?_⟩) (by assumption) ?_
        rotate_left 1
        focus (intro wS hSw; (try dsimp only at hSw); go_simp; (try with_reducible rfl))
        (try simp only [Act.put, List.setIfInBounds_toArray, List.set_cons_zero, List.set_cons_succ])
        refine heldTake 2 (v := ?_) rfl (by kernel_rfl) (by kernel_rfl) (by kernel_rfl) (fun _ _ _ h => h) (Or.inl ⟨by rfl, ?_⟩) (by assumption) ?_
        rotate_left 1
        focus (intro wS hSw; (try dsimp only at hSw); go_simp; (try with_reducible rfl))
        (try simp only [Act.put, List.setIfInBounds_toArray, List.set_cons_zero, List.set_cons_succ])
        refine heldTake 3 (v := ?_) rfl (by kernel_rfl) (by kernel_rfl) (by kernel_rfl) (fun _ _ _ h => h) (Or.inl ⟨by rfl, ?_⟩) (by assumption) ?_
        rotate_left 1
        focus (intro wS hSw; (try dsimp only at hSw); go_simp; (try with_reducible rfl))
        (try simp only [Act.put, List.setIfInBounds_toArray, List.set_cons_zero, List.set_cons_succ])
        refine heldTake 4 (v := ?_) rfl (by kernel_rfl) (by kernel_rfl) (by kernel_rfl) (fun _ _ _ h => h) (Or.inl ⟨by rfl, ?_⟩) (by assumption) ?_
        rotate_left 1
        focus (intro wS hSw; (try dsimp only at hSw); go_simp; (try with_reducible rfl))
        (try simp only [Act.put, List.setIfInBounds_toArray, List.set_cons_zero, List.set_cons_succ])
        refine heldTake 5 (v := ?_) rfl (by kernel_rfl) (by kernel_rfl) (by kernel_rfl) (fun _ _ _ h => h) (Or.inl ⟨by rfl, ?_⟩) (by assumption) ?_
        rotate_left 1
        focus (intro wS hSw; (try dsimp only at hSw); go_simp; (try with_reducible rfl))
        (try simp only [Act.put, List.setIfInBounds_toArray, List.set_cons_zero, List.set_cons_succ])
        refine heldTake 6 (v := ?_) rfl (by kernel_rfl) (by kernel_rfl) (by kernel_rfl) (fun _ _ _ h => h) (Or.inl ⟨by rfl, ?_⟩) (by assumption) ?_
        rotate_left 1
        focus (intro wS hSw; (try dsimp only at hSw); go_simp; (try with_reducible rfl))
        (try simp only [Act.put, List.setIfInBounds_toArray, List.set_cons_zero, List.set_cons_succ])
        refine heldTake 7 (v := ?_) rfl (by kernel_rfl) (by kernel_rfl) (by kernel_rfl) (fun _ _ _ h => h) (Or.inl ⟨by rfl, ?_⟩) (by assumption) ?_
        rotate_left 1
        focus (intro wS hSw; (try dsimp only at hSw); go_simp; (try with_reducible rfl))
        (try simp only [Act.put, List.setIfInBounds_toArray, List.set_cons_zero, List.set_cons_succ])
        refine heldTake 8 (v := ?_) rfl (by kernel_rfl) (by kernel_rfl) (by kernel_rfl) (fun _ _ _ h => h) (Or.inl ⟨by rfl, ?_⟩) (by assumption) ?_
        rotate_left 1
        focus (intro wS hSw; (try dsimp only at hSw); go_simp; (try with_reducible rfl))
        (try simp only [Act.put, List.setIfInBounds_toArray, List.set_cons_zero, List.set_cons_succ])
        refine wpAnyH_ready (rs := [9]) (by kernel_rfl) (by simp) ?_
        refine heldStep 9 rfl (fun K hK => ?_) AllReadyH.nil
        rw [if_pos (by kernel_rfl)]
        (go_wp2_with (go_at_call 53; (with_reducible refine (HKe.out _ (by (repeat (first | with_reducible exact Ext.refl _ | with_reducible assumption | ((with_reducible refine Ext.setCell ?_ ?_ _); rotate_left; focus (first | omega | (simp <;> omega))) | with_reducible refine Ext.alloc ?_ _ | with_reducible refine Ext.drewN ?_ _ | with_reducible refine Ext.drew ?_ | with_reducible refine Ext.trans ?_ (by with_reducible assumption))))).mono ?_); rintro e w4 ⟨rfl, he4⟩; have E4 : Hid (Ext wr w4) := hide (Ext.trans (by (repeat (first | with_reducible exact Ext.refl _ | with_reducible assumption | ((with_reducible refine Ext.setCell ?_ ?_ _); rotate_left; focus (first | omega | (simp <;> omega))) | with_reducible refine Ext.alloc ?_ _ | with_reducible refine Ext.drewN ?_ _ | with_reducible refine Ext.drew ?_ | with_reducible refine Ext.trans ?_ (by with_reducible assumption)))) he4)))
        refine hK.out _ _ ?_ (fun hHeld => ?_)
        · ((try dsimp only); (first | exact ⟨d0, d1, d2, d3, d4⟩ | exact ⟨E4.out.cell c0, E4.out.cell c1, E4.out.cell s0, E4.out.cell s3, E4.out.cell gx⟩))
        clear hK K
        (try simp only [Act.put, List.setIfInBounds_toArray, List.set_cons_zero, List.set_cons_succ])
        refine wpAnyH_done (by kernel_rfl) ?_ _
        have y0 := E4.out.cell s0
        have yx := E4.out.cell gx
        have hOR3 := hide (hOR2.out.ext E4.out)
        have hon3 := hON.out.ext E4.out
        have hz4 := E4.out.size
        have HT3 := hide (HT2.out w4 E4.out)
        clear hT HT2 HKe hON hOR2
        go_wp2_with (at_builtin; refine wpList_app rfl _ _ _ _ rfl Try.underlying22 _ 1 24 info_ints rfl (by decide) rfl hon3 1 [.slice X xs.length z] (by first | rfl | simp [go_sem]) rfl ?_ ?_ ?_ ?_ ?_; (intro u hu; simp at hu; first | (subst hu; rfl) | (rcases hu with rfl | rfl <;> rfl) | (rcases hu with rfl | rfl | rfl <;> rfl) | (rcases hu with rfl | rfl | rfl | rfl <;> rfl) | (rcases hu with rfl | rfl | rfl | rfl | rfl <;> rfl) | (rcases hu with rfl | rfl | rfl | rfl | rfl | rfl <;> rfl)); omega; omega; (first | omega | (simp; omega)); intro A' c' w' ho' hg' hb')
        have HT4 := hide (HT3.out.grownNew hg' (fun k hk => (hon3.lt k hk).1))
        have HOR4 := hide (hOR3.out.kept hg' (hOR3.out.ne_type hon3 (by decide)))
        have HON4 : Hid (Own w' Wo.heap.size 35 1 A' (m + 1) c' (((ps.take (i + 1)).filter fun p => inB K L (r + 1) p.2).map (·.1))) := hide (by rw [HF.out, List.map_append]; exact ho')
        clear HT3 hOR3 hon3 hg' ho' hb'
        exact ⟨⟨(by (repeat (first | exact trivial | refine ⟨rfl, ?_⟩))), HT4, i + 1, m + 1, c', A', us2, by omega, by omega, by go_num, rfl, by rw [← HC2.out]; rfl, HOR4, HR3, HON4⟩, (by simp [intOf] <;> omega)⟩
  · obtain rfl : i = n := by omega
    rw [HNL.out] at hRN2
    have hon2 := hON.out
    rw [List.take_of_length_le (by have := HOut.out.len; simp at this; omega)] at hon2
    have HON2 := hide hon2
    have HCn : Hid (ct = cntS K L r) := hide (by rw [HCt.out, List.take_of_length_le (by rw [HNL.out]; exact Nat.le_refl _)]; rfl)
    clear hON hon2 HCt
    by_cases hc0 : ct = 0
    · have hst : IsStop K L r := ⟨by rw [← HCn.out]; exact hc0, hcn.out⟩
      have HSt := hide (stop_eq K L hst)
      have HRl := hide ((hRN2.out.stop hst.1).list (by have := hOR2.out.len; rw [← HNL.out]; omega))
      have br := BR.out.ext hE1.out
      have hOA := OwnRows.ofP (HOut.out.ext hE1.out) ((HPR.out.ext hE1.out).wider (hi' := wr.heap.size) (by omega)) (fun k hk => ((HOut.out.ext hE1.out).lt k hk).2)
      rw [HPS.out] at hOA
      have hOCr := hOC.out.touch2 hne.out hT.out
      have HOA := hide hOA
      have HOC2 := hide hOCr
      have HBR := hide br
      have r0 := br.frozen 0
      have r1 := br.frozen 1
      have r2 := br.frozen 2
      have r3 := br.frozen 3
      have t0 := br.cell 0 (.slice none 0 0) rfl
      have t1 := br.cell 1 (.slice none 0 0) rfl
      have t2 := br.cell 2 (.slice none 0 0) rfl
      have t3 := br.cell 3 (.slice none 0 0) rfl
      subst hc0
      clear hst hRN2 hOA hOCr br HON2 HCn
      go_wp2_with fail
      refine (?main : ∀ WW : World, BoxAt WW (w.heap.size + 1) 51 #[.slice (some ⟨gA, 0, none⟩) i cA, .slice (some ⟨w1.heap.size + 1 + 1, 0, none⟩) i i, .slice AC r cC, .slice AL nL cL] → Touch (w.heap.size + 1) (w.heap.size + 1 + 1) wr WW → bodyPost _ _ _ _ _ WW) _ ?_ ?_
      case main =>
        intro WW hbw htw
        have q0 := hbw.cell 0 _ rfl
        have q1 := hbw.cell 1 _ rfl
        have q2 := hbw.cell 2 _ rfl
        have q3 := hbw.cell 3 _ rfl
        have hoa := (HOA.out.touchAny htw (.inl (Nat.le_refl _))).wider htw.size
        have hor := hOR2.out.touch htw (by omega)
        rw [HRl.out] at hor
        have hoc := HOC2.out.touch htw (by omega)
        have hew := (ew1.out.trans hE1.out).touched htw (by omega)
        refine bodyPost_ret (v := .agg #[.slice (some ⟨gA, 0, none⟩) i cA, .slice (some ⟨w1.heap.size + 1 + 1, 0, none⟩) i i, .slice AC r cC, .slice AL nL cL]) (by simp only [results, Try.results33]; simp [go_sem, q0, q1, q2, q3]) rfl ?_
        refine ⟨gA, i, cA, w1.heap.size + 1 + 1, AC, r, cC, AL, nL, cL, rfl, ⟨_, hoa.lower (by omega)⟩, ?_, ?_, hew⟩
        · rw [HSt.out]; exact hor.lower (by omega)
        · rw [HSt.out]; exact hoc.lower (by omega)
      · with_reducible refine BoxAt.set4 (z0 := .slice none 0 0) (z1 := .slice none 0 0) (z2 := .slice none 0 0) (z3 := .slice none 0 0) ?_
        exact HBR.out
      · exact (((touch_set).trans touch_set).trans touch_set).trans touch_set
    · have hcp : 0 < cntS K L r := by have := HCn.out; omega
      have hcn2 : ∀ q < r + 1, 0 < cntS K L q := fun q hq => by
        by_cases e : q = r
        · subst e; exact hcp
        · exact hcn.out q (by omega)
      have hrn : r + 1 ≤ i := by
        have h1 := left_sum K L (r + 1) hcn2
        have := HNL.out; omega
      have HCN := hide hcn2
      have HRN := hide hRN2.out.all
      have hoc := hOC.out.touch2 hne.out hT.out
      have HBS := hide bs
      have bsf0 := bs.frozen 2
      have bsf1 := bs.frozen 3
      have hr9 : r ≤ 729 := by have := HLn.out; have := HNL.out; omega
      have HE2 := hide hE1.out
      clear hcp hcn2 hRN2 bs hE1
      go_wp2_with ((at_builtin; refine wpList_app rfl _ _ _ _ rfl Try.underlying35 _ 1 8 info_int rfl (by decide) rfl hoc 1 [.int .i64 ct] (by first | rfl | simp [go_sem]) rfl ?_ ?_ ?_ ?_ ?_; (intro u hu; simp at hu; first | (subst hu; rfl) | (rcases hu with rfl | rfl <;> rfl) | (rcases hu with rfl | rfl | rfl <;> rfl) | (rcases hu with rfl | rfl | rfl | rfl <;> rfl) | (rcases hu with rfl | rfl | rfl | rfl | rfl <;> rfl) | (rcases hu with rfl | rfl | rfl | rfl | rfl | rfl <;> rfl)); omega; omega; (first | omega | (simp; omega)); intro A' c' w' ho' hg' hb'); have hq := HBS.out.grown hoc (by decide) hg'; have u2 := hq.cell 2 (.slice AC r cC) rfl; have u3 := hq.cell 3 (.slice AL nL cL) rfl; have u4 := hq.frozen 2; have u5 := hq.frozen 3; have HQ := hide hq; have HO := hide ho'; have HG := hide hg'; have HK2 := hide hb'; clear hq ho' hg' hb')
      have hz2 := HG.out.size
      have o1 : Own w' w1.heap.size 3 1 A' (r + 1) c' ((cntL K L (r + 1)).map (Value.int .i64)) := by
        rw [cntL_succ, ← HCn.out, List.map_append]; exact HO.out
      have o2 := hOR2.out.kept HG.out (.inr (fun e => hne.out e.symm))
      have o3 := HON2.out.kept HG.out (HON2.out.ne_type hoc (by decide))
      have n1 := HQ.out.ne o1 (by decide)
      have n2 := HQ.out.ne o3 (by decide)
      have n3 : (Value.slice (some ⟨w1.heap.size + 1 + 1, 0, none⟩) i i).ownBlock ≠ some (w1.heap.size + 1) := by simp [Value.ownBlock]
      have n4 : (Value.slice A' (r + 1) c').ownBlock ≠ some (w1.heap.size + 1 + 1) := by
        intro e
        rcases HK2.out with h1 | ⟨k, h1, h2⟩
        · exact hne.out (h1.symm.trans e)
        · rw [h1] at e; injection e with e; omega
      have HB9 : Hid (BoxAt ((w'.setCell ⟨w1.heap.size + 1, 2, none⟩ (.slice A' (r + 1) c')).setCell ⟨w1.heap.size + 1, 3, none⟩ (.slice A m d)) (w1.heap.size + 1) 51 #[.slice (some ⟨gA, 0, none⟩) i cA, .slice (some ⟨w1.heap.size + 1 + 1, 0, none⟩) i i, .slice A' (r + 1) c', .slice A m d]) := hide ((HQ.out.set 2 (.slice A' (r + 1) c')).set 3 (.slice A m d))
      have HR9 := hide ((o2.storeOther (p := ⟨w1.heap.size + 1, 2, none⟩) (.slice A' (r + 1) c') n3).storeOther (p := ⟨w1.heap.size + 1, 3, none⟩) (.slice A m d) n3)
      have HC9 := hide ((o1.storeOther (p := ⟨w1.heap.size + 1, 2, none⟩) (.slice A' (r + 1) c') n1).storeOther (p := ⟨w1.heap.size + 1, 3, none⟩) (.slice A m d) n1)
      have HL9 := hide (((o3.storeOther (p := ⟨w1.heap.size + 1, 2, none⟩) (.slice A' (r + 1) c') n2).storeOther (p := ⟨w1.heap.size + 1, 3, none⟩) (.slice A m d) n2).lower (base' := w.heap.size + 1 + 1) (by omega))
      have HE9 := hide ((((HE2.out.trans_own (Nat.le_refl _) hoc HG.out).setCell (p := ⟨w1.heap.size + 1, 2, none⟩) (by simp) (.slice A' (r + 1) c')).setCell (p := ⟨w1.heap.size + 1, 3, none⟩) (by simp) (.slice A m d)))
      have HN9 := hide n4
      clear o1 o2 o3 n1 n2 n3 n4 HQ HO HG HK2 hoc hOC hne hOL hOR hBS hT hOR2 HON2 hRN
      exact ⟨⟨(by (repeat (first | exact trivial | refine ⟨rfl, ?_⟩))), HE9.out, r + 1, A', c', A, m, d, us2, HCN, by go_num, HB9, HR9, HRN, HC9, HN9, HL9⟩, (by simp [intOf] <;> omega)⟩
end Go.Proofs.Ytaigjmbhgpcalaa
