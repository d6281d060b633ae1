/-
  The inequality of a clause.
-/
import Derived.Test.YtebklankehkmhaaC6
import Derived.Test.YtebklankehkmhaaC14
namespace Go.Proofs.Ytebklankehkmhaa
set_option linter.unusedSimpArgs false
set_option linter.unusedVariables false
open Go.RowKit

def litCells (n : Nat) (c : List Int) : List Int := c.foldl (fun q l => q.set (l.natAbs - 1) (if 0 < l then 1 else -1)) (List.replicate n 0)
def litBound (c : List Int) : Int := c.foldl (fun b l => if 0 < l then b else b - 1) 1
theorem litCells_succ {n : Nat} {c : List Int} {i : Nat} {x : Int} (hx : Hid (c[i]? = some x)) : litCells n (c.take (i + 1)) = (litCells n (c.take i)).set (x.natAbs - 1) (if 0 < x then 1 else -1) := by
  rw [take_succ_of hx]; simp [litCells]
theorem litBound_succ {c : List Int} {i : Nat} {x : Int} (hx : Hid (c[i]? = some x)) : litBound (c.take (i + 1)) = if 0 < x then litBound (c.take i) else litBound (c.take i) - 1 := by
  rw [take_succ_of hx]; simp [litBound]
theorem litCells_length (n : Nat) (c : List Int) : (litCells n c).length = n := by
  have : ∀ (c : List Int) (q : List Int), (c.foldl (fun q l => q.set (l.natAbs - 1) (if 0 < l then 1 else -1)) q).length = q.length := by
    intro c
    induction c with
    | nil => intro q; rfl
    | cons x c ih => intro q; rw [List.foldl_cons, ih]; simp
  rw [litCells, this]; simp
theorem litBound_le (c : List Int) (i : Nat) : 1 - (i : Int) ≤ litBound (c.take i) ∧ litBound (c.take i) ≤ 1 := by
  induction i with
  | zero => simp [litBound]
  | succ i ih =>
    by_cases h : i < c.length
    · rw [litBound_succ (hide (List.getElem?_eq_getElem h))]
      split <;> omega
    · rw [List.take_of_length_le (by omega)] at ih ⊢
      omega
theorem Own.setBox {w : World} {base : Nat} {e : TypeId} {A : Option Addr} {n c : Nat} {us : List Value} (h : Own w base e 1 A n c us) {b : Nat} {t : TypeId} {cs : Array Value} (hb : BoxAt w b t cs) (hne : t ≠ e) (j : Nat) (u : Value) :
    Own (w.setCell ⟨b, j, none⟩ u) base e 1 A n c us := h.storeOther (p := ⟨b, j, none⟩) u (hb.ne h hne)

set_option maxRecDepth 100000 in
set_option maxHeartbeats 1600000 in
theorem l16OfClause_c (n : Nat) (A : Option Addr) (m d : Nat) (c : List Int) (w : World) (h : Ints w A m c) (hn : n ≤ 12) (hm : m ≤ 12) (hc : ∀ x ∈ c, -(n : Int) ≤ x ∧ x ≤ n ∧ x ≠ 0) :
    Calls Try.prog 125 #[.int .i64 n, .slice A m d] w fun e w' =>
      ∃ A' c', e = .returned (.agg #[.slice A' n c', .int .i64 (litBound c)]) ∧ Own w' w.heap.size 3 1 A' n c' ((litCells n c).map (Value.int .i64)) ∧ Ext w w' := by
  have hmk := fun W => make_eq (P := Try.prog) 22 3 Try.underlying22 _ 8 info_int rfl n (by omega) (by omega) W
  have HL := hide h.len
  have HC := hide hc
  clear hc
  have hB := litBound_le c
  have HB := hide hB
  clear hB
  obtain ⟨T, hT⟩ : ∃ T : Int, T = litBound c := ⟨_, rfl⟩
  rw [← hT]
  have HT := hide hT
  clear hT
  go_enter Try.func125, Try.ntmps125
  go_wp2
  clear hmk
  have h2 := BoxAt.made w #[.slice none 0 0, .int .i64 0] 26
  have h3 := Own.made (base := w.heap.size) (w := w.alloc (.cells #[.slice none 0 0, .int .i64 0] 26)) (e := 3) (.int .i64 0) n (by simp) (by simp only [maxLen]; omega)
  have h4 := BoxAt.made ((w.alloc (.cells #[.slice none 0 0, .int .i64 0] 26)).alloc (.cells (madeCells #[.int .i64 0] n) 3)) #[.slice (some ⟨w.heap.size + 1, 0, none⟩) n n, .int .i64 1] 26
  refine wp_loopK _ rfl (fun KK acT wr => ∃ s0 s1 s2 s3 s4 s5 s6 s7 s8 s9 s10 s11 s12 s13 s14 s15 s16 s17 s18 s19 s20 s21 s22 s23 s24 s25 s26 s27 s28 s29 s30 s31 s32 s33 s34 s35 s36 s37 s38 s39 s40 s41 s42 : Value, (KeptM [false, true, false, false, true, true, false, false, false, false, false, false, false, false, false, false, false, false, false, false, false, false, false, false, false, false, false, false, false, false, false, false, false, false, false, false, false, false, false, false, false, false, true] [s0, s1, s2, s3, s4, s5, s6, s7, s8, s9, s10, s11, s12, s13, s14, s15, s16, s17, s18, s19, s20, s21, s22, s23, s24, s25, s26, s27, s28, s29, s30, s31, s32, s33, s34, s35, s36, s37, s38, s39, s40, s41, s42] KK ∧ (Ext w wr ∧ BoxAt wr w.heap.size 26 #[.slice none 0 0, .int .i64 0] ∧ ∃ i : Nat, i ≤ m ∧ s6 = .int .i64 i ∧ ∃ b : Int, Hid (b = litBound (c.take i)) ∧ BoxAt wr (w.heap.size + 1 + 1) 26 #[.slice (some ⟨w.heap.size + 1, 0, none⟩) n n, .int .i64 b] ∧ Own wr w.heap.size 3 1 (some ⟨w.heap.size + 1, 0, none⟩) n n ((litCells n (c.take i)).map (Value.int .i64)))) ∧ acT = ⟨#[s0, s1, s2, s3, s4, s5, s6, s7, s8, s9, s10, s11, s12, s13, s14, s15, s16, s17, s18, s19, s20, s21, s22, s23, s24, s25, s26, s27, s28, s29, s30, s31, s32, s33, s34, s35, s36, s37, s38, s39, s40, s41, s42], []⟩) (fun acT wr => (fun (s6 : Value) (wr : World) => m - (intOf s6).toNat) (acT.tmps.getD 6 undef) wr) ?_ ?_
  · (refine ⟨_, _, _, _, _, _, _, _, _, _, _, _, _, _, _, _, _, _, _, _, _, _, _, _, _, _, _, _, _, _, _, _, _, _, _, _, _, _, _, _, _, _, _, ⟨(by (repeat (first | exact trivial | refine ⟨rfl, ?_⟩))), ?_⟩, rfl⟩; exact ⟨by (repeat (first | with_reducible exact Ext.refl _ | with_reducible assumption | ((with_reducible refine Ext.setCell ?_ ?_ _); rotate_left; focus (first | omega | (simp <;> omega))) | with_reducible refine Ext.alloc ?_ _ | with_reducible refine Ext.drewN ?_ _ | with_reducible refine Ext.drew ?_ | with_reducible refine Ext.trans ?_ (by with_reducible assumption))), (h2.ext (by (repeat (first | with_reducible exact Ext.refl _ | with_reducible assumption | ((with_reducible refine Ext.setCell ?_ ?_ _); rotate_left; focus (first | omega | (simp <;> omega))) | with_reducible refine Ext.alloc ?_ _ | with_reducible refine Ext.drewN ?_ _ | with_reducible refine Ext.drew ?_ | with_reducible refine Ext.trans ?_ (by with_reducible assumption))))).ext (by (repeat (first | with_reducible exact Ext.refl _ | with_reducible assumption | ((with_reducible refine Ext.setCell ?_ ?_ _); rotate_left; focus (first | omega | (simp <;> omega))) | with_reducible refine Ext.alloc ?_ _ | with_reducible refine Ext.drewN ?_ _ | with_reducible refine Ext.drew ?_ | with_reducible refine Ext.trans ?_ (by with_reducible assumption)))), 0, by omega, rfl, 1, by simp [Hid, litBound], by simpa using h4, by simpa [litCells] using h3.ext (by (repeat (first | with_reducible exact Ext.refl _ | with_reducible assumption | ((with_reducible refine Ext.setCell ?_ ?_ _); rotate_left; focus (first | omega | (simp <;> omega))) | with_reducible refine Ext.alloc ?_ _ | with_reducible refine Ext.drewN ?_ _ | with_reducible refine Ext.drew ?_ | with_reducible refine Ext.trans ?_ (by with_reducible assumption))))⟩)
  intro _ wr hinv; obtain ⟨s0, s1, s2, s3, s4, s5, s6, s7, s8, s9, s10, s11, s12, s13, s14, s15, s16, s17, s18, s19, s20, s21, s22, s23, s24, s25, s26, s27, s28, s29, s30, s31, s32, s33, s34, s35, s36, s37, s38, s39, s40, s41, s42, ⟨hkept, hrel⟩, rfl⟩ := hinv; simp only [KeptM] at hkept; obtain ⟨rfl, rfl, rfl, rfl, -⟩ := hkept; (try dsimp only)
  clear h2 h3 h4
  obtain ⟨he, hbr, i, hi, rfl, b, hb, hbx, ho⟩ := hrel
  have r0 := hbr.cell 0 _ rfl
  have r1 := hbr.cell 1 _ rfl
  have rf := hbr.frozen 0
  have rf1 := hbr.frozen 1
  have hbl := hbx.lt
  by_cases hlt : i < m
  · obtain ⟨ad, x, rfl, hx, gc⟩ := h.at_ hlt
    have hxc := HC.out x (List.mem_of_getElem? hx.out)
    have hbb := HB.out i
    rw [← hb.out] at hbb
    have hsc := hide (litCells_succ (n := n) hx)
    have hsb := hide (litBound_succ hx)
    have hed := (Ext.refl wr).drew
    have d0 := hbx.cell 0 _ rfl
    have hc := he.cell gc
    by_cases hpos : 0 < x
    · obtain ⟨u, rfl⟩ : ∃ u : Nat, x = (u : Int) + 1 := ⟨(x - 1).toNat, by omega⟩
      have hu : u < n := by omega
      have hwu := IntWalk.i64_in (u : Int) (by omega)
      have hwu1 := IntWalk.i64_in ((u : Int) + 1) (by omega)
      have hu0 : (0 : Int) ≤ (u : Int) := by omega
      have hun : (u : Int) < (n : Int) := by omega
      have hsb2 : Hid (b = litBound (c.take (i + 1))) := hide (by rw [hsb.out, if_pos (by omega), hb.out])
      have hsc2 : Hid (litCells n (c.take (i + 1)) = (litCells n (c.take i)).set u 1) := hide (by rw [hsc.out, if_pos (by omega)]; congr 1 <;> omega)
      go_wp2
      go_still_tail 8, (by kernel_rfl)
      change wpList _ _ _ _ _ wr.drew
      generalize wr.drew = w2 at hed ⊢
      have ho2 := ho.ext hed
      have hbx2 := hbx.ext hed
      have hbr2 := hbr.ext hed
      obtain ⟨y, hy, hyc, hyf⟩ := ho2.int_at hu
      have ho3 := ho2.setInt u 1
      have hbx3 := hbx2.setOther (p := ⟨w.heap.size + 1, u, none⟩) (by simp) (.int .i64 1)
      have hbr3 := hbr2.setOther (p := ⟨w.heap.size + 1, u, none⟩) (by first | omega | (simp <;> omega)) (.int .i64 1)
      go_wp2
      exact ⟨⟨(by (repeat (first | exact trivial | refine ⟨rfl, ?_⟩))), (he.trans hed).setCell (by first | omega | (simp <;> omega)) _, hbr3, i + 1, by omega, by go_num, b, hsb2, hbx3, by rw [hsc2.out]; exact ho3⟩, (by simp [intOf] <;> omega)⟩
    · obtain ⟨u, rfl⟩ : ∃ u : Nat, x = -((u : Int) + 1) := ⟨(-x - 1).toNat, by omega⟩
      have hu : u < n := by omega
      have hwu := IntWalk.i64_in (u : Int) (by omega)
      have hwu1 := IntWalk.i64_in ((u : Int) + 1) (by omega)
      have hu0 : (0 : Int) ≤ (u : Int) := by omega
      have hun : (u : Int) < (n : Int) := by omega
      have hsb2 : Hid (b - 1 = litBound (c.take (i + 1))) := hide (by rw [hsb.out, if_neg (by omega), hb.out])
      have hsc2 : Hid (litCells n (c.take (i + 1)) = (litCells n (c.take i)).set u (-1)) := hide (by rw [hsc.out, if_neg (by omega)]; congr 1 <;> omega)
      have hw1 := IntWalk.i64_in (- -((u : Int) + 1)) (by omega)
      have hw2 : - -((u : Int) + 1) = (u : Int) + 1 := by omega
      go_wp2
      go_still_tail 9, (by kernel_rfl)
      change wpList _ _ _ _ _ wr.drew
      generalize wr.drew = w2 at hed ⊢
      have ho2 := ho.ext hed
      have hbx2 := hbx.ext hed
      have hbr2 := hbr.ext hed
      obtain ⟨y, hy, hyc, hyf⟩ := ho2.int_at hu
      have ho3 := ho2.setInt u (-1)
      have hbx3 := hbx2.setOther (p := ⟨w.heap.size + 1, u, none⟩) (by simp) (.int .i64 (-1))
      have hbr3 := hbr2.setOther (p := ⟨w.heap.size + 1, u, none⟩) (by first | omega | (simp <;> omega)) (.int .i64 (-1))
      have k1 := hbx3.cell 1 _ rfl
      have kf := hbx3.frozen 1
      have ho4 := ho3.setBox hbx3 (by decide) 1 (.int .i64 (b - 1))
      have hbx4 := hbx3.set 1 (.int .i64 (b - 1))
      have hbr4 := hbr3.setOther (p := ⟨w.heap.size + 1 + 1, 1, none⟩) (by first | omega | (simp <;> omega)) (.int .i64 (b - 1))
      go_wp2
      exact ⟨⟨(by (repeat (first | exact trivial | refine ⟨rfl, ?_⟩))), ((he.trans hed).setCell (by first | omega | (simp <;> omega)) _).setCell (by first | omega | (simp <;> omega)) _, hbr4, i + 1, by omega, by go_num, b - 1, hsb2, by simpa using hbx4, by rw [hsc2.out]; exact ho4⟩, (by simp [intOf] <;> omega)⟩
  · obtain rfl : i = m := by omega
    have hci : c.take i = c := List.take_of_length_le (by have := HL.out; omega)
    rw [hci] at hb ho
    clear hci
    have hbT : b = T := by rw [hb.out, HT.out]
    subst hbT
    have d0 := hbx.cell 0 _ rfl
    have d1 := hbx.cell 1 _ rfl
    go_wp2
    refine bodyPost_ret (v := .agg #[.slice (some ⟨w.heap.size + 1, 0, none⟩) n n, .int .i64 b]) (by simp only [results, Try.results125]; simp [go_sem, r0, r1, rf, rf1]) rfl ⟨_, _, rfl, ?_, ?_⟩
    · exact (ho.setBox hbr (by decide) 0 _).setBox (hbr.set 0 _) (by decide) 1 _
    · exact (he.setCell (by first | omega | (simp <;> omega)) _).setCell (by first | omega | (simp <;> omega)) _
set_option maxRecDepth 100000 in
set_option maxHeartbeats 1600000 in
theorem planeOf_c (n : Nat) (A : Option Addr) (m d : Nat) (c : List Int) (w : World) (h : Ints w A m c) (hn : n ≤ 12) (hm : m ≤ 12) (hc : ∀ x ∈ c, -(n : Int) ≤ x ∧ x ≤ n ∧ x ≠ 0) :
    Calls Try.prog 162 #[.int .i64 n, .slice A m d] w fun e w' =>
      ∃ A' c', e = .returned (.agg #[.slice A' n c', .int .i64 (litBound c)]) ∧ Own w' w.heap.size 3 1 A' n c' ((litCells n c).map (Value.int .i64)) ∧ Ext w w' := by
  have hmk := fun W => make_eq (P := Try.prog) 22 3 Try.underlying22 _ 8 info_int rfl n (by omega) (by omega) W
  have HL := hide h.len
  have HC := hide hc
  clear hc
  have hB := litBound_le c
  have HB := hide hB
  clear hB
  obtain ⟨T, hT⟩ : ∃ T : Int, T = litBound c := ⟨_, rfl⟩
  rw [← hT]
  have HT := hide hT
  clear hT
  go_enter Try.func162, Try.ntmps162
  go_wp2
  clear hmk
  have h2 := BoxAt.made w #[.slice none 0 0, .int .i64 0] 26
  have h3 := Own.made (base := w.heap.size) (w := w.alloc (.cells #[.slice none 0 0, .int .i64 0] 26)) (e := 3) (.int .i64 0) n (by simp) (by simp only [maxLen]; omega)
  have h4 := BoxAt.made ((w.alloc (.cells #[.slice none 0 0, .int .i64 0] 26)).alloc (.cells (madeCells #[.int .i64 0] n) 3)) #[.slice (some ⟨w.heap.size + 1, 0, none⟩) n n, .int .i64 1] 26
  refine wp_loopK _ rfl (fun KK acT wr => ∃ s0 s1 s2 s3 s4 s5 s6 s7 s8 s9 s10 s11 s12 s13 s14 s15 s16 s17 s18 s19 s20 s21 s22 s23 s24 s25 s26 s27 s28 s29 s30 s31 s32 s33 s34 s35 : Value, (KeptM [false, false, false, false, true, true, false, false, false, false, false, true, true, false, false, false, false, false, false, false, false, false, false, false, false, false, false, false, false, false, false, false, false, false, false, true] [s0, s1, s2, s3, s4, s5, s6, s7, s8, s9, s10, s11, s12, s13, s14, s15, s16, s17, s18, s19, s20, s21, s22, s23, s24, s25, s26, s27, s28, s29, s30, s31, s32, s33, s34, s35] KK ∧ (Ext w wr ∧ BoxAt wr w.heap.size 26 #[.slice none 0 0, .int .i64 0] ∧ ∃ i : Nat, i ≤ m ∧ s13 = .int .i64 i ∧ ∃ b : Int, Hid (b = litBound (c.take i)) ∧ BoxAt wr (w.heap.size + 1 + 1) 26 #[.slice (some ⟨w.heap.size + 1, 0, none⟩) n n, .int .i64 b] ∧ Own wr w.heap.size 3 1 (some ⟨w.heap.size + 1, 0, none⟩) n n ((litCells n (c.take i)).map (Value.int .i64)))) ∧ acT = ⟨#[s0, s1, s2, s3, s4, s5, s6, s7, s8, s9, s10, s11, s12, s13, s14, s15, s16, s17, s18, s19, s20, s21, s22, s23, s24, s25, s26, s27, s28, s29, s30, s31, s32, s33, s34, s35], []⟩) (fun acT wr => (fun (s13 : Value) (wr : World) => m - (intOf s13).toNat) (acT.tmps.getD 13 undef) wr) ?_ ?_
  · (refine ⟨_, _, _, _, _, _, _, _, _, _, _, _, _, _, _, _, _, _, _, _, _, _, _, _, _, _, _, _, _, _, _, _, _, _, _, _, ⟨(by (repeat (first | exact trivial | refine ⟨rfl, ?_⟩))), ?_⟩, rfl⟩; exact ⟨by (repeat (first | with_reducible exact Ext.refl _ | with_reducible assumption | ((with_reducible refine Ext.setCell ?_ ?_ _); rotate_left; focus (first | omega | (simp <;> omega))) | with_reducible refine Ext.alloc ?_ _ | with_reducible refine Ext.drewN ?_ _ | with_reducible refine Ext.drew ?_ | with_reducible refine Ext.trans ?_ (by with_reducible assumption))), (h2.ext (by (repeat (first | with_reducible exact Ext.refl _ | with_reducible assumption | ((with_reducible refine Ext.setCell ?_ ?_ _); rotate_left; focus (first | omega | (simp <;> omega))) | with_reducible refine Ext.alloc ?_ _ | with_reducible refine Ext.drewN ?_ _ | with_reducible refine Ext.drew ?_ | with_reducible refine Ext.trans ?_ (by with_reducible assumption))))).ext (by (repeat (first | with_reducible exact Ext.refl _ | with_reducible assumption | ((with_reducible refine Ext.setCell ?_ ?_ _); rotate_left; focus (first | omega | (simp <;> omega))) | with_reducible refine Ext.alloc ?_ _ | with_reducible refine Ext.drewN ?_ _ | with_reducible refine Ext.drew ?_ | with_reducible refine Ext.trans ?_ (by with_reducible assumption)))), 0, by omega, rfl, 1, by simp [Hid, litBound], by simpa using h4, by simpa [litCells] using h3.ext (by (repeat (first | with_reducible exact Ext.refl _ | with_reducible assumption | ((with_reducible refine Ext.setCell ?_ ?_ _); rotate_left; focus (first | omega | (simp <;> omega))) | with_reducible refine Ext.alloc ?_ _ | with_reducible refine Ext.drewN ?_ _ | with_reducible refine Ext.drew ?_ | with_reducible refine Ext.trans ?_ (by with_reducible assumption))))⟩)
  intro _ wr hinv; obtain ⟨s0, s1, s2, s3, s4, s5, s6, s7, s8, s9, s10, s11, s12, s13, s14, s15, s16, s17, s18, s19, s20, s21, s22, s23, s24, s25, s26, s27, s28, s29, s30, s31, s32, s33, s34, s35, ⟨hkept, hrel⟩, rfl⟩ := hinv; simp only [KeptM] at hkept; obtain ⟨rfl, rfl, rfl, rfl, rfl, -⟩ := hkept; (try dsimp only)
  clear h2 h3 h4
  obtain ⟨he, hbr, i, hi, rfl, b, hb, hbx, ho⟩ := hrel
  have r0 := hbr.cell 0 _ rfl
  have r1 := hbr.cell 1 _ rfl
  have rf := hbr.frozen 0
  have rf1 := hbr.frozen 1
  have hbl := hbx.lt
  have d0 := hbx.cell 0 _ rfl
  have d1 := hbx.cell 1 _ rfl
  by_cases hlt : i < m
  · obtain ⟨ad, x, rfl, hx, gc⟩ := h.at_ hlt
    have hxc := HC.out x (List.mem_of_getElem? hx.out)
    have hbb := HB.out i
    rw [← hb.out] at hbb
    have hsc := hide (litCells_succ (n := n) hx)
    have hsb := hide (litBound_succ hx)
    have hc := he.cell gc
    by_cases hpos : 0 < x
    · obtain ⟨u, rfl⟩ : ∃ u : Nat, x = (u : Int) + 1 := ⟨(x - 1).toNat, by omega⟩
      have hu : u < n := by omega
      have hwu := IntWalk.i64_in (u : Int) (by omega)
      have hwu1 := IntWalk.i64_in ((u : Int) + 1) (by omega)
      have hu0 : (0 : Int) ≤ (u : Int) := by omega
      have hun : (u : Int) < (n : Int) := by omega
      have hsb2 : Hid (b = litBound (c.take (i + 1))) := hide (by rw [hsb.out, if_pos (by omega), hb.out])
      have hsc2 : Hid (litCells n (c.take (i + 1)) = (litCells n (c.take i)).set u 1) := hide (by rw [hsc.out, if_pos (by omega)]; congr 1 <;> omega)
      obtain ⟨y, hy, hyc, hyf⟩ := ho.int_at hu
      have ho3 := ho.setInt u 1
      have hbx3 := hbx.setOther (p := ⟨w.heap.size + 1, u, none⟩) (by simp) (.int .i64 1)
      have hbr3 := hbr.setOther (p := ⟨w.heap.size + 1, u, none⟩) (by first | omega | (simp <;> omega)) (.int .i64 1)
      go_wp2
      exact ⟨⟨(by (repeat (first | exact trivial | refine ⟨rfl, ?_⟩))), he.setCell (by first | omega | (simp <;> omega)) _, hbr3, i + 1, by omega, by go_num, b, hsb2, hbx3, by rw [hsc2.out]; exact ho3⟩, (by simp [intOf] <;> omega)⟩
    · obtain ⟨u, rfl⟩ : ∃ u : Nat, x = -((u : Int) + 1) := ⟨(-x - 1).toNat, by omega⟩
      have hu : u < n := by omega
      have hwu := IntWalk.i64_in (u : Int) (by omega)
      have hwu1 := IntWalk.i64_in ((u : Int) + 1) (by omega)
      have hu0 : (0 : Int) ≤ (u : Int) := by omega
      have hun : (u : Int) < (n : Int) := by omega
      have hsb2 : Hid (b - 1 = litBound (c.take (i + 1))) := hide (by rw [hsb.out, if_neg (by omega), hb.out])
      have hsc2 : Hid (litCells n (c.take (i + 1)) = (litCells n (c.take i)).set u (-1)) := hide (by rw [hsc.out, if_neg (by omega)]; congr 1 <;> omega)
      have hw1 := IntWalk.i64_in (- -((u : Int) + 1)) (by omega)
      have hw2 : - -((u : Int) + 1) = (u : Int) + 1 := by omega
      obtain ⟨y, hy, hyc, hyf⟩ := ho.int_at hu
      have ho3 := ho.setInt u (-1)
      have hbx3 := hbx.setOther (p := ⟨w.heap.size + 1, u, none⟩) (by simp) (.int .i64 (-1))
      have hbr3 := hbr.setOther (p := ⟨w.heap.size + 1, u, none⟩) (by first | omega | (simp <;> omega)) (.int .i64 (-1))
      have k1 := hbx3.cell 1 _ rfl
      have kf := hbx3.frozen 1
      have ho4 := ho3.setBox hbx3 (by decide) 1 (.int .i64 (b - 1))
      have hbx4 := hbx3.set 1 (.int .i64 (b - 1))
      have hbr4 := hbr3.setOther (p := ⟨w.heap.size + 1 + 1, 1, none⟩) (by first | omega | (simp <;> omega)) (.int .i64 (b - 1))
      go_wp2
      exact ⟨⟨(by (repeat (first | exact trivial | refine ⟨rfl, ?_⟩))), (he.setCell (by first | omega | (simp <;> omega)) _).setCell (by first | omega | (simp <;> omega)) _, hbr4, i + 1, by omega, by go_num, b - 1, hsb2, by simpa using hbx4, by rw [hsc2.out]; exact ho4⟩, (by simp [intOf] <;> omega)⟩
  · obtain rfl : i = m := by omega
    have hci : c.take i = c := List.take_of_length_le (by have := HL.out; omega)
    rw [hci] at hb ho
    clear hci
    have hbT : b = T := by rw [hb.out, HT.out]
    subst hbT
    go_wp2
    refine bodyPost_ret (v := .agg #[.slice (some ⟨w.heap.size + 1, 0, none⟩) n n, .int .i64 b]) (by simp only [results, Try.results162]; simp [go_sem, r0, r1, rf, rf1]) rfl ⟨_, _, rfl, ?_, ?_⟩
    · exact (ho.setBox hbr (by decide) 0 _).setBox (hbr.set 0 _) (by decide) 1 _
    · exact (he.setCell (by first | omega | (simp <;> omega)) _).setCell (by first | omega | (simp <;> omega)) _
end Go.Proofs.Ytebklankehkmhaa
