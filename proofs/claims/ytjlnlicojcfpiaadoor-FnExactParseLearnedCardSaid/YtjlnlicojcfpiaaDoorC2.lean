/-
  The laws' own helpers over []int: what each computes, for every slice that reads as a list.
-/
import Derived.Test.YtjlnlicojcfpiaaDoorC1
namespace Go.Proofs.YtjlnlicojcfpiaaDoor
set_option linter.unusedSimpArgs false
set_option linter.unusedVariables false
open Go.RowKit

theorem info_int : (Tryd.prog.info? 3).map (fun i => (i.zero, i.size, i.bytes)) = some (some (.int .i64 0), 1, 8) := by kernel_rfl

theorem szIntS_c (A : Option Addr) (n c : Nat) (left : Int) (w : World) (hn : n ≤ 9223372036854775807) (hl : 0 ≤ left ∧ left ≤ 1048576) :
    Calls Tryd.prog 25 #[.slice A n c, .int .i64 left] w fun e w' => e = .returned (.int .i64 (if (n : Int) ≤ left then left - n else -1)) ∧ w = w' := by
  by_cases h : (n : Int) ≤ left
  · rw [if_pos h]
    go_enter Tryd.func25, Tryd.ntmps25
    go_wp2
    go_ret; exact ⟨rfl, rfl⟩
  · rw [if_neg h]
    go_enter Tryd.func25, Tryd.ntmps25
    go_wp2
    go_ret; exact ⟨rfl, rfl⟩
theorem toIntS_c (A : Option Addr) (n c : Nat) (xs : List Int) (w : World) (h : Ints w A n xs) (hn : n ≤ 1048576) :
    Calls Tryd.prog 30 #[.slice A n c] w fun e w' => ∃ A' c', e = .returned (.slice A' n c') ∧ Own w' w.heap.size 3 1 A' n c' (xs.map (Value.int .i64)) ∧ Ext w w' := by
  have hmk := fun W => make_eq (P := Tryd.prog) 38 3 Tryd.underlying38 _ 8 info_int rfl n (by omega) (by omega) W
  have hlen := h.len
  have HL := hide hlen
  clear hlen
  go_enter Tryd.func30, Tryd.ntmps30
  go_wp2
  clear hmk
  refine wp_loop (fun acT wr => ∃ s0 s1 s2 s3 s4 s5 s6 s7 s8 s9 s10 s11 s12 s13 s14 s15 s16 s17 s18 s19 s20 s21 : Value, (s0 = .slice A n c ∧ s3 = .slice (some ⟨w.heap.size, 0, none⟩) n n ∧ (Ext w wr ∧ ∃ i : Nat, i ≤ n ∧ s4 = .int .i64 (i : Int) ∧ ∃ ys : List Int, Own wr w.heap.size 3 1 (some ⟨w.heap.size, 0, none⟩) n n (ys.map (Value.int .i64)) ∧ Hid (ys.take i = xs.take i))) ∧ acT = ⟨#[s0, s1, s2, s3, s4, s5, s6, s7, s8, s9, s10, s11, s12, s13, s14, s15, s16, s17, s18, s19, s20, s21], []⟩) (fun acT wr => (fun (s4 : Value) (wr : World) => n - (intOf s4).toNat) (acT.tmps.getD 4 undef) wr) ?_ ?_
  · (refine ⟨_, _, _, _, _, _, _, _, _, _, _, _, _, _, _, _, _, _, _, _, _, _, ⟨rfl, rfl, ?_⟩, rfl⟩; exact ⟨(Ext.refl _).alloc _, 0, Nat.zero_le _, rfl, List.replicate n 0, by simpa using Own.made _ n (Nat.le_refl _) (by simp only [maxLen]; omega), by simp [Hid]⟩)
  intro _ wr hinv; obtain ⟨s0, s1, s2, s3, s4, s5, s6, s7, s8, s9, s10, s11, s12, s13, s14, s15, s16, s17, s18, s19, s20, s21, ⟨rfl, rfl, hrel⟩, rfl⟩ := hinv; (try dsimp only)
  obtain ⟨he, i, hi, rfl, ys, ho, hq⟩ := hrel
  have hol : Hid (ys.length = n) := hide (by have := ho.len; simpa using this)
  by_cases hlt : i < n
  · obtain ⟨ad, x, rfl, hx, hc⟩ := (h.ext he).at_ hlt
    have hcell : wr.cell? ⟨w.heap.size, i, none⟩ = some (.int .i64 (ys[i]'(by rw [hol.out]; exact hlt))) := ho.cell (get_map_int (List.getElem?_eq_getElem _))
    have hfz := ho.frozen i
    go_wp2
    have ho' := ho.store i (.int .i64 x)
    rw [set_map_int] at ho'
    refine ⟨⟨(by first | trivial | rfl), (by first | trivial | rfl), he.setCell (Nat.le_refl _) _, i + 1, by omega, by go_num, _, ho', ?_⟩, (by simp [intOf] <;> omega)⟩
    unfold Hid
    rw [take_set_succ _ _ _ (by rw [hol.out]; exact hlt), take_succ_of hx, hq.out]
  · obtain rfl : i = n := by omega
    go_wp2
    go_ret
    have hyx : ys = xs := take_eq_all hq (by rw [hol.out]; exact Nat.le_refl _) (by rw [HL.out]; exact Nat.le_refl _)
    subst hyx
    exact ⟨_, _, rfl, ho, he⟩
theorem eqIntS_c (A B : Option Addr) (n c m d : Nat) (xs ys : List Int) (w : World) (h : Ints w A n xs) (k : Ints w B m ys) :
    Calls Tryd.prog 22 #[.slice A n c, .slice B m d] w fun e w' => e = .returned (.bool (decide (xs = ys))) ∧ Ext w w' := by
  have hb := h.bound
  have kb := k.bound
  by_cases hnm : (n : Int) = m
  · obtain rfl : n = m := by omega
    clear hnm
    go_enter Tryd.func22, Tryd.ntmps22
    go_wp2
    refine wp_loop (fun acT wr => ∃ s0 s1 s2 s3 s4 s5 s6 s7 s8 s9 s10 s11 s12 s13 s14 s15 s16 s17 s18 s19 s20 s21 s22 s23 s24 s25 : Value, (s0 = .slice A n c ∧ s1 = .slice B n d ∧ (Ext w wr ∧ ∃ i : Nat, i ≤ n ∧ s5 = .int .i64 (i : Int) ∧ Hid (xs.take i = ys.take i))) ∧ acT = ⟨#[s0, s1, s2, s3, s4, s5, s6, s7, s8, s9, s10, s11, s12, s13, s14, s15, s16, s17, s18, s19, s20, s21, s22, s23, s24, s25], []⟩) (fun acT wr => (fun (s5 : Value) (wr : World) => n - (intOf s5).toNat) (acT.tmps.getD 5 undef) wr) ?_ ?_
    · (refine ⟨_, _, _, _, _, _, _, _, _, _, _, _, _, _, _, _, _, _, _, _, _, _, _, _, _, _, ⟨rfl, rfl, ?_⟩, rfl⟩; exact ⟨Ext.refl _, 0, Nat.zero_le _, rfl, by simp [Hid]⟩)
    intro _ wr hinv; obtain ⟨s0, s1, s2, s3, s4, s5, s6, s7, s8, s9, s10, s11, s12, s13, s14, s15, s16, s17, s18, s19, s20, s21, s22, s23, s24, s25, ⟨rfl, rfl, hrel⟩, rfl⟩ := hinv; (try dsimp only)
    obtain ⟨he, i, hi, rfl, hq⟩ := hrel
    by_cases hlt : i < n
    · obtain ⟨ad, x, rfl, hx, hc⟩ := (h.ext he).at_ hlt
      obtain ⟨bd, y, rfl, hy, hd⟩ := (k.ext he).at_ hlt
      go_wp2
      go_quiet (fail)
      by_cases hxy : x = y
      · subst hxy
        go_wp2
        exact ⟨⟨(by first | trivial | rfl), (by first | trivial | rfl), he.drewN _, i + 1, by omega, by go_num, take_eq_succ hx hy rfl hq⟩, (by simp [intOf] <;> omega)⟩
      · have hxy' : (x != y) = true := by simpa using hxy
        go_wp2
        go_ret
        exact ⟨ret_bool (ne_of_get hx hy hxy).symm, he.drewN _⟩
    · go_wp2
      go_ret
      have hl := h.len; have kl := k.len
      exact ⟨ret_bool (by rw [take_eq_all hq (by omega) (by omega)]; simp), he⟩
  · have hnm' : ((n : Int) == m) = false := by simpa using hnm
    go_enter Tryd.func22, Tryd.ntmps22
    go_wp2
    go_ret
    refine ⟨ret_bool ?_, Ext.refl _⟩
    have := h.len; have := k.len
    symm; rw [decide_eq_false_iff_not]; rintro rfl; omega
theorem markIntS_c (A : Option Addr) (n c lo : Nat) (k : Int) (xs : List Int) (w : World) (h : Own w lo 3 1 A n c (xs.map (Value.int .i64))) (hn : n ≤ 140737488355328) (hk : 0 ≤ k ∧ k ≤ 140737488355328) :
    Calls Tryd.prog 23 #[.slice A n c, .int .i64 k] w fun e w' => e = .returned (.int .i64 (k + n)) ∧ Own w' lo 3 1 A n c ((upFrom k n).map (Value.int .i64)) ∧ w.grownBy w' (Value.slice A n c).ownBlock := by
  go_enter Tryd.func23, Tryd.ntmps23
  go_wp2
  refine wp_loop (fun acT wr => ∃ s0 s1 s2 s3 s4 s5 s6 s7 s8 s9 s10 s11 s12 s13 s14 s15 s16 s17 s18 : Value, (s0 = .slice A n c ∧ (Hid (w.grownBy wr (Value.slice A n c).ownBlock) ∧ ∃ i : Nat, i ≤ n ∧ s5 = .int .i64 (i : Int) ∧ s1 = .int .i64 (k + (i : Int)) ∧ ∃ ys : List Int, Own wr lo 3 1 A n c (ys.map (Value.int .i64)) ∧ Hid (ys.take i = upFrom k i))) ∧ acT = ⟨#[s0, s1, s2, s3, s4, s5, s6, s7, s8, s9, s10, s11, s12, s13, s14, s15, s16, s17, s18], []⟩) (fun acT wr => (fun (s5 : Value) (wr : World) => n - (intOf s5).toNat) (acT.tmps.getD 5 undef) wr) ?_ ?_
  · (refine ⟨_, _, _, _, _, _, _, _, _, _, _, _, _, _, _, _, _, _, _, ⟨rfl, ?_⟩, rfl⟩; exact ⟨World.grownBy.refl _ _, 0, Nat.zero_le _, rfl, by simp, xs, h, by simp [Hid, upFrom]⟩)
  intro _ wr hinv; obtain ⟨s0, s1, s2, s3, s4, s5, s6, s7, s8, s9, s10, s11, s12, s13, s14, s15, s16, s17, s18, ⟨rfl, hrel⟩, rfl⟩ := hinv; (try dsimp only)
  obtain ⟨hg, i, hi, rfl, rfl, ys, ho, hq⟩ := hrel
  have hol : Hid (ys.length = n) := hide (by have := ho.len; simpa using this)
  by_cases hlt : i < n
  · obtain ⟨g, rfl, _, _⟩ := ho.form (by omega)
    have hcell : wr.cell? ⟨g, i, none⟩ = some (.int .i64 (ys[i]'(by rw [hol.out]; exact hlt))) := ho.cell (get_map_int (List.getElem?_eq_getElem _))
    have hfz := ho.frozen i
    go_wp2
    have ho' := ho.store i (.int .i64 (k + i))
    have hg' : Hid (w.grownBy (wr.setCell ⟨g, i, none⟩ (.int .i64 (k + i))) (Value.slice (some ⟨g, 0, none⟩) n c).ownBlock) := World.grownBy.trans hg.out (World.ownsRow.stored ho i _).2
    rw [set_map_int] at ho'
    refine ⟨⟨(by first | trivial | rfl), hg', i + 1, by omega, by go_num, by go_num, _, ho', ?_⟩, (by simp [intOf] <;> omega)⟩
    unfold Hid
    rw [take_set_succ _ _ _ (by rw [hol.out]; exact hlt), upFrom_succ, hq.out]
  · obtain rfl : i = n := by omega
    go_wp2
    go_ret
    have hyx : ys = upFrom k i := by
      have := hq.out
      rwa [List.take_of_length_le (by rw [hol.out]; exact Nat.le_refl _)] at this
    subst hyx
    exact ⟨rfl, ho, hg.out⟩
theorem heldIntS_c (A : Option Addr) (n c : Nat) (k : Int) (w : World) (h : Ints w A n (upFrom k n)) (hn : n ≤ 140737488355328) (hk : 0 ≤ k ∧ k ≤ 140737488355328) :
    Calls Tryd.prog 24 #[.slice A n c, .int .i64 k] w fun e w' => e = .returned (.int .i64 (k + n)) ∧ Ext w w' := by
  go_enter Tryd.func24, Tryd.ntmps24
  go_wp2
  refine wp_loop (fun acT wr => ∃ s0 s1 s2 s3 s4 s5 s6 s7 s8 s9 s10 s11 s12 s13 s14 s15 s16 s17 s18 s19 s20 : Value, (s0 = .slice A n c ∧ (Ext w wr ∧ ∃ i : Nat, i ≤ n ∧ s5 = .int .i64 (i : Int) ∧ s1 = .int .i64 (k + (i : Int)))) ∧ acT = ⟨#[s0, s1, s2, s3, s4, s5, s6, s7, s8, s9, s10, s11, s12, s13, s14, s15, s16, s17, s18, s19, s20], []⟩) (fun acT wr => (fun (s5 : Value) (wr : World) => n - (intOf s5).toNat) (acT.tmps.getD 5 undef) wr) ?_ ?_
  · (refine ⟨_, _, _, _, _, _, _, _, _, _, _, _, _, _, _, _, _, _, _, _, _, ⟨rfl, ?_⟩, rfl⟩; exact ⟨Ext.refl _, 0, Nat.zero_le _, rfl, by simp⟩)
  intro _ wr hinv; obtain ⟨s0, s1, s2, s3, s4, s5, s6, s7, s8, s9, s10, s11, s12, s13, s14, s15, s16, s17, s18, s19, s20, ⟨rfl, hrel⟩, rfl⟩ := hinv; (try dsimp only)
  obtain ⟨he, i, hi, rfl, rfl⟩ := hrel
  by_cases hlt : i < n
  · obtain ⟨ad, x, rfl, hx, hc⟩ := (h.ext he).at_ hlt
    have hxk : x = k + i := by have := hx.out; rw [upFrom_get hlt] at this; injection this with this; exact this.symm
    subst hxk
    go_wp2
    exact ⟨⟨(by first | trivial | rfl), he, i + 1, by omega, by go_num, by go_num⟩, (by simp [intOf] <;> omega)⟩
  · obtain rfl : i = n := by omega
    go_wp2
    go_ret
    exact ⟨rfl, he⟩
theorem eqIntS_same (A B : Option Addr) (n c m d : Nat) (xs : List Int) (w : World) (h : Ints w A n xs) (k : Ints w B m xs) :
    Calls Tryd.prog 22 #[.slice A n c, .slice B m d] w fun e w' => e = .returned (.bool true) ∧ Ext w w' :=
  (eqIntS_c A B n c m d xs xs w h k).mono fun _ _ ⟨he, hw⟩ => ⟨by rw [he]; simp, hw⟩
end Go.Proofs.YtjlnlicojcfpiaaDoor
