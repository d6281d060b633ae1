/-
  The laws' own helpers over [][]int: what each computes, for every slice of slices that reads as a list of lists.
-/
import Derived.Test.YtjlnlicojcfpiaaDoorC2
namespace Go.Proofs.YtjlnlicojcfpiaaDoor
set_option linter.unusedSimpArgs false
set_option linter.unusedVariables false
open Go.RowKit

theorem info_ints : (Tryd.prog.info? 38).map (fun i => (i.zero, i.size, i.bytes)) = some (some (.slice none 0 0), 1, 24) := by kernel_rfl

theorem OwnRows.lower {w : World} {lo lo' hi : Nat} {eo ei : TypeId} {A : Option Addr} {n c : Nat} {xss : List (List Int)} {us : List Value} (h : OwnRows w lo hi eo ei A n c xss us) (hb : lo' ≤ lo) : OwnRows w lo' hi eo ei A n c xss us :=
  ⟨h.len, h.outer.lower hb, h.below, fun i u xs hu hx => (h.inner i u xs hu hx).lower hb, h.apart⟩
theorem OwnRows.setLow {w : World} {lo hi : Nat} {eo ei : TypeId} {A : Option Addr} {n c : Nat} {xss : List (List Int)} {us : List Value} (h : OwnRows w lo hi eo ei A n c xss us) {p : Addr} (hp : p.block < lo) (u : Value) :
    OwnRows (w.setCell p u) lo hi eo ei A n c xss us :=
  have t : Touch p.block (p.block + 1) w (w.setCell p u) := ⟨rfl, rfl, rfl, by simp [World.setCell], fun k _ hk => Below.heap_setCell _ _ _ _ (by omega)⟩
  h.touch t (by omega)

def rowsTotal (xss : List (List Int)) : Nat := (xss.map List.length).sum
def rowsSize (xss : List (List Int)) : Nat := xss.length + rowsTotal xss
theorem rowsTotal_succ {xss : List (List Int)} {i : Nat} {xs : List Int} (hx : Hid (xss[i]? = some xs)) : rowsTotal (xss.take (i + 1)) = rowsTotal (xss.take i) + xs.length := by rw [take_succ_of hx]; simp [rowsTotal]
theorem rowsTotal_le {xss : List (List Int)} (i : Nat) : rowsTotal (xss.take i) ≤ rowsTotal xss := by
  have h : rowsTotal (xss.take i ++ xss.drop i) = rowsTotal (xss.take i) + rowsTotal (xss.drop i) := by unfold rowsTotal; rw [List.map_append, List.sum_append]
  rw [List.take_append_drop] at h
  omega
theorem rowsTotal_all {xss : List (List Int)} {i : Nat} (h : xss.length ≤ i) : rowsTotal (xss.take i) = rowsTotal xss := by rw [List.take_of_length_le h]
theorem rowsTotal_get {xss : List (List Int)} {i : Nat} {xs : List Int} (hx : Hid (xss[i]? = some xs)) : xs.length ≤ rowsTotal xss := by
  have := rowsTotal_le (xss := xss) (i + 1)
  rw [rowsTotal_succ hx] at this
  omega
theorem rowsSize_len {xss : List (List Int)} {n t : Nat} (hl : n = xss.length) (h : rowsSize xss ≤ t) : n ≤ t := by unfold rowsSize at h; omega

/-- The marks of rows, from k on. -/
def markRows (k : Int) : List (List Int) → List (List Int)
  | [] => []
  | xs :: r => upFrom k xs.length :: markRows (k + xs.length) r
theorem markRows_get {xss : List (List Int)} : ∀ {k : Int} {i : Nat} {xs : List Int}, xss[i]? = some xs → (markRows k xss)[i]? = some (upFrom (k + rowsTotal (xss.take i)) xs.length) := by
  induction xss with
  | nil => intro k i xs h; simp at h
  | cons y r ih =>
    intro k i xs h
    cases i with
    | zero => simp at h; subst h; simp [markRows, rowsTotal]
    | succ i =>
      simp at h
      have hsum : rowsTotal ((y :: r).take (i + 1)) = y.length + rowsTotal (r.take i) := by simp [rowsTotal]
      rw [hsum]
      simp only [markRows, List.getElem?_cons_succ, ih h, Int.natCast_add, Int.add_assoc]
theorem markRows_length (xss : List (List Int)) : ∀ k, (markRows k xss).length = xss.length := by
  induction xss with
  | nil => intro k; rfl
  | cons y r ih => intro k; simp [markRows, ih]
theorem markRows_lens {xss : List (List Int)} : ∀ k, (markRows k xss).map List.length = xss.map List.length := by
  induction xss with
  | nil => intro k; rfl
  | cons y r ih => intro k; simp [markRows, ih, upFrom_length]

theorem szIntS_fit (A : Option Addr) (n c : Nat) (left : Int) (w : World) (hn : n ≤ 9223372036854775807) (hl : 0 ≤ left ∧ left ≤ 1048576) (h : (n : Int) ≤ left) :
    Calls Tryd.prog 25 #[.slice A n c, .int .i64 left] w fun e w' => e = .returned (.int .i64 (left - n)) ∧ w = w' := by
  have := szIntS_c A n c left w hn hl
  rwa [if_pos h] at this
theorem szIntS_no (A : Option Addr) (n c : Nat) (left : Int) (w : World) (hn : n ≤ 9223372036854775807) (hl : 0 ≤ left ∧ left ≤ 1048576) (h : left < (n : Int)) :
    Calls Tryd.prog 25 #[.slice A n c, .int .i64 left] w fun e w' => e = .returned (.int .i64 (-1)) ∧ w = w' := by
  have := szIntS_c A n c left w hn hl
  rwa [if_neg (by omega)] at this
theorem szIntSS_fit (A : Option Addr) (n c : Nat) (left : Int) (xss : List (List Int)) (w : World) (h : Intss w A n xss) (hl : 0 ≤ left ∧ left ≤ 1048576) (hf : (rowsSize xss : Int) ≤ left) :
    Calls Tryd.prog 13 #[.slice A n c, .int .i64 left] w fun e w' => e = .returned (.int .i64 (left - rowsSize xss)) ∧ Ext w w' := by
  have hb := h.bound
  have hlen := h.len
  obtain ⟨tt, htt⟩ : ∃ t, t = rowsTotal xss := ⟨_, rfl⟩
  have hsz : rowsSize xss = n + tt := by unfold rowsSize; rw [← htt, hlen]
  rw [hsz] at hf ⊢
  have HL := hide hlen
  have HT := hide htt
  clear hlen htt hsz
  have hf' : (n : Int) ≤ left := by omega
  go_enter Tryd.func13, Tryd.ntmps13
  go_wp2
  refine wp_loop (fun acT wr => ∃ s0 s1 s2 s3 s4 s5 s6 s7 s8 s9 s10 s11 s12 s13 s14 s15 s16 s17 s18 s19 s20 s21 s22 s23 s24 s25 s26 : Value, (s0 = .slice A n c ∧ (Ext w wr ∧ ∃ i : Nat, i ≤ n ∧ s5 = .int .i64 (i : Int) ∧ ∃ t : Nat, s1 = .int .i64 (left - n - t) ∧ Hid (t = rowsTotal (xss.take i)))) ∧ acT = ⟨#[s0, s1, s2, s3, s4, s5, s6, s7, s8, s9, s10, s11, s12, s13, s14, s15, s16, s17, s18, s19, s20, s21, s22, s23, s24, s25, s26], []⟩) (fun acT wr => (fun (s5 : Value) (wr : World) => n - (intOf s5).toNat) (acT.tmps.getD 5 undef) wr) ?_ ?_
  · (refine ⟨_, _, _, _, _, _, _, _, _, _, _, _, _, _, _, _, _, _, _, _, _, _, _, _, _, _, _, ⟨rfl, ?_⟩, rfl⟩; exact ⟨Ext.refl _, 0, Nat.zero_le _, rfl, 0, by simp, by simp [Hid, rowsTotal]⟩)
  intro _ wr hinv; obtain ⟨s0, s1, s2, s3, s4, s5, s6, s7, s8, s9, s10, s11, s12, s13, s14, s15, s16, s17, s18, s19, s20, s21, s22, s23, s24, s25, s26, ⟨rfl, hrel⟩, rfl⟩ := hinv; (try dsimp only)
  obtain ⟨he, i, hi, rfl, t, rfl, ht⟩ := hrel
  have htl : t ≤ tt := by rw [ht.out, HT.out]; exact rowsTotal_le i
  by_cases hlt : i < n
  · obtain ⟨ad, xs, B, m, d, rfl, hx, hc, hin⟩ := (h.ext he).at_ hlt
    have hm := hin.len
    have hmb := hin.bound
    have hsucc := hide (rowsTotal_succ hx)
    have htm : t + m ≤ tt := by
      have := rowsTotal_le (xss := xss) (i + 1)
      rw [hsucc.out, ← ht.out, ← HT.out] at this
      omega
    have HM := hide hm
    clear hm
    go_wp2_with (go_at_call 25; refine (szIntS_fit _ _ _ _ _ ?_ ?_ ?_).mono ?_; omega; omega; omega; rintro e w1 ⟨rfl, rfl⟩)
    exact ⟨⟨(by first | trivial | rfl), he, i + 1, by omega, by go_num, t + m, by first | rfl | go_num | (congr 1; omega), by unfold Hid; rw [hsucc.out, ht.out, HM.out]⟩, (by simp [intOf] <;> omega)⟩
  · obtain rfl : i = n := by omega
    have htt : t = tt := by rw [ht.out, HT.out, rowsTotal_all (by rw [HL.out]; exact Nat.le_refl _)]
    subst htt
    go_wp2
    go_ret
    exact ⟨ret_int (by omega), he⟩
theorem szIntSS_no (A : Option Addr) (n c : Nat) (left : Int) (xss : List (List Int)) (w : World) (h : Intss w A n xss) (hl : 0 ≤ left ∧ left ≤ 1048576) (hf : left < (rowsSize xss : Int)) :
    Calls Tryd.prog 13 #[.slice A n c, .int .i64 left] w fun e w' => e = .returned (.int .i64 (-1)) ∧ Ext w w' := by
  have hb := h.bound
  have hlen := h.len
  obtain ⟨tt, htt⟩ : ∃ t, t = rowsTotal xss := ⟨_, rfl⟩
  have hsz : rowsSize xss = n + tt := by unfold rowsSize; rw [← htt, hlen]
  rw [hsz] at hf
  have HL := hide hlen
  have HT := hide htt
  clear hlen htt hsz
  by_cases hf' : (n : Int) ≤ left
  · go_enter Tryd.func13, Tryd.ntmps13
    go_wp2
    refine wp_loop (fun acT wr => ∃ s0 s1 s2 s3 s4 s5 s6 s7 s8 s9 s10 s11 s12 s13 s14 s15 s16 s17 s18 s19 s20 s21 s22 s23 s24 s25 s26 : Value, (s0 = .slice A n c ∧ (Ext w wr ∧ ∃ i : Nat, i ≤ n ∧ s5 = .int .i64 (i : Int) ∧ ∃ t : Nat, s1 = .int .i64 (left - n - t) ∧ (t : Int) ≤ left - n ∧ Hid (t = rowsTotal (xss.take i)))) ∧ acT = ⟨#[s0, s1, s2, s3, s4, s5, s6, s7, s8, s9, s10, s11, s12, s13, s14, s15, s16, s17, s18, s19, s20, s21, s22, s23, s24, s25, s26], []⟩) (fun acT wr => (fun (s5 : Value) (wr : World) => n - (intOf s5).toNat) (acT.tmps.getD 5 undef) wr) ?_ ?_
    · (refine ⟨_, _, _, _, _, _, _, _, _, _, _, _, _, _, _, _, _, _, _, _, _, _, _, _, _, _, _, ⟨rfl, ?_⟩, rfl⟩; exact ⟨Ext.refl _, 0, Nat.zero_le _, rfl, 0, by simp, by omega, by simp [Hid, rowsTotal]⟩)
    intro _ wr hinv; obtain ⟨s0, s1, s2, s3, s4, s5, s6, s7, s8, s9, s10, s11, s12, s13, s14, s15, s16, s17, s18, s19, s20, s21, s22, s23, s24, s25, s26, ⟨rfl, hrel⟩, rfl⟩ := hinv; (try dsimp only)
    obtain ⟨he, i, hi, rfl, t, rfl, htn, ht⟩ := hrel
    by_cases hlt : i < n
    · obtain ⟨ad, xs, B, m, d, rfl, hx, hc, hin⟩ := (h.ext he).at_ hlt
      have hm := hin.len
      have hmb := hin.bound
      have hsucc := hide (rowsTotal_succ hx)
      have HM := hide hm
      clear hm
      by_cases hfit : (m : Int) ≤ left - n - t
      · go_wp2_with (go_at_call 25; refine (szIntS_fit _ _ _ _ _ ?_ ?_ ?_).mono ?_; omega; omega; omega; rintro e w1 ⟨rfl, rfl⟩)
        exact ⟨⟨(by first | trivial | rfl), he, i + 1, by omega, by go_num, t + m, by first | rfl | go_num | (congr 1; omega), by omega, by unfold Hid; rw [hsucc.out, ht.out, HM.out]⟩, (by simp [intOf] <;> omega)⟩
      · go_wp2_with (go_at_call 25; refine (szIntS_no _ _ _ _ _ ?_ ?_ ?_).mono ?_; omega; omega; omega; rintro e w1 ⟨rfl, rfl⟩)
        go_ret
        exact ⟨rfl, he⟩
    · obtain rfl : i = n := by omega
      have htt : t = tt := by rw [ht.out, HT.out, rowsTotal_all (by rw [HL.out]; exact Nat.le_refl _)]
      subst htt
      omega
  · go_enter Tryd.func13, Tryd.ntmps13
    go_wp2
    go_ret
    exact ⟨rfl, Ext.refl _⟩
theorem ownRows_made (w : World) (n : Nat) (hn : n ≤ 140737488355328) {eo ei : TypeId} :
    OwnRows (w.alloc (.cells (madeCells #[.slice none 0 0] n) eo)) w.heap.size (w.alloc (.cells (madeCells #[.slice none 0 0] n) eo)).heap.size eo ei (some ⟨w.heap.size, 0, none⟩) n n (List.replicate n []) (List.replicate n (.slice none 0 0)) := by
  refine ⟨by simp, Own.made _ n (Nat.le_refl _) (by simp only [maxLen]; omega), ?_, ?_, ?_⟩
  · intro k hk; simp [Value.ownBlock] at hk; subst hk; simp
  · intro i u xs hu hx
    rw [List.getElem?_replicate] at hu hx
    split at hu
    · rename_i hin
      rw [if_pos hin] at hx
      injection hu with hu; injection hx with hx; subst hu; subst hx
      exact RowV.nil
    · cases hu
  · intro i j u v k hu hv hku hkv
    rw [List.getElem?_replicate] at hu
    split at hu
    · injection hu with hu; subst hu; simp [Value.ownBlock] at hku
    · cases hu
theorem toIntSS_c (A : Option Addr) (n c : Nat) (xss : List (List Int)) (w : World) (h : Intss w A n xss) (hn : rowsSize xss ≤ 1048576) :
    Calls Tryd.prog 18 #[.slice A n c] w fun e w' => ∃ A' c' us, e = .returned (.slice A' n c') ∧ OwnRows w' w.heap.size w'.heap.size 38 3 A' n c' xss us ∧ Ext w w' := by
  have hn1 := rowsSize_len h.len hn
  have hmk := fun W => make_eq (P := Tryd.prog) 22 38 Tryd.underlying22 _ 24 info_ints rfl n (by omega) (by omega) W
  have HL := hide h.len
  have HN := hide hn
  clear hn
  go_enter Tryd.func18, Tryd.ntmps18
  go_wp2
  clear hmk
  refine wp_loop (fun acT wr => ∃ s0 s1 s2 s3 s4 s5 s6 s7 s8 s9 s10 s11 s12 s13 s14 s15 s16 s17 s18 s19 s20 s21 s22 : Value, (s0 = .slice A n c ∧ s3 = .slice (some ⟨w.heap.size, 0, none⟩) n n ∧ (Ext w wr ∧ ∃ i : Nat, i ≤ n ∧ s4 = .int .i64 (i : Int) ∧ ∃ yss us, OwnRows wr w.heap.size wr.heap.size 38 3 (some ⟨w.heap.size, 0, none⟩) n n yss us ∧ Hid (yss.take i = xss.take i))) ∧ acT = ⟨#[s0, s1, s2, s3, s4, s5, s6, s7, s8, s9, s10, s11, s12, s13, s14, s15, s16, s17, s18, s19, s20, s21, s22], []⟩) (fun acT wr => (fun (s4 : Value) (wr : World) => n - (intOf s4).toNat) (acT.tmps.getD 4 undef) wr) ?_ ?_
  · (refine ⟨_, _, _, _, _, _, _, _, _, _, _, _, _, _, _, _, _, _, _, _, _, _, _, ⟨rfl, rfl, ?_⟩, rfl⟩; exact ⟨(Ext.refl _).alloc _, 0, Nat.zero_le _, rfl, _, _, ownRows_made w n (by omega), by simp [Hid]⟩)
  intro _ wr hinv; obtain ⟨s0, s1, s2, s3, s4, s5, s6, s7, s8, s9, s10, s11, s12, s13, s14, s15, s16, s17, s18, s19, s20, s21, s22, ⟨rfl, rfl, hrel⟩, rfl⟩ := hinv; (try dsimp only)
  obtain ⟨he, i, hi, rfl, yss, us, ho, hq⟩ := hrel
  have hul := hide ho.ulen
  have hyl := hide ho.len
  by_cases hlt : i < n
  · obtain ⟨ad, xs, B, m, d, rfl, hx, hc, hin⟩ := (h.ext he).at_ hlt
    have hm20 : m ≤ 1048576 := by
      have h1 := rowsTotal_get hx
      have h2 := hin.len
      have h3 := HN.out
      unfold rowsSize at h3
      omega
    go_wp2_with (go_at_call 30; refine (toIntS_c _ _ _ xs _ hin hm20).mono ?_; rintro e w1 ⟨A1, c1, rfl, ho1, he1⟩; have hcell := (ho.ext he1).outer.cell (List.getElem?_eq_getElem (show i < us.length by rw [hul.out]; exact hlt)); have hfz := (ho.ext he1).outer.frozen i)
    have hz := he1.size
    obtain rfl := hin.len
    have hst := OwnRows.store (i := i) (ho.ext he1) (by decide) he.size hz ⟨A1, c1, rfl, ho1, by omega, fun k hk => (ho1.lt k hk).2⟩
    refine ⟨⟨(by first | trivial | rfl), (by first | trivial | rfl), Ext.setCell (he.trans he1) (Nat.le_refl _) _, i + 1, by omega, by go_num, _, _, by simpa [World.setCell] using hst, ?_⟩, (by simp [intOf] <;> omega)⟩
    unfold Hid
    rw [take_set_succ _ _ _ (by rw [← hyl.out]; exact hlt), take_succ_of hx, hq.out]
  · obtain rfl : i = n := by omega
    have hyx : yss = xss := take_eq_all hq (by rw [← hyl.out]; exact Nat.le_refl _) (by rw [← HL.out]; exact Nat.le_refl _)
    subst hyx
    go_wp2
    go_ret
    exact ⟨_, _, rfl, ⟨_, ho⟩, he⟩
theorem eqIntSS_same (A B : Option Addr) (n c m d : Nat) (xss : List (List Int)) (w : World) (h : Intss w A n xss) (k : Intss w B m xss) :
    Calls Tryd.prog 8 #[.slice A n c, .slice B m d] w fun e w' => e = .returned (.bool true) ∧ Ext w w' := by
  obtain rfl : n = m := h.len.trans k.len.symm
  have hb := h.bound
  go_enter Tryd.func8, Tryd.ntmps8
  go_wp2
  refine wp_loop (fun acT wr => ∃ s0 s1 s2 s3 s4 s5 s6 s7 s8 s9 s10 s11 s12 s13 s14 s15 s16 s17 s18 s19 s20 s21 s22 s23 s24 s25 s26 : Value, (s0 = .slice A n c ∧ s1 = .slice B n d ∧ (Ext w wr ∧ ∃ i : Nat, i ≤ n ∧ s5 = .int .i64 (i : Int))) ∧ acT = ⟨#[s0, s1, s2, s3, s4, s5, s6, s7, s8, s9, s10, s11, s12, s13, s14, s15, s16, s17, s18, s19, s20, s21, s22, s23, s24, s25, s26], []⟩) (fun acT wr => (fun (s5 : Value) (wr : World) => n - (intOf s5).toNat) (acT.tmps.getD 5 undef) wr) ?_ ?_
  · (refine ⟨_, _, _, _, _, _, _, _, _, _, _, _, _, _, _, _, _, _, _, _, _, _, _, _, _, _, _, ⟨rfl, rfl, ?_⟩, rfl⟩; exact ⟨Ext.refl _, 0, Nat.zero_le _, rfl⟩)
  intro _ wr hinv; obtain ⟨s0, s1, s2, s3, s4, s5, s6, s7, s8, s9, s10, s11, s12, s13, s14, s15, s16, s17, s18, s19, s20, s21, s22, s23, s24, s25, s26, ⟨rfl, rfl, hrel⟩, rfl⟩ := hinv; (try dsimp only)
  obtain ⟨he, i, hi, rfl⟩ := hrel
  by_cases hlt : i < n
  · obtain ⟨ad, xs, X, mx, cx, rfl, hx, hc, hin⟩ := (h.ext he).at_ hlt
    obtain ⟨bd, ys, Y, my, cy, rfl, hy, hd, hjn⟩ := (k.ext he).at_ hlt
    obtain rfl : xs = ys := by have := hx.out; rw [hy.out] at this; injection this with this; exact this.symm
    go_wp2
    have hdr : Ext wr wr.drew := (Ext.refl _).drew
    go_region_held3 (fun w' => w'.cell? (ad.add i) = some (.slice X mx cx) ∧ w'.cell? (bd.add i) = some (.slice Y my cy) ∧ Ext wr w') (simp [go_sem, *]) (first | (go_at_call 22; refine (eqIntS_same _ _ _ _ _ _ xs _ (hin.ext (by (repeat (first | with_reducible exact Ext.refl _ | with_reducible assumption | ((with_reducible refine Ext.setCell ?_ ?_ _); rotate_left; focus (first | omega | (simp <;> omega))) | with_reducible refine Ext.alloc ?_ _ | with_reducible refine Ext.drewN ?_ _ | with_reducible refine Ext.drew ?_ | with_reducible refine Ext.trans ?_ (by with_reducible assumption))))) (hjn.ext (by (repeat (first | with_reducible exact Ext.refl _ | with_reducible assumption | ((with_reducible refine Ext.setCell ?_ ?_ _); rotate_left; focus (first | omega | (simp <;> omega))) | with_reducible refine Ext.alloc ?_ _ | with_reducible refine Ext.drewN ?_ _ | with_reducible refine Ext.drew ?_ | with_reducible refine Ext.trans ?_ (by with_reducible assumption)))))).mono ?_; rintro e w1 ⟨rfl, he1⟩; have g1 := he1.cell hc; have g2 := he1.cell hd; have g3 := hdr.trans he1))
    go_wp2
    exact ⟨⟨(by first | trivial | rfl), (by first | trivial | rfl), he.trans g3, i + 1, by omega, by go_num⟩, (by simp [intOf] <;> omega)⟩
  · obtain rfl : i = n := by omega
    go_wp2
    go_ret
    exact ⟨rfl, he⟩
theorem markIntSS_c (A : Option Addr) (n c lo hi : Nat) (k : Int) (xss : List (List Int)) (us : List Value) (w : World) (h : OwnRows w lo hi 38 3 A n c xss us) (hn : rowsSize xss ≤ 1099511627776) (hk : 0 ≤ k ∧ k ≤ 70368744177664) :
    Calls Tryd.prog 11 #[.slice A n c, .int .i64 k] w fun e w' => e = .returned (.int .i64 (k + rowsTotal xss)) ∧ OwnRows w' lo hi 38 3 A n c (markRows k xss) us ∧ Touch lo hi w w' := by
  have hn1 := rowsSize_len h.len hn
  obtain ⟨tt, htt⟩ : ∃ t, t = rowsTotal xss := ⟨_, rfl⟩
  have htb : tt ≤ 1099511627776 := by unfold rowsSize at hn; omega
  have HL := hide h.len
  have HT := hide htt
  rw [← htt]
  clear htt hn
  go_enter Tryd.func11, Tryd.ntmps11
  go_wp2
  refine wp_loop (fun acT wr => ∃ s0 s1 s2 s3 s4 s5 s6 s7 s8 s9 s10 s11 s12 s13 s14 s15 s16 s17 s18 : Value, (s0 = .slice A n c ∧ (Hid (Touch lo hi w wr) ∧ ∃ i : Nat, i ≤ n ∧ s5 = .int .i64 (i : Int) ∧ ∃ t : Nat, s1 = .int .i64 (k + t) ∧ Hid (t = rowsTotal (xss.take i)) ∧ ∃ yss, OwnRows wr lo hi 38 3 A n c yss us ∧ Hid (yss.take i = (markRows k xss).take i) ∧ Hid (yss.drop i = xss.drop i))) ∧ acT = ⟨#[s0, s1, s2, s3, s4, s5, s6, s7, s8, s9, s10, s11, s12, s13, s14, s15, s16, s17, s18], []⟩) (fun acT wr => (fun (s5 : Value) (wr : World) => n - (intOf s5).toNat) (acT.tmps.getD 5 undef) wr) ?_ ?_
  · (refine ⟨_, _, _, _, _, _, _, _, _, _, _, _, _, _, _, _, _, _, _, ⟨rfl, ?_⟩, rfl⟩; exact ⟨Touch.refl _ _ _, 0, Nat.zero_le _, rfl, 0, by simp, by simp [Hid, rowsTotal], xss, h, by simp [Hid], by simp [Hid]⟩)
  intro _ wr hinv; obtain ⟨s0, s1, s2, s3, s4, s5, s6, s7, s8, s9, s10, s11, s12, s13, s14, s15, s16, s17, s18, ⟨rfl, hrel⟩, rfl⟩ := hinv; (try dsimp only)
  obtain ⟨ht, i, hi', rfl, t, rfl, hts, yss, ho, hq, hr⟩ := hrel
  have htl : t ≤ tt := by rw [hts.out, HT.out]; exact rowsTotal_le i
  have hul := hide ho.ulen
  have hyl := hide ho.len
  by_cases hlt : i < n
  · obtain ⟨g, rfl, _, _⟩ := ho.outer.form (by omega)
    have hxi : xss[i]? = some (xss[i]'(by have := HL.out; omega)) := List.getElem?_eq_getElem _
    obtain ⟨xs, hxs⟩ : ∃ xs, xs = xss[i]'(by have := HL.out; omega) := ⟨_, rfl⟩
    rw [← hxs] at hxi
    have hyi : yss[i]? = some xs := by
      have h1 := congrArg (fun l => l[0]?) hr.out
      simp only [List.getElem?_drop, Nat.add_zero] at h1
      rw [h1, hxi]
    have hui : us[i]? = some (us[i]'(by rw [hul.out]; exact hlt)) := List.getElem?_eq_getElem _
    obtain ⟨B, d, hu, hrow, hrl, hrk⟩ := ho.inner i _ xs hui hyi
    rw [hu] at hui
    have hcell := ho.outer.cell hui
    have hsucc := hide (rowsTotal_succ (hide hxi))
    have hmark := hide (markRows_get (k := k) hxi)
    obtain ⟨m, hm⟩ : ∃ m, m = xs.length := ⟨_, rfl⟩
    rw [← hm] at hrow hrl hrk hcell hui
    have htm : t + m ≤ tt := by
      have := rowsTotal_le (xss := xss) (i + 1)
      rw [hsucc.out, ← hts.out, ← HT.out, ← hm] at this
      exact this
    have HM := hide hm
    have HYI := hide hyi
    have HUI := hide hui
    clear hm hxs hxi hyi hui hu
    go_wp2_with (go_at_call 23; refine (markIntS_c B m d lo (k + t) xs _ hrow (by omega) (by omega)).mono ?_; rintro e w1 ⟨rfl, ho1, hg1⟩)
    have hnew : OwnRows w1 lo hi 38 3 (some ⟨g, 0, none⟩) n c (yss.set i (upFrom (k + t) m)) us :=
      ho.rewrite (by decide) HUI.out HYI.out hg1 ⟨B, d, by rw [upFrom_length], by rw [upFrom_length]; exact ho1, by rw [upFrom_length]; omega, by rw [upFrom_length]; exact hrk⟩
    have ht1 : Hid (Touch lo hi w w1) := ht.out.trans (grown_touch hg1 fun b hb => ⟨(hrow.lt b hb).1, hrk b hb⟩)
    refine ⟨⟨(by first | trivial | rfl), ht1, i + 1, by omega, by go_num, t + m, by first | rfl | go_num | (congr 1; omega), by unfold Hid; rw [hsucc.out, hts.out, HM.out], _, hnew, ?_, ?_⟩, (by simp [intOf] <;> omega)⟩
    · unfold Hid
      rw [take_set_succ _ _ _ (by rw [← hyl.out]; exact hlt), hq.out, take_succ_of (hide (show (markRows k xss)[i]? = some (upFrom (k + t) m) by rw [hmark.out, ← hts.out, ← HM.out]))]
    · unfold Hid
      rw [List.drop_set_of_lt (by omega), ← List.drop_drop, ← List.drop_drop, hr.out]
  · obtain rfl : i = n := by omega
    have htt : t = tt := by rw [hts.out, HT.out, rowsTotal_all (by rw [HL.out]; exact Nat.le_refl _)]
    subst htt
    go_wp2
    go_ret
    have hyx : yss = markRows k xss := take_eq_all hq (by rw [← hyl.out]; exact Nat.le_refl _) (by rw [markRows_length, HL.out]; exact Nat.le_refl _)
    subst hyx
    exact ⟨rfl, ho, ht.out⟩
theorem heldIntSS_c (A : Option Addr) (n c : Nat) (k : Int) (xss : List (List Int)) (w : World) (h : Intss w A n (markRows k xss)) (hn : rowsSize xss ≤ 1099511627776) (hk : 0 ≤ k ∧ k ≤ 70368744177664) :
    Calls Tryd.prog 12 #[.slice A n c, .int .i64 k] w fun e w' => e = .returned (.int .i64 (k + rowsTotal xss)) ∧ Ext w w' := by
  have hlen : n = xss.length := by rw [h.len, markRows_length]
  have hn1 := rowsSize_len hlen hn
  obtain ⟨tt, htt⟩ : ∃ t, t = rowsTotal xss := ⟨_, rfl⟩
  have htb : tt ≤ 1099511627776 := by unfold rowsSize at hn; omega
  have HL := hide hlen
  have HT := hide htt
  rw [← htt]
  clear htt hn hlen
  go_enter Tryd.func12, Tryd.ntmps12
  go_wp2
  refine wp_loop (fun acT wr => ∃ s0 s1 s2 s3 s4 s5 s6 s7 s8 s9 s10 s11 s12 s13 s14 s15 s16 s17 s18 s19 s20 : Value, (s0 = .slice A n c ∧ (Ext w wr ∧ ∃ i : Nat, i ≤ n ∧ s5 = .int .i64 (i : Int) ∧ ∃ t : Nat, s1 = .int .i64 (k + t) ∧ Hid (t = rowsTotal (xss.take i)))) ∧ acT = ⟨#[s0, s1, s2, s3, s4, s5, s6, s7, s8, s9, s10, s11, s12, s13, s14, s15, s16, s17, s18, s19, s20], []⟩) (fun acT wr => (fun (s5 : Value) (wr : World) => n - (intOf s5).toNat) (acT.tmps.getD 5 undef) wr) ?_ ?_
  · (refine ⟨_, _, _, _, _, _, _, _, _, _, _, _, _, _, _, _, _, _, _, _, _, ⟨rfl, ?_⟩, rfl⟩; exact ⟨Ext.refl _, 0, Nat.zero_le _, rfl, 0, by simp, by simp [Hid, rowsTotal]⟩)
  intro _ wr hinv; obtain ⟨s0, s1, s2, s3, s4, s5, s6, s7, s8, s9, s10, s11, s12, s13, s14, s15, s16, s17, s18, s19, s20, ⟨rfl, hrel⟩, rfl⟩ := hinv; (try dsimp only)
  obtain ⟨he, i, hi, rfl, t, rfl, hts⟩ := hrel
  have htl : t ≤ tt := by rw [hts.out, HT.out]; exact rowsTotal_le i
  by_cases hlt : i < n
  · obtain ⟨ad, ys, B, m, d, rfl, hy, hc, hin⟩ := (h.ext he).at_ hlt
    have hxi : xss[i]? = some (xss[i]'(by have := HL.out; omega)) := List.getElem?_eq_getElem _
    obtain ⟨xs, hxs⟩ : ∃ xs, xs = xss[i]'(by have := HL.out; omega) := ⟨_, rfl⟩
    rw [← hxs] at hxi
    have hsucc := hide (rowsTotal_succ (hide hxi))
    have hyk : ys = upFrom (k + t) xs.length := by
      have h1 := hy.out
      rw [markRows_get hxi, ← hts.out] at h1
      injection h1 with h1
      exact h1.symm
    subst hyk
    have hm : m = xs.length := by have := hin.len; rwa [upFrom_length] at this
    rw [← hm] at hin
    have htm : t + m ≤ tt := by
      have := rowsTotal_le (xss := xss) (i + 1)
      rw [hsucc.out, ← hts.out, ← HT.out, ← hm] at this
      exact this
    have HM := hide hm
    clear hm hxs hxi hy
    go_wp2_with (go_at_call 24; refine (heldIntS_c B m d (k + t) _ hin (by omega) (by omega)).mono ?_; rintro e w1 ⟨rfl, he1⟩)
    exact ⟨⟨(by first | trivial | rfl), he.trans he1, i + 1, by omega, by go_num, t + m, by first | rfl | go_num | (congr 1; omega), by unfold Hid; rw [hsucc.out, hts.out, HM.out]⟩, (by simp [intOf] <;> omega)⟩
  · obtain rfl : i = n := by omega
    have htt : t = tt := by rw [hts.out, HT.out, rowsTotal_all (by rw [HL.out]; exact Nat.le_refl _)]
    subst htt
    go_wp2
    go_ret
    exact ⟨rfl, he⟩
end Go.Proofs.YtjlnlicojcfpiaaDoor
