/-
  slices.DeleteFunc over a row of ints of the call's own, with a predicate that may take memory.
-/
import Derived.Test.YtaigjmbhgpcalaaC8
import Derived.Test.YtaigjmbhgpcalaaC12
import Derived.Lib.SliceRun

namespace Go.Proofs.Ytaigjmbhgpcalaa
set_option linter.unusedSimpArgs false
set_option linter.unusedVariables false
open Go.RowKit

theorem Own.cut {w : World} {base : Nat} {e : TypeId} {A : Option Addr} {n c : Nat} {us : List Value} (h : Own w base e 1 A n c us) {m : Nat} (hm : m ≤ n) : Own w base e 1 A m c (us.take m) := by
  refine ⟨by have := h.1; simp; omega, ?_⟩
  rcases h.2 with ⟨hv, hn⟩ | ⟨g, cap, cur, hv, hb, hh, h1, h2, h3, h4⟩
  · left
    injection hv with e1 e2 e3
    subst e1; subst e3
    exact ⟨by rw [show m = 0 by omega], by omega⟩
  · right
    injection hv with e1 e2 e3
    subst e1; subst e3
    refine ⟨g, c, cur, rfl, hb, hh, by omega, h2, h3, ?_⟩
    rw [← h4, List.take_take]
    congr 1; omega
theorem Own.cap {w : World} {base : Nat} {e : TypeId} {size : Nat} {A : Option Addr} {n c : Nat} {us : List Value} (h : Own w base e size A n c us) : n ≤ c := by
  rcases h.2 with ⟨hv, hn⟩ | ⟨g, cap, cur, hv, hb, hh, h1, h2, h3, h4⟩
  · omega
  · injection hv with e1 e2 e3
    omega
theorem touch_setCell {lo hi : Nat} (w : World) {p : Addr} (u : Value) (h : lo ≤ p.block ∧ p.block < hi) : Touch lo hi w (w.setCell p u) :=
  ⟨rfl, rfl, rfl, by simp [World.setCell], fun k _ hk => Below.heap_setCell _ _ _ _ (by omega)⟩
theorem touch_setCells {lo hi g : Nat} (h : lo ≤ g ∧ g < hi) : ∀ (vs : List Value) (j : Nat) (w : World), Touch lo hi w (w.setCells g j vs)
  | [], _, w => (Ext.refl w).touch _ _
  | _ :: vs, j, w => (touch_setCell w (p := ⟨g, j, none⟩) _ h).trans (touch_setCells h vs (j + 1) _)
theorem Own.setCells {base : Nat} {e : TypeId} {g n c : Nat} : ∀ (vs : List Value) (j : Nat) (w : World) (us : List Value), Own w base e 1 (some ⟨g, 0, none⟩) n c us → ∃ us', Own (w.setCells g j vs) base e 1 (some ⟨g, 0, none⟩) n c us' ∧ us'.take j = us.take j
  | [], _, w, us, h => ⟨us, h, rfl⟩
  | v :: vs, j, w, us, h => by
    obtain ⟨us', h1, h2⟩ := Own.setCells vs (j + 1) _ _ (h.store j v)
    refine ⟨us', h1, ?_⟩
    have h3 := congrArg (List.take j) h2
    rw [List.take_take, List.take_take, show min j (j + 1) = j by omega] at h3
    rw [h3, List.take_set_of_le (Nat.le_refl _)]
theorem idxOf_hit {α : Type} {p : α → Bool} : ∀ (xs : List α) (k : Nat), (idxOf p xs k = -1 ∧ xs.any p = false) ∨ ∃ i x, i < xs.length ∧ idxOf p xs k = ((k + i : Nat) : Int) ∧ xs[i]? = some x ∧ p x = true ∧ (xs.take i).any p = false
  | [], k => .inl ⟨rfl, rfl⟩
  | x :: xs, k => by
    cases hp : p x
    · rcases idxOf_hit (p := p) xs (k + 1) with ⟨h1, h2⟩ | ⟨i, y, hi, h1, hy, h2, h3⟩
      · exact .inl ⟨by simp [idxOf, hp, h1], by simp [hp, h2]⟩
      · exact .inr ⟨i + 1, y, by simp; omega, by simp only [idxOf, hp]; rw [if_neg (by simp), h1]; omega, by simpa using hy, h2, by simp [hp, h3]⟩
    · exact .inr ⟨0, x, by simp, by simp [idxOf, hp], by simp, hp, by simp⟩
theorem filter_none {α : Type} {p : α → Bool} {xs : List α} (h : xs.any p = false) : xs.filter (fun x => !p x) = xs := by
  rw [List.filter_eq_self]
  intro x hx
  have := List.any_eq_false.1 h x hx
  simpa using this
theorem get_of_drop {α : Type} {xs ys : List α} {j : Nat} {x : α} (h : Hid (ys.drop j = xs.drop j)) (hx : Hid (ys[j]? = some x)) : Hid (xs[j]? = some x) := by
  have h := h.out
  have h0 : (ys.drop j)[0]? = (xs.drop j)[0]? := by rw [h]
  simp only [List.getElem?_drop, Nat.add_zero] at h0
  exact hide (by rw [← h0]; exact hx.out)
theorem drop_step {α : Type} {xs ys : List α} {j : Nat} (h : Hid (ys.drop j = xs.drop j)) : Hid (ys.drop (j + 1) = xs.drop (j + 1)) := by
  have h := congrArg (List.drop 1) h.out
  rw [List.drop_drop, List.drop_drop] at h
  exact hide h

theorem zero_int (w : World) : (zeroValue 3).run Try.prog w = .ok (.int .i64 0) w := by kernel_rfl
set_option maxRecDepth 100000 in
set_option maxHeartbeats 1600000 in
theorem DeleteFunc_int_c (fid : FuncId) (cap : Array Value) (p : Int → Bool) (lo : Nat) (A : Option Addr) (n c : Nat) (xs : List Int) (w : World) (h : Own w lo 3 1 A n c (xs.map (Value.int .i64))) (hn : n ≤ 140737488355328)
    (hent : Enters Try.prog fid) (hf : ∀ x W, x ∈ xs → Touch lo w.heap.size w W → Calls Try.prog fid (#[.int .i64 x] ++ cap) W fun e w' => e = .returned (.bool (p x)) ∧ Ext W w') :
    Calls Try.prog 100 #[.slice A n c, .func (.func fid) #[] cap] w fun e w' =>
      ∃ m, e = .returned (.slice A m c) ∧ Own w' lo 3 1 A m c ((xs.filter fun x => !p x).map (Value.int .i64)) ∧ Touch lo w.heap.size w w' := by
  have hin := h.ints (by omega)
  have hb := hin.bound
  have hIF := IndexFunc_int_c fid cap p A n c xs w hin hent (fun x wr hx he => hf x wr hx (he.touch _ _))
  have HL := hide hin.len
  have HF := hide hf
  clear hf
  rcases idxOf_hit (p := p) xs 0 with ⟨h1, h2⟩ | ⟨i0, x0, hi0, h1, hx0, hp0, h3⟩
  · rw [h1] at hIF
    rw [filter_none h2]
    have HI := hide hIF
    clear hIF h1 h2
    go_enter Try.func100, Try.ntmps100
    go_wp2_with fail
    refine HI.out.mono ?_
    rintro e w1 ⟨rfl, he⟩
    go_wp2_with fail
    go_ret
    exact ⟨n, rfl, h.ext he, he.touch _ _⟩
  · rw [h1] at hIF
    have hi0n : i0 < n := by rw [HL.out]; exact hi0
    obtain ⟨g, rfl, hg1, hg2⟩ := h.form (by omega)
    have HI := hide hIF
    have hs1 : Hid (xs.take i0 = (xs.take (i0 + 1)).filter fun x => !p x) := hide (by
      rw [take_succ_of (hide hx0), List.filter_append, filter_none h3]; simp [hp0])
    have hneg : ((0 + i0 : Nat) : Int) = (i0 : Int) := by omega
    rw [hneg] at HI
    have hne : ((i0 : Int) == -1) = false := by simp <;> omega
    clear hIF h1 hx0 hp0 h3 hi0 hneg
    go_enter Try.func100, Try.ntmps100
    go_wp2_with fail
    refine HI.out.mono ?_
    rintro e w1 ⟨rfl, he⟩
    go_wp2_with fail
    refine wp_loopK _ rfl (fun KK acT wr => ∃ s0 s1 s2 s3 s4 s5 s6 s7 s8 s9 s10 s11 s12 s13 s14 s15 s16 s17 s18 s19 s20 s21 s22 s23 s24 s25 s26 s27 s28 s29 s30 s31 s32 s33 s34 s35 s36 s37 s38 s39 s40 s41 : Value, (KeptM [true, true, false, false, false, false, false, false, false, false, false, false, false, false, false, false, false, false, false, false, false, false, false, false, false, false, false, false, false, false, false, false, false, false, false, false, true, true, true, true, true, true] [s0, s1, s2, s3, s4, s5, s6, s7, s8, s9, s10, s11, s12, s13, s14, s15, s16, s17, s18, s19, s20, s21, s22, s23, s24, s25, s26, s27, s28, s29, s30, s31, s32, s33, s34, s35, s36, s37, s38, s39, s40, s41] KK ∧ (∃ (i j : Nat) (ys : List Int), i < j ∧ j ≤ n ∧ s5 = .int .i64 i ∧ s6 = .int .i64 j ∧ Own wr lo 3 1 (some ⟨g, 0, none⟩) n c (ys.map (Value.int .i64)) ∧ Hid (ys.take i = (xs.take j).filter fun x => !p x) ∧ Hid (ys.drop j = xs.drop j) ∧ Touch lo w.heap.size w wr)) ∧ acT = ⟨#[s0, s1, s2, s3, s4, s5, s6, s7, s8, s9, s10, s11, s12, s13, s14, s15, s16, s17, s18, s19, s20, s21, s22, s23, s24, s25, s26, s27, s28, s29, s30, s31, s32, s33, s34, s35, s36, s37, s38, s39, s40, s41], []⟩) (fun acT wr => (fun (s6 : Value) (wr : World) => n - (intOf s6).toNat) (acT.tmps.getD 6 undef) wr) ?_ ?_
    · (refine ⟨_, _, _, _, _, _, _, _, _, _, _, _, _, _, _, _, _, _, _, _, _, _, _, _, _, _, _, _, _, _, _, _, _, _, _, _, _, _, _, _, _, _, ⟨(by (repeat (first | exact trivial | refine ⟨rfl, ?_⟩))), ?_⟩, rfl⟩; exact ⟨i0, i0 + 1, xs, by omega, by omega, rfl, by go_num, h.ext he, hs1, rfl, he.touch _ _⟩)
    intro _ wr hinv; obtain ⟨s0, s1, s2, s3, s4, s5, s6, s7, s8, s9, s10, s11, s12, s13, s14, s15, s16, s17, s18, s19, s20, s21, s22, s23, s24, s25, s26, s27, s28, s29, s30, s31, s32, s33, s34, s35, s36, s37, s38, s39, s40, s41, ⟨hkept, hrel⟩, rfl⟩ := hinv; simp only [KeptM] at hkept; obtain ⟨rfl, rfl, rfl, rfl, rfl, rfl, rfl, rfl, -⟩ := hkept; (try dsimp only)
    clear he
    obtain ⟨i, j, ys, hij, hj, hs5, hs6, ho, hq1, hq2, ht⟩ := hrel
    subst hs5; subst hs6
    have hgz := (ho.form (by omega))
    by_cases hlt : j < n
    · obtain ⟨x, hx, hc, hfz⟩ := ho.int_at hlt
      have hxx := get_of_drop hq2 hx
      have HC := hide (HF.out x wr (List.mem_of_getElem? hxx.out) ht)
      have hen := hent (#[.int .i64 x] ++ cap) wr
      have hqd := drop_step hq2
      have htk := take_succ_of hxx
      cases hpx : p x
      · rw [hpx] at HC
        have hci : wr.cell? ⟨g, i, none⟩ ≠ none := by obtain ⟨z, _, hz, _⟩ := ho.int_at (q := i) (by omega); rw [hz]; simp
        obtain ⟨z, _, hci, hfi⟩ := ho.int_at (q := i) (by omega)
        have hq1' : Hid ((ys.set i x).take (i + 1) = (xs.take (j + 1)).filter fun x => !p x) := hide (by
          rw [take_set_succ _ _ _ (by have := ho.len; simp at this; omega), hq1.out, htk, List.filter_append]; simp [hpx])
        have hq2' : Hid ((ys.set i x).drop (j + 1) = xs.drop (j + 1)) := hide (by
          rw [List.drop_set, if_pos (by omega)]; exact hqd.out)
        clear hpx htk
        go_wp2_with fail
        refine HC.out.mono ?_
        rintro e w2 ⟨rfl, he2⟩
        have hci2 := he2.cell hci
        have hfi2 := he2.frozen (p := ⟨g, i, none⟩) (by obtain ⟨g', e1, _, e2⟩ := hgz; injection e1 with e1; injection e1 with e1; subst e1; exact e2) hfi
        go_wp2_with fail
        exact ⟨⟨(by (repeat (first | exact trivial | refine ⟨rfl, ?_⟩))), i + 1, j + 1, ys.set i x, by omega, by omega, by go_num, by go_num, (ho.ext he2).setInt i x, hq1', hq2', (ht.trans (he2.touch _ _)).trans (touch_setCell _ _ ⟨hg1, hg2⟩)⟩, (by simp [intOf] <;> omega)⟩
      · rw [hpx] at HC
        have hq1' : Hid (ys.take i = (xs.take (j + 1)).filter fun x => !p x) := hide (by rw [hq1.out, htk, List.filter_append]; simp [hpx])
        clear hpx htk
        go_wp2_with fail
        refine HC.out.mono ?_
        rintro e w2 ⟨rfl, he2⟩
        go_wp2_with fail
        exact ⟨⟨(by (repeat (first | exact trivial | refine ⟨rfl, ?_⟩))), i, j + 1, ys, by omega, by omega, rfl, by go_num, ho.ext he2, hq1', hqd, ht.trans (he2.touch _ _)⟩, (by simp [intOf] <;> omega)⟩
    · obtain rfl : j = n := by omega
      have hfin : Hid (ys.take i = xs.filter fun x => !p x) := hide (by rw [hq1.out, List.take_of_length_le (by rw [HL.out]; exact Nat.le_refl _)])
      have hcl : ∀ ty d, (Builtin.clear_ #[35] ty #[.slice (some ⟨g, i, none⟩) (j - i) d]).run Try.prog wr = .ok (.tuple #[]) (wr.setCells g i (List.replicate (j - i) (.int .i64 0))) :=
        fun ty d => Lib.run_clear_slice wr 35 3 ty (.int .i64 0) Try.underlying35 zero_int rfl rfl g i (j - i) d (by omega) (fun k hk => by obtain ⟨z, _, hz, _⟩ := ho.int_at (q := i + k) (by omega); rw [hz]; rfl) (fun k hk => ho.frozen _)
      have hcap := ho.cap
      have hic : i ≤ c := by omega
      go_wp2_with (simp only [hcl])
      go_ret
      obtain ⟨us', ho2, hu⟩ := Own.setCells (List.replicate (j - i) (.int .i64 0)) i wr _ ho
      refine ⟨i, rfl, ?_, ht.trans (touch_setCells ⟨hg1, hg2⟩ _ _ _)⟩
      have := ho2.cut (m := i) (by omega)
      rw [hu, ← List.map_take, hfin.out] at this
      exact this
end Go.Proofs.Ytaigjmbhgpcalaa
