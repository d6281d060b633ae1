/-
  Open variables of an assignment; what a variable gives in a game.
-/
import Derived.Test.YtaigjmbhgpcalaaC41

namespace Go.Proofs.Ytaigjmbhgpcalaa
set_option linter.unusedSimpArgs false
set_option linter.unusedVariables false
open Go.RowKit

def firstO (a : List Int) : List Int → Int
  | [] => 0
  | x :: xs => if openL a x then x else firstO a xs
theorem firstO_drop {a xs : List Int} {i : Nat} {x : Int} (hx : Hid (xs[i]? = some x)) : firstO a (xs.drop i) = if openL a x then x else firstO a (xs.drop (i + 1)) := by
  have h : xs.drop i = x :: xs.drop (i + 1) := by
    obtain ⟨hl, he⟩ := List.getElem?_eq_some_iff.1 hx.out
    rw [← he]; exact List.drop_eq_getElem_cons hl
  rw [h]; rfl
theorem openL_has (a : List Int) (v : Int) : openL a v = (!hasInt v a && !hasInt (-v) a) := rfl

set_option maxHeartbeats 800000 in
theorem firstOpen_c (A : Option Addr) (n d : Nat) (xs : List Int) (B : Option Addr) (m q : Nat) (a : List Int) (w : World) (h : Ints w A n xs) (k : Ints w B m a) (hc : ∀ x ∈ xs, -12 ≤ x ∧ x ≤ 12) :
    Calls Try.prog 103 #[.slice A n d, .slice B m q] w fun e w' => e = .returned (.int .i64 (firstO a xs)) ∧ Ext w w' := by
  have hb := h.bound
  have HL := hide h.len
  have HC := hide hc
  clear hc
  go_enter Try.func103, Try.ntmps103
  go_wp2
  refine wp_loopK _ rfl (fun KK acT wr => ∃ s0 s1 s2 s3 s4 s5 s6 s7 s8 s9 s10 s11 s12 s13 s14 s15 s16 s17 s18 s19 s20 s21 s22 s23 s24 s25 : Value, (KeptM [false, true, false, false, false, false, false, true, true, false, false, false, false, false, false, false, false, false, false, false, false, false, false, false, false, false] [s0, s1, s2, s3, s4, s5, s6, s7, s8, s9, s10, s11, s12, s13, s14, s15, s16, s17, s18, s19, s20, s21, s22, s23, s24, s25] KK ∧ (Ext w wr ∧ ∃ (i : Nat), i ≤ n ∧ s9 = .int .i64 i ∧ Hid (firstO a (xs.drop i) = firstO a xs))) ∧ acT = ⟨#[s0, s1, s2, s3, s4, s5, s6, s7, s8, s9, s10, s11, s12, s13, s14, s15, s16, s17, s18, s19, s20, s21, s22, s23, s24, s25], []⟩) (fun acT wr => (fun (s9 : Value) (wr : World) => n - (intOf s9).toNat) (acT.tmps.getD 9 undef) wr) ?_ ?_
  · (refine ⟨_, _, _, _, _, _, _, _, _, _, _, _, _, _, _, _, _, _, _, _, _, _, _, _, _, _, ⟨(by (repeat (first | exact trivial | refine ⟨rfl, ?_⟩))), ?_⟩, rfl⟩; exact ⟨Ext.refl _, 0, by omega, rfl, rfl⟩)
  intro _ wr hinv; obtain ⟨s0, s1, s2, s3, s4, s5, s6, s7, s8, s9, s10, s11, s12, s13, s14, s15, s16, s17, s18, s19, s20, s21, s22, s23, s24, s25, ⟨hkept, hrel⟩, rfl⟩ := hinv; simp only [KeptM] at hkept; obtain ⟨rfl, rfl, rfl, -⟩ := hkept; (try dsimp only)
  obtain ⟨he, i, hi, hs1, hq⟩ := hrel
  subst hs1
  by_cases hlt : i < n
  · obtain ⟨ad, x, rfl, hx, hcx⟩ := (h.ext he).at_ hlt
    have hx12 := HC.out x (List.mem_of_getElem? hx.out)
    have hst := firstO_drop (a := a) hx
    rw [openL_has] at hst
    cases h1 : hasInt x a
    · rw [h1] at hst
      cases h2 : hasInt (-x) a
      · rw [h2] at hst
        have hq2 : Hid (x = firstO a xs) := hide (by rw [← hq.out, hst]; simp)
        have H1 := hide h1
        have H2 := hide h2
        clear h1 h2 hst
        go_wp2_with fail
        refine (Contains_int_c _ _ _ _ a _ (k.ext (by (repeat (first | with_reducible exact Ext.refl _ | with_reducible assumption | ((with_reducible refine Ext.setCell ?_ ?_ _); rotate_left; focus (first | omega | (simp <;> omega))) | with_reducible refine Ext.alloc ?_ _ | with_reducible refine Ext.drewN ?_ _ | with_reducible refine Ext.drew ?_ | with_reducible refine Ext.trans ?_ (by with_reducible assumption)))))).mono ?_
        rw [H1.out]
        rintro e w1 ⟨rfl, he1⟩
        go_wp2_with fail
        refine (Contains_int_c _ _ _ _ a _ (k.ext (by (repeat (first | with_reducible exact Ext.refl _ | with_reducible assumption | ((with_reducible refine Ext.setCell ?_ ?_ _); rotate_left; focus (first | omega | (simp <;> omega))) | with_reducible refine Ext.alloc ?_ _ | with_reducible refine Ext.drewN ?_ _ | with_reducible refine Ext.drew ?_ | with_reducible refine Ext.trans ?_ (by with_reducible assumption)))))).mono ?_
        (try rw [wrap_neg hx12])
        rw [H2.out]
        rintro e w2 ⟨rfl, he2⟩
        go_wp2_with fail
        go_ret; exact ⟨ret_int hq2.out, by (repeat (first | with_reducible exact Ext.refl _ | with_reducible assumption | ((with_reducible refine Ext.setCell ?_ ?_ _); rotate_left; focus (first | omega | (simp <;> omega))) | with_reducible refine Ext.alloc ?_ _ | with_reducible refine Ext.drewN ?_ _ | with_reducible refine Ext.drew ?_ | with_reducible refine Ext.trans ?_ (by with_reducible assumption)))⟩
      · rw [h2] at hst
        have hq2 : Hid (firstO a (xs.drop (i + 1)) = firstO a xs) := hide (by rw [← hq.out, hst]; simp)
        have H1 := hide h1
        have H2 := hide h2
        clear h1 h2 hst
        go_wp2_with fail
        refine (Contains_int_c _ _ _ _ a _ (k.ext (by (repeat (first | with_reducible exact Ext.refl _ | with_reducible assumption | ((with_reducible refine Ext.setCell ?_ ?_ _); rotate_left; focus (first | omega | (simp <;> omega))) | with_reducible refine Ext.alloc ?_ _ | with_reducible refine Ext.drewN ?_ _ | with_reducible refine Ext.drew ?_ | with_reducible refine Ext.trans ?_ (by with_reducible assumption)))))).mono ?_
        rw [H1.out]
        rintro e w1 ⟨rfl, he1⟩
        go_wp2_with fail
        refine (Contains_int_c _ _ _ _ a _ (k.ext (by (repeat (first | with_reducible exact Ext.refl _ | with_reducible assumption | ((with_reducible refine Ext.setCell ?_ ?_ _); rotate_left; focus (first | omega | (simp <;> omega))) | with_reducible refine Ext.alloc ?_ _ | with_reducible refine Ext.drewN ?_ _ | with_reducible refine Ext.drew ?_ | with_reducible refine Ext.trans ?_ (by with_reducible assumption)))))).mono ?_
        (try rw [wrap_neg hx12])
        rw [H2.out]
        rintro e w2 ⟨rfl, he2⟩
        go_wp2_with fail
        exact ⟨⟨(by (repeat (first | exact trivial | refine ⟨rfl, ?_⟩))), by (repeat (first | with_reducible exact Ext.refl _ | with_reducible assumption | ((with_reducible refine Ext.setCell ?_ ?_ _); rotate_left; focus (first | omega | (simp <;> omega))) | with_reducible refine Ext.alloc ?_ _ | with_reducible refine Ext.drewN ?_ _ | with_reducible refine Ext.drew ?_ | with_reducible refine Ext.trans ?_ (by with_reducible assumption))), i + 1, by omega, by go_num, hq2⟩, (by simp [intOf] <;> omega)⟩
    · rw [h1] at hst
      have hq2 : Hid (firstO a (xs.drop (i + 1)) = firstO a xs) := hide (by rw [← hq.out, hst]; simp)
      have H1 := hide h1
      clear h1 hst
      go_wp2_with fail
      refine (Contains_int_c _ _ _ _ a _ (k.ext (by (repeat (first | with_reducible exact Ext.refl _ | with_reducible assumption | ((with_reducible refine Ext.setCell ?_ ?_ _); rotate_left; focus (first | omega | (simp <;> omega))) | with_reducible refine Ext.alloc ?_ _ | with_reducible refine Ext.drewN ?_ _ | with_reducible refine Ext.drew ?_ | with_reducible refine Ext.trans ?_ (by with_reducible assumption)))))).mono ?_
      rw [H1.out]
      rintro e w1 ⟨rfl, he1⟩
      go_wp2_with fail
      exact ⟨⟨(by (repeat (first | exact trivial | refine ⟨rfl, ?_⟩))), by (repeat (first | with_reducible exact Ext.refl _ | with_reducible assumption | ((with_reducible refine Ext.setCell ?_ ?_ _); rotate_left; focus (first | omega | (simp <;> omega))) | with_reducible refine Ext.alloc ?_ _ | with_reducible refine Ext.drewN ?_ _ | with_reducible refine Ext.drew ?_ | with_reducible refine Ext.trans ?_ (by with_reducible assumption))), i + 1, by omega, by go_num, hq2⟩, (by simp [intOf] <;> omega)⟩
  · have hq2 : Hid (0 = firstO a xs) := hide (by rw [← hq.out, List.drop_eq_nil_of_le (by rw [← HL.out]; omega)]; rfl)
    go_wp2
    go_ret; exact ⟨ret_int hq2.out, he⟩
theorem openVars_lit_c (x : Int) (p : Nat) (B : Option Addr) (m q : Nat) (a : List Int) (w : World) (k : Ints w B m a) (hx : 1 ≤ x ∧ x ≤ 12) (hc : w.cell? ⟨p, 0, none⟩ = some (.slice B m q)) :
    Calls Try.prog 102 #[.int .i64 x, .pointer (some ⟨p, 0, none⟩)] w fun e w' => e = .returned (.bool (!openL a x)) ∧ Ext w w' := by
  have hf : (firstO a [x] == 0) = !openL a x := by
    simp only [firstO]
    cases openL a x
    · rfl
    · simp; omega
  have HF := hide hf
  clear hf
  have hin : Ints (w.alloc (.cells #[.int .i64 x] 3)) (some ⟨w.heap.size, 0, none⟩) 1 [x] :=
    ⟨rfl, by omega, fun _ => ⟨_, rfl, fun j u hu => by cases j with | zero => simp at hu; subst hu; exact (BoxAt.made w _ _).cell 0 _ rfl | succ j => simp at hu⟩⟩
  have hc' := ((Ext.refl w).alloc (.cells #[.int .i64 x] 3)).cell hc
  go_enter Try.func102, Try.ntmps102
  go_wp2_with fail
  refine (firstOpen_c _ _ _ [x] B m q a _ hin (k.ext (by (repeat (first | with_reducible exact Ext.refl _ | with_reducible assumption | ((with_reducible refine Ext.setCell ?_ ?_ _); rotate_left; focus (first | omega | (simp <;> omega))) | with_reducible refine Ext.alloc ?_ _ | with_reducible refine Ext.drewN ?_ _ | with_reducible refine Ext.drew ?_ | with_reducible refine Ext.trans ?_ (by with_reducible assumption))))) ?_).mono ?_
  · intro y hy; simp at hy; subst hy; omega
  rintro e w1 ⟨rfl, he1⟩
  generalize firstO a [x] = t at HF
  go_wp2_with fail
  go_ret
  exact ⟨ret_bool HF.out, by (repeat (first | with_reducible exact Ext.refl _ | with_reducible assumption | ((with_reducible refine Ext.setCell ?_ ?_ _); rotate_left; focus (first | omega | (simp <;> omega))) | with_reducible refine Ext.alloc ?_ _ | with_reducible refine Ext.drewN ?_ _ | with_reducible refine Ext.drew ?_ | with_reducible refine Ext.trans ?_ (by with_reducible assumption)))⟩
theorem openVars_lit_enters : Enters Try.prog 102 := enters_of Try.func102 (by kernel_rfl) (by kernel_rfl)
def openList (n : Nat) (a : List Int) : List Int := (upFrom 1 n).filter (openL a)
theorem openList_mem {n : Nat} {a : List Int} {x : Int} (h : x ∈ openList n a) : 1 ≤ x ∧ x ≤ n ∧ openL a x = true := by
  simp only [openList, List.mem_filter, upFrom, List.mem_map, List.mem_range] at h
  obtain ⟨⟨i, hi, rfl⟩, ho⟩ := h
  exact ⟨by omega, by omega, ho⟩
theorem openList_code {n code : Nat} : openList n (codeLits n 1 code) = (opens n code).map fun v : Nat => (v : Int) := by
  have h : ∀ k, k ≤ n → (upFrom 1 k).filter (openL (codeLits n 1 code)) = (opens k code).map fun v : Nat => (v : Int) := by
    intro k
    induction k with
    | zero => intro _; rfl
    | succ k ih =>
      intro hk
      have h1 := codeLits_openAt (n := n) (code := code) (v := k + 1) (by omega) hk
      have h2 : (1 : Int) + (k : Int) = ((k + 1 : Nat) : Int) := by omega
      rw [upFrom_succ, List.filter_append, ih (by omega), h2]
      cases ho : openAt code (k + 1)
      · rw [opens_succ_no ho, List.filter_cons, h1, ho]; simp
      · rw [opens_succ_yes ho, List.filter_cons, h1, ho]; simp
  exact h n (Nat.le_refl _)
theorem opens_len (n code : Nat) : (opens n code).length ≤ n := by
  have h1 : (opens n code).length ≤ (varsTo n).length := List.length_filter_le _ _
  rwa [varsTo_length] at h1
theorem openList_len (n : Nat) (a : List Int) : (openList n a).length ≤ n := by
  have h1 : (openList n a).length ≤ (upFrom 1 n).length := List.length_filter_le _ _
  rwa [upFrom_length] at h1
set_option maxRecDepth 100000 in
theorem openVars_c (n : Nat) (B : Option Addr) (m q : Nat) (a : List Int) (w : World) (k : Ints w B m a) (hn : n ≤ 12) :
    Calls Try.prog 84 #[.int .i64 n, .slice B m q] w fun e w' => ∃ X y z, e = .returned (.slice X y z) ∧ Own w' w.heap.size 3 1 X y z ((openList n a).map (Value.int .i64)) ∧ y ≤ n ∧ Ext w w' := by
  have hfil : (upFrom 1 n).filter (fun x => !(!openL a x)) = openList n a := by simp [openList]
  have HF := hide hfil
  clear hfil
  have hcell : (w.alloc (.cells #[.slice B m q] 35)).cell? ⟨w.heap.size, 0, none⟩ = some (.slice B m q) := (BoxAt.made w _ _).cell 0 _ rfl
  go_enter Try.func84, Try.ntmps84
  go_wp2_with fail
  refine (upTo_c n _ hn).mono ?_
  rintro e w1 ⟨X, d, rfl, ho, he⟩
  have hc1 := he.cell hcell
  have hD := DeleteFunc_int_c 102 #[.pointer (some ⟨w.heap.size, 0, none⟩)] (fun x => !openL a x) _ X n d (upFrom 1 n) w1 ho (by omega) openVars_lit_enters
    (fun x W hx t => by
      have hx' : 1 ≤ x ∧ x ≤ 12 := by simp only [upFrom, List.mem_map, List.mem_range] at hx; obtain ⟨i, hi, rfl⟩ := hx; omega
      have h1 : w.heap.size < (w.alloc (.cells #[.slice B m q] 35)).heap.size := by simp
      refine openVars_lit_c x w.heap.size B m q a W ?_ hx' (t.cell hc1 (.inl h1))
      exact k.ext (Ext.touched (show Ext w w1 by (repeat (first | with_reducible exact Ext.refl _ | with_reducible assumption | ((with_reducible refine Ext.setCell ?_ ?_ _); rotate_left; focus (first | omega | (simp <;> omega))) | with_reducible refine Ext.alloc ?_ _ | with_reducible refine Ext.drewN ?_ _ | with_reducible refine Ext.drew ?_ | with_reducible refine Ext.trans ?_ (by with_reducible assumption)))) t (by simp)))
  rw [HF.out] at hD
  have HD := hide hD
  clear hD hcell
  go_wp2_with fail
  refine HD.out.mono ?_
  rintro e w2 ⟨y, rfl, ho2, t2⟩
  have hl := ho2.len
  have hl2 := openList_len n a
  go_wp2_with fail
  go_ret
  refine ⟨X, y, d, rfl, ho2.lower (by simp), ?_, Ext.touched (show Ext w w1 by (repeat (first | with_reducible exact Ext.refl _ | with_reducible assumption | ((with_reducible refine Ext.setCell ?_ ?_ _); rotate_left; focus (first | omega | (simp <;> omega))) | with_reducible refine Ext.alloc ?_ _ | with_reducible refine Ext.drewN ?_ _ | with_reducible refine Ext.drew ?_ | with_reducible refine Ext.trans ?_ (by with_reducible assumption)))) t2 (by simp)⟩
  · simp at hl; omega
end Go.Proofs.Ytaigjmbhgpcalaa
