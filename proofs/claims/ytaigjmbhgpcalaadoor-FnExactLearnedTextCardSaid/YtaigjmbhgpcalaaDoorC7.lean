/-
  slices.IndexFunc and ContainsFunc at []int, for whatever function value only reads.
-/
import Derived.Test.YtaigjmbhgpcalaaDoorC2
namespace Go.Proofs.YtaigjmbhgpcalaaDoor
set_option linter.unusedSimpArgs false
set_option linter.unusedVariables false
open Go.RowKit

/-- The first place where p holds, or -1. -/
def idxOf {α : Type} (p : α → Bool) : List α → Nat → Int
  | [], _ => -1
  | x :: xs, k => if p x then (k : Int) else idxOf p xs (k + 1)
/-- A function with a body: calling its value enters it. -/
def Enters (P : Program) (f : FuncId) : Prop := ∀ (args : Array Value) (w : World), (callFunc f args).run P w = .ok (.enter f args) w
theorem enters_of {P : Program} {f : FuncId} {fn : Func} (hf : P.funcs[f]? = some fn) (hname : (fn.name == "runtime.NumGoroutine") = false) (hb : fn.body.isNone = false) : Enters P f := by
  intro args w
  have h1 : fn.name ≠ "runtime.NumGoroutine" := by simpa using hname
  have h2 : fn.body ≠ none := by intro h; rw [h] at hb; simp at hb
  simp [callFunc, go_sem, hf, h1, h2]
theorem idxOf_drop {α : Type} {p : α → Bool} {xs : List α} {i : Nat} {x : α} (hx : Hid (xs[i]? = some x)) : idxOf p (xs.drop i) i = if p x then (i : Int) else idxOf p (xs.drop (i + 1)) (i + 1) := by
  have h := hx.out
  obtain ⟨hi, rfl⟩ := List.getElem?_eq_some_iff.1 h
  rw [List.drop_eq_getElem_cons hi]
  rfl
theorem idxOf_neg {α : Type} {p : α → Bool} (xs : List α) : ∀ k, (idxOf p xs k < 0 ↔ xs.any p = false) := by
  induction xs with
  | nil => intro k; simp [idxOf]
  | cons x xs ih =>
    intro k
    unfold idxOf
    cases hp : p x
    · simp [ih, hp]
    · simp [hp]

set_option maxRecDepth 100000 in
theorem IndexFunc_int_c (fid : FuncId) (cap : Array Value) (p : Int → Bool) (A : Option Addr) (n d : Nat) (xs : List Int) (w : World) (h : Ints w A n xs)
    (hent : Enters Tryd.prog fid) (hf : ∀ x wr, x ∈ xs → Ext w wr → Calls Tryd.prog fid (#[.int .i64 x] ++ cap) wr fun e w' => e = .returned (.bool (p x)) ∧ Ext wr w') :
    Calls Tryd.prog 49 #[.slice A n d, .func (.func fid) #[] cap] w fun e w' => e = .returned (.int .i64 (idxOf p xs 0)) ∧ Ext w w' := by
  have hb := h.bound
  have HF := hide hf
  clear hf
  go_enter Tryd.func49, Tryd.ntmps49
  go_wp2
  refine wp_loop (fun acT wr => ∃ s0 s1 s2 s3 s4 s5 s6 s7 s8 s9 s10 s11 s12 s13 s14 s15 s16 s17 s18 : Value, (s0 = .slice A n d ∧ s1 = .func (.func fid) #[] cap ∧ s7 = .int .i64 n ∧ (Ext w wr ∧ ∃ i : Nat, i ≤ n ∧ s8 = .int .i64 (i : Int) ∧ Hid (idxOf p (xs.drop i) i = idxOf p xs 0))) ∧ acT = ⟨#[s0, s1, s2, s3, s4, s5, s6, s7, s8, s9, s10, s11, s12, s13, s14, s15, s16, s17, s18], []⟩) (fun acT wr => (fun (s8 : Value) (wr : World) => n - (intOf s8).toNat) (acT.tmps.getD 8 undef) wr) ?_ ?_
  · (refine ⟨_, _, _, _, _, _, _, _, _, _, _, _, _, _, _, _, _, _, _, ⟨rfl, rfl, rfl, ?_⟩, rfl⟩; exact ⟨Ext.refl _, 0, Nat.zero_le _, rfl, by simp [Hid]⟩)
  intro _ wr hinv; obtain ⟨s0, s1, s2, s3, s4, s5, s6, s7, s8, s9, s10, s11, s12, s13, s14, s15, s16, s17, s18, ⟨rfl, rfl, rfl, hrel⟩, rfl⟩ := hinv; (try dsimp only)
  obtain ⟨he, i, hi, rfl, hq⟩ := hrel
  have hl := h.len
  have HL := hide hl
  clear hl
  by_cases hlt : i < n
  · obtain ⟨ad, x, rfl, hx, hc⟩ := (h.ext he).at_ hlt
    have hcall := HF.out x wr (List.mem_of_getElem? hx.out) he
    have HC := hide hcall
    clear hcall
    have hen := hent (#[.int .i64 x] ++ cap) wr
    have hd := hide (idxOf_drop (p := p) hx)
    cases hpx : p x
    · have hq' : Hid (idxOf p (xs.drop (i + 1)) (i + 1) = idxOf p xs 0) := hide (by rw [← hq.out, hd.out, hpx]; simp)
      have HC' := HC
      rw [hpx] at HC'
      clear hpx HC
      go_wp2_with (refine HC'.out.mono ?_; rintro e w1 ⟨rfl, he1⟩)
      exact ⟨⟨(by first | trivial | rfl), (by first | trivial | rfl), (by first | trivial | rfl), by (repeat (first | with_reducible exact Ext.refl _ | with_reducible assumption | ((with_reducible refine Ext.setCell ?_ ?_ _); rotate_left; focus (first | omega | (simp <;> omega))) | with_reducible refine Ext.alloc ?_ _ | with_reducible refine Ext.drewN ?_ _ | with_reducible refine Ext.drew ?_ | with_reducible refine Ext.trans ?_ (by with_reducible assumption))), i + 1, by omega, by go_num, hq'⟩, (by simp [intOf] <;> omega)⟩
    · have hq' : Hid (idxOf p xs 0 = (i : Int)) := hide (by rw [← hq.out, hd.out, hpx]; simp)
      have HC' := HC
      rw [hpx] at HC'
      clear hpx HC
      go_wp2_with (refine HC'.out.mono ?_; rintro e w1 ⟨rfl, he1⟩)
      go_ret
      exact ⟨ret_int hq'.out.symm, by (repeat (first | with_reducible exact Ext.refl _ | with_reducible assumption | ((with_reducible refine Ext.setCell ?_ ?_ _); rotate_left; focus (first | omega | (simp <;> omega))) | with_reducible refine Ext.alloc ?_ _ | with_reducible refine Ext.drewN ?_ _ | with_reducible refine Ext.drew ?_ | with_reducible refine Ext.trans ?_ (by with_reducible assumption)))⟩
  · obtain rfl : i = n := by omega
    have hq' : Hid (idxOf p xs 0 = -1) := hide (by rw [← hq.out, List.drop_eq_nil_of_le (by rw [HL.out]; exact Nat.le_refl _)]; rfl)
    go_wp2
    go_ret
    exact ⟨ret_int hq'.out.symm, he⟩
theorem ContainsFunc_int_c (fid : FuncId) (cap : Array Value) (p : Int → Bool) (A : Option Addr) (n d : Nat) (xs : List Int) (w : World) (h : Ints w A n xs)
    (hent : Enters Tryd.prog fid) (hf : ∀ x wr, x ∈ xs → Ext w wr → Calls Tryd.prog fid (#[.int .i64 x] ++ cap) wr fun e w' => e = .returned (.bool (p x)) ∧ Ext wr w') :
    Calls Tryd.prog 34 #[.slice A n d, .func (.func fid) #[] cap] w fun e w' => e = .returned (.bool (xs.any p)) ∧ Ext w w' := by
  have HC := hide (IndexFunc_int_c fid cap p A n d xs w h hent hf)
  have hneg := idxOf_neg (p := p) xs 0
  cases ha : xs.any p
  · rw [ha] at hneg
    have h1 : idxOf p xs 0 < 0 := hneg.2 rfl
    clear hneg ha hf hent
    go_enter Tryd.func34, Tryd.ntmps34
    go_wp2_with (go_at_call 49; refine HC.out.mono ?_; rintro e w1 ⟨rfl, he⟩)
    go_ret
    exact ⟨ret_bool (by simp <;> omega), he⟩
  · rw [ha] at hneg
    have h1 : 0 ≤ idxOf p xs 0 := by
      rcases Int.lt_or_le (idxOf p xs 0) 0 with h2 | h2
      · exact absurd (hneg.1 h2) (by simp)
      · exact h2
    clear hneg ha hf hent
    go_enter Tryd.func34, Tryd.ntmps34
    go_wp2_with (go_at_call 49; refine HC.out.mono ?_; rintro e w1 ⟨rfl, he⟩)
    go_ret
    exact ⟨ret_bool (by simp <;> omega), he⟩
end Go.Proofs.YtaigjmbhgpcalaaDoor
