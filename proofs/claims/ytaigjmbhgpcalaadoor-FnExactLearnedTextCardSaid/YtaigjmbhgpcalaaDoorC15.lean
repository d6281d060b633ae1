/-
  slices.Contains at []int, slices.ContainsFunc at [][]int, l1Has; the sinks of a dag.
-/
import Derived.Test.YtaigjmbhgpcalaaDoorC14
import Derived.Test.YtaigjmbhgpcalaaDoorC7
namespace Go.Proofs.YtaigjmbhgpcalaaDoor
set_option linter.unusedSimpArgs false
set_option linter.unusedVariables false
open Go.RowKit

def hasInt (x : Int) (xs : List Int) : Bool := xs.any (· == x)
theorem any_false_take {α} {p : α → Bool} {xs : List α} {i : Nat} {x : α} (hx : Hid (xs[i]? = some x)) (h : Hid ((xs.take i).any p = false)) (hp : p x = false) : Hid ((xs.take (i + 1)).any p = false) := by
  unfold Hid; rw [take_succ_of hx, List.any_append, h.out]; simp [hp]
theorem any_true_of {α} {p : α → Bool} {xs : List α} {i : Nat} {x : α} (hx : Hid (xs[i]? = some x)) (hp : p x = true) : xs.any p = true := List.any_eq_true.2 ⟨x, List.mem_of_getElem? hx.out, hp⟩

set_option maxRecDepth 100000 in
theorem IndexFunc_rows_mem (fid : FuncId) (cap : Array Value) (p : List Int → Bool) (A : Option Addr) (n d : Nat) (xss : List (List Int)) (w : World) (h : Intss w A n xss)
    (hent : Enters Tryd.prog fid) (hf : ∀ xs B m c wr, xs ∈ xss → Ints wr B m xs → Ext w wr → Calls Tryd.prog fid (#[.slice B m c] ++ cap) wr fun e w' => e = .returned (.bool (p xs)) ∧ Ext wr w') :
    Calls Tryd.prog 55 #[.slice A n d, .func (.func fid) #[] cap] w fun e w' => e = .returned (.int .i64 (idxOf p xss 0)) ∧ Ext w w' := by
  have hb := h.bound
  have HF := hide hf
  clear hf
  go_enter Tryd.func55, Tryd.ntmps55
  go_wp2
  refine wp_loop (fun acT wr => ∃ s0 s1 s2 s3 s4 s5 s6 s7 s8 s9 s10 s11 s12 s13 s14 s15 s16 s17 s18 : Value, (s0 = .slice A n d ∧ s1 = .func (.func fid) #[] cap ∧ s7 = .int .i64 n ∧ (Ext w wr ∧ ∃ i : Nat, i ≤ n ∧ s8 = .int .i64 (i : Int) ∧ Hid (idxOf p (xss.drop i) i = idxOf p xss 0))) ∧ acT = ⟨#[s0, s1, s2, s3, s4, s5, s6, s7, s8, s9, s10, s11, s12, s13, s14, s15, s16, s17, s18], []⟩) (fun acT wr => (fun (s8 : Value) (wr : World) => n - (intOf s8).toNat) (acT.tmps.getD 8 undef) wr) ?_ ?_
  · (refine ⟨_, _, _, _, _, _, _, _, _, _, _, _, _, _, _, _, _, _, _, ⟨rfl, rfl, rfl, ?_⟩, rfl⟩; exact ⟨Ext.refl _, 0, Nat.zero_le _, rfl, by simp [Hid]⟩)
  intro _ wr hinv; obtain ⟨s0, s1, s2, s3, s4, s5, s6, s7, s8, s9, s10, s11, s12, s13, s14, s15, s16, s17, s18, ⟨rfl, rfl, rfl, hrel⟩, rfl⟩ := hinv; (try dsimp only)
  obtain ⟨he, i, hi, rfl, hq⟩ := hrel
  have HL := hide h.len
  by_cases hlt : i < n
  · obtain ⟨ad, xs, B, m, c, rfl, hx, hc, hin⟩ := (h.ext he).at_ hlt
    have HC := hide (HF.out xs B m c wr (List.mem_of_getElem? hx.out) hin he)
    have hen := hent (#[.slice B m c] ++ cap) wr
    have hd := hide (idxOf_drop (p := p) hx)
    cases hpx : p xs
    · have hq' : Hid (idxOf p (xss.drop (i + 1)) (i + 1) = idxOf p xss 0) := hide (by rw [← hq.out, hd.out, hpx]; simp)
      have HC' := HC
      rw [hpx] at HC'
      clear hpx HC
      go_wp2_with (refine HC'.out.mono ?_; rintro e w1 ⟨rfl, he1⟩)
      exact ⟨⟨(by first | trivial | rfl), (by first | trivial | rfl), (by first | trivial | rfl), by (repeat (first | with_reducible exact Ext.refl _ | with_reducible assumption | ((with_reducible refine Ext.setCell ?_ ?_ _); rotate_left; focus (first | omega | (simp <;> omega))) | with_reducible refine Ext.alloc ?_ _ | with_reducible refine Ext.drewN ?_ _ | with_reducible refine Ext.drew ?_ | with_reducible refine Ext.trans ?_ (by with_reducible assumption))), i + 1, by omega, by go_num, hq'⟩, (by simp [intOf] <;> omega)⟩
    · have hq' : Hid (idxOf p xss 0 = (i : Int)) := hide (by rw [← hq.out, hd.out, hpx]; simp)
      have HC' := HC
      rw [hpx] at HC'
      clear hpx HC
      go_wp2_with (refine HC'.out.mono ?_; rintro e w1 ⟨rfl, he1⟩)
      go_ret
      exact ⟨ret_int hq'.out.symm, by (repeat (first | with_reducible exact Ext.refl _ | with_reducible assumption | ((with_reducible refine Ext.setCell ?_ ?_ _); rotate_left; focus (first | omega | (simp <;> omega))) | with_reducible refine Ext.alloc ?_ _ | with_reducible refine Ext.drewN ?_ _ | with_reducible refine Ext.drew ?_ | with_reducible refine Ext.trans ?_ (by with_reducible assumption)))⟩
  · obtain rfl : i = n := by omega
    have hq' : Hid (idxOf p xss 0 = -1) := hide (by rw [← hq.out, List.drop_eq_nil_of_le (by rw [HL.out]; exact Nat.le_refl _)]; rfl)
    go_wp2
    go_ret
    exact ⟨ret_int hq'.out.symm, he⟩
theorem ContainsFunc_rows_mem (fid : FuncId) (cap : Array Value) (p : List Int → Bool) (A : Option Addr) (n d : Nat) (xss : List (List Int)) (w : World) (h : Intss w A n xss)
    (hent : Enters Tryd.prog fid) (hf : ∀ xs B m c wr, xs ∈ xss → Ints wr B m xs → Ext w wr → Calls Tryd.prog fid (#[.slice B m c] ++ cap) wr fun e w' => e = .returned (.bool (p xs)) ∧ Ext wr w') :
    Calls Tryd.prog 44 #[.slice A n d, .func (.func fid) #[] cap] w fun e w' => e = .returned (.bool (xss.any p)) ∧ Ext w w' := by
  have HC := hide (IndexFunc_rows_mem fid cap p A n d xss w h hent hf)
  have hneg := idxOf_neg (p := p) xss 0
  cases ha : xss.any p
  · rw [ha] at hneg
    have h1 : idxOf p xss 0 < 0 := hneg.2 rfl
    clear hneg ha hf hent
    go_enter Tryd.func44, Tryd.ntmps44
    go_wp2_with (go_at_call 55; refine HC.out.mono ?_; rintro e w1 ⟨rfl, he⟩)
    go_ret
    exact ⟨ret_bool (by simp <;> omega), he⟩
  · rw [ha] at hneg
    have h1 : 0 ≤ idxOf p xss 0 := by
      rcases Int.lt_or_le (idxOf p xss 0) 0 with h2 | h2
      · exact absurd (hneg.1 h2) (by simp)
      · exact h2
    clear hneg ha hf hent
    go_enter Tryd.func44, Tryd.ntmps44
    go_wp2_with (go_at_call 55; refine HC.out.mono ?_; rintro e w1 ⟨rfl, he⟩)
    go_ret
    exact ⟨ret_bool (by simp <;> omega), he⟩
theorem ContainsFunc_rows_c (fid : FuncId) (cap : Array Value) (p : List Int → Bool) (A : Option Addr) (n d : Nat) (xss : List (List Int)) (w : World) (h : Intss w A n xss)
    (hent : Enters Tryd.prog fid) (hf : ∀ xs B m c wr, Ints wr B m xs → Ext w wr → Calls Tryd.prog fid (#[.slice B m c] ++ cap) wr fun e w' => e = .returned (.bool (p xs)) ∧ Ext wr w') :
    Calls Tryd.prog 44 #[.slice A n d, .func (.func fid) #[] cap] w fun e w' => e = .returned (.bool (xss.any p)) ∧ Ext w w' :=
  ContainsFunc_rows_mem fid cap p A n d xss w h hent (fun xs B m c wr _ h1 h2 => hf xs B m c wr h1 h2)
def isSink (xss : List (List Int)) (x : Nat) : Bool := !xss.any (hasInt x)
theorem rising_mem {lo hi : Int} {xs : List Int} (h : rising lo hi xs = true) {z : Int} (hz : z ∈ xs) : lo ≤ z ∧ z ≤ hi := by
  obtain ⟨i, hi', he⟩ := List.mem_iff_getElem.1 hz
  have h1 := List.all_eq_true.1 h i (by simpa using hi')
  have h2 := (and2_true h1).1
  have h3 : xs.getD i 0 = z := by rw [List.getD_eq_getElem?_getD, List.getElem?_eq_getElem hi']; simpa using he
  rw [h3] at h2
  exact within_true h2
theorem dag_row {xss : List (List Int)} (h : dagOk xss = true) {i : Nat} {xs : List Int} (hx : xss[i]? = some xs) : rising 0 ((i : Int) - 1) xs = true := by
  have h1 := List.all_eq_true.1 (and2_true h).2 i (by have := (List.getElem?_eq_some_iff.1 hx).1; simpa using this)
  rwa [dagRow_get (hide hx)] at h1
theorem dag_low {xss : List (List Int)} (h : dagOk xss = true) (x : Nat) : (xss.take (x + 1)).any (hasInt x) = false := by
  rw [List.any_eq_false]
  intro xs hxs
  obtain ⟨i, hi, he⟩ := List.mem_iff_getElem.1 hxs
  have hi2 : i < x + 1 := by simp at hi; omega
  have hx : xss[i]? = some xs := by
    rw [List.getElem_take] at he
    rw [List.getElem?_eq_getElem (by simp at hi; omega), he]
  have hr := dag_row h hx
  simp only [hasInt, List.any_eq_true, not_exists, not_and]
  intro z hz hzx
  have := rising_mem hr hz
  simp at hzx
  omega
end Go.Proofs.YtaigjmbhgpcalaaDoor
