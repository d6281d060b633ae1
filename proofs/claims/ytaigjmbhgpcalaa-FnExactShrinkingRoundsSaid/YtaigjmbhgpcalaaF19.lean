/-
  The library's sort of the call's own rows by the program's order; no condition.
-/
import Derived.Test.YtaigjmbhgpcalaaF21
import Derived.Test.YtaigjmbhgpcalaaF8d
import Derived.Test.YtaigjmbhgpcalaaShS
import Derived.Sort.LotA
import Derived.Shelf.SlSortCmp.NoneTotal

namespace Go.Proofs.Ytaigjmbhgpcalaa
set_option linter.unusedSimpArgs false
set_option linter.unusedVariables false
open Go.RowKit
open Go.Sort (putRow putCells PermIn SortedIn SWO)
structure RowEl (w : World) (g : Nat) where
  B : Option Addr
  m : Nat
  d : Nat
  c : List Int
  rd : Ints w B m c
  sm : Small c
  far : ∀ ad, B = some ad → ad.block ≠ g
instance (w : World) (g : Nat) : Inhabited (RowEl w g) := ⟨⟨none, 0, 0, [], ⟨rfl, by omega, fun h => absurd rfl h⟩, fun x hx => by simp at hx, fun ad h => by cases h⟩⟩
def RowEl.enc {w : World} {g : Nat} (x : RowEl w g) : Value := .slice x.B x.m x.d
def RowEl.cf {w : World} {g : Nat} (x y : RowEl w g) : Int := cmpC x.c y.c
theorem RowEl.one (w : World) (g : Nat) : OneCell (RowEl.enc (w := w) (g := g)) := fun _ => rfl
theorem RowEl.lt {w : World} {g : Nat} (x y : RowEl w g) : ltOf RowEl.cf x y = befC x.c y.c := by
  have h := cmpC_bef x.sm y.sm
  unfold ltOf RowEl.cf
  cases hb : befC x.c y.c
  · rw [hb] at h; simp at h; simp; omega
  · rw [hb] at h; simp at h; simp; omega
theorem RowEl.swo (w : World) (g : Nat) : SWO (ltOf (RowEl.cf (w := w) (g := g))) where
  irrefl x := by rw [RowEl.lt]; exact befC_irr _
  trans x y z h1 h2 := by rw [RowEl.lt] at *; exact befC_trans h1 h2
  ntrans x y z h1 h2 := by
    rw [RowEl.lt] at *
    cases h3 : befC x.c z.c
    · rfl
    · cases h4 : befC y.c x.c
      · rw [befC_tri h1 h4] at h3; rw [h3] at h2; cases h2
      · rw [befC_trans h4 h3] at h2; cases h2
/-! ### The world of a sort -/
theorem sortWorld_heap {α : Type} [Inhabited α] (enc : α → Value) (w : World) (g m : Nat) (dk : Array α) (os : Array Obj) {k : Nat} (hk : k < w.heap.size) (hg : k ≠ g) : (sortWorld enc w g 0 m dk os).heap[k]? = w.heap[k]? := by
  unfold sortWorld
  rw [Sort.heap_grow_old _ _ (by simpa [putRow, Sort.mapBlock, Sort.ahead] using hk)]
  unfold putRow Sort.mapBlock Sort.ahead
  simp only [Array.getElem?_modify]
  rw [if_neg (Ne.symm hg)]
theorem sortWorld_grown {α : Type} [Inhabited α] (enc : α → Value) (w : World) (g m : Nat) (dk : Array α) (os : Array Obj) : w.grownBy (sortWorld enc w g 0 m dk os) (some g) := by
  refine ⟨rfl, rfl, rfl, ?_, fun k hk hg => sortWorld_heap enc w g m dk os hk (fun e => hg (by rw [e]))⟩
  unfold sortWorld
  simp [putRow, Sort.mapBlock, Sort.ahead]
theorem putCells_list {α : Type} [Inhabited α] (enc : α → Value) (dk : Array α) (cur : Array Value) (h : dk.size ≤ cur.size) : (putCells enc 0 dk cur).toList.take dk.size = dk.toList.map enc := by
  apply List.ext_getElem?
  intro j
  rw [List.getElem?_take, List.getElem?_map]
  by_cases hj : j < dk.size
  · rw [if_pos hj]
    simp only [putCells, Array.getElem?_toList, Array.getElem?_mapIdx]
    rw [Array.getElem?_eq_getElem (show j < cur.size by omega), Array.getElem?_eq_getElem hj]
    simp only [Option.map_some]
    rw [if_pos ⟨by omega, by omega⟩, Nat.sub_zero, getElem!_pos dk j hj]
  · rw [if_neg hj, Array.getElem?_toList, Array.getElem?_eq_none (by omega)]; rfl
theorem sortWorld_own {α : Type} [Inhabited α] (enc : α → Value) {w : World} {base : Nat} {e : TypeId} {g n c : Nat} {us : List Value} (h : Own w base e 1 (some ⟨g, 0, none⟩) n c us) (m : Nat) (dk : Array α) (os : Array Obj) (hd : dk.size = n) :
    Own (sortWorld enc w g 0 m dk os) base e 1 (some ⟨g, 0, none⟩) n c (dk.toList.map enc) := by
  refine ⟨by simp; omega, ?_⟩
  rcases h.2 with ⟨hn, _⟩ | ⟨g', cap, cur, hv, hb, hh, hle, hm, hs, _⟩
  · cases hn
  · injection hv with h1 h2 h3
    injection h1 with h1
    injection h1 with h1 h4 h5
    subst h1
    have hgl : g < w.heap.size := (Array.getElem?_eq_some_iff.1 hh).1
    refine .inr ⟨g, cap, putCells enc 0 dk cur, by rw [h3], hb, ?_, hle, hm, ?_, ?_⟩
    · unfold sortWorld
      rw [Sort.heap_grow_old _ _ (by simpa [putRow, Sort.mapBlock, Sort.ahead] using hgl)]
      unfold putRow Sort.mapBlock Sort.ahead
      simp only [Array.getElem?_modify, if_true]
      rw [hh]; rfl
    · simpa [putCells] using hs
    · rw [Nat.mul_one, ← hd]
      exact putCells_list enc dk cur (by omega)
theorem Ints.far {w w' : World} {B : Option Addr} {m g : Nat} {c : List Int} (h : Ints w B m c) (hf : ∀ ad, B = some ad → ad.block ≠ g) (hk : ∀ k, k < w.heap.size → k ≠ g → w'.heap[k]? = w.heap[k]?) : Ints w' B m c := by
  refine ⟨h.len, h.bound, fun hne => ?_⟩
  obtain ⟨ad, e, hc⟩ := h.reads hne
  refine ⟨ad, e, fun j u hu => ?_⟩
  have h1 := hc j u hu
  have hbk : (ad.add j).block = ad.block := by unfold Addr.add; split <;> rfl
  have hlt := World.block_lt_of_cell? w _ h1
  rw [← h1]
  simp only [World.cell?]
  rw [hk _ hlt (by rw [hbk]; exact hf ad e)]
/-! ### The sort -/
theorem rowEls {w : World} {g : Nat} : ∀ (us : List Value) (xss : List (List Int)), us.length = xss.length → (∀ (i : Nat) (u : Value) (xs : List Int), us[i]? = some u → xss[i]? = some xs → ∃ x : RowEl w g, x.enc = u ∧ x.c = xs) →
    ∃ ds : List (RowEl w g), ds.map RowEl.enc = us ∧ ds.map RowEl.c = xss
  | [], [], _, _ => ⟨[], rfl, rfl⟩
  | u :: us, xs :: xss, hl, h => by
    obtain ⟨x, hx1, hx2⟩ := h 0 u xs rfl rfl
    obtain ⟨ds, h1, h2⟩ := rowEls us xss (by simpa using hl) (fun i v ys hv hy => h (i + 1) v ys (by simpa using hv) (by simpa using hy))
    exact ⟨x :: ds, by simp [hx1, h1], by simp [hx2, h2]⟩
  | [], _ :: _, hl, _ => by simp at hl
  | _ :: _, [], hl, _ => by simp at hl
theorem compareClauses_enters : ∀ args w, (callFunc 49 args).run Try.prog w = .ok (.enter 49 args) w := enters_of Try.func49 (by kernel_rfl) (by kernel_rfl)
theorem SortFunc_rows (lo hi : Nat) (g n c : Nat) (xss : List (List Int)) (us : List Value) (w : World) (h : OwnRows w lo hi 35 3 (some ⟨g, 0, none⟩) n c xss us) (hs : ∀ x ∈ xss, Small x) (hn : n < 4611686018427387904) :
    Calls Try.prog 48 #[.slice (some ⟨g, 0, none⟩) n c, .func (.func 49) #[] #[]] w fun e w' => e = .returned (.tuple #[]) ∧
      ∃ xss' us', xss'.Perm xss ∧ Desc xss' ∧ OwnRows w' lo hi 35 3 (some ⟨g, 0, none⟩) n c xss' us' ∧ w.grownBy w' (some g) := by
  have hne : (35 : TypeId) ≠ 3 := by decide
  have hul := h.ulen
  have hxl := h.len
  obtain ⟨ds, he, hc⟩ := rowEls (w := w) (g := g) us xss (by omega) (fun i u xs hu hx => by
    have hr := h.inner i u xs hu hx
    have ho := hr.ne_outer h.outer hne
    obtain ⟨B, d, rfl, hw, hb, _⟩ := hr
    refine ⟨⟨B, _, d, xs, hw.ints (by omega), hs xs (List.mem_of_getElem? hx), fun ad e => ?_⟩, rfl, rfl⟩
    subst e
    rcases ho with ho | ho
    · simp [Value.ownBlock] at ho
    · simpa [Value.ownBlock] using ho)
  have hdl : ds.length = n := by have := congrArg List.length he; simp at this; omega
  have hH : Sort.Holds RowEl.enc w g 0 ds.toArray := by
    intro j hj
    have hj' : j < ds.length := by simpa using hj
    rw [Nat.zero_add]
    refine ⟨?_, h.outer.frozen j⟩
    refine h.outer.cell ?_
    rw [← he, List.getElem?_map, List.getElem?_eq_getElem hj']
    simp only [Option.map_some]
    congr 2
    simp [getElem!_pos ds.toArray j hj]
  have hblk : g < w.heap.size := (h.outer.lt g rfl).2
  have hcmp : CmpLays1 Try.prog 49 #[] (RowEl.enc (w := w) (g := g)) RowEl.cf g 0 ds.toArray.size w := by
    intro m os dk hdk x y
    have hk := fun k (h1 : k < w.heap.size) (h2 : k ≠ g) => sortWorld_heap RowEl.enc w g m dk os h1 h2
    refine (compareClauses_d x.B x.m x.d x.c y.B y.m y.d y.c _ (x.rd.far x.far hk) (y.rd.far y.far hk)).mono ?_
    rintro e w' ⟨rfl, hw⟩
    exact ⟨rfl, hw.grown⟩
  have hS := Try.slices_SortFunc RowEl.enc (RowEl.one w g) RowEl.cf (RowEl.swo w g) 49 #[] g 0 c ds.toArray w compareClauses_enters hcmp hH hblk (by simp; omega)
  rw [List.size_toArray, hdl] at hS
  refine hS.mono ?_
  rintro e w' ⟨rfl, d', m, os, hp, hso, rfl⟩
  obtain ⟨hsz, _, hperm⟩ := hp
  have hsz' : d'.size = n := by rw [hsz]; simpa using hdl
  have e1 : d'.extract 0 n = d' := by rw [← hsz']; exact Array.extract_size
  have e2 : ds.toArray.extract 0 n = ds.toArray := by rw [← hdl, ← List.size_toArray]; exact Array.extract_size
  rw [e1, e2, List.toList_toArray] at hperm
  have hG := sortWorld_grown RowEl.enc w g m d' os
  refine ⟨rfl, d'.toList.map RowEl.c, d'.toList.map RowEl.enc, ?_, ?_, ⟨by simp; omega, sortWorld_own RowEl.enc h.outer m d' os hsz', h.below, ?_, ?_⟩, hG⟩
  · rw [← hc]; exact hperm.map _
  · intro i j x y hij hx hy
    rw [List.getElem?_map, Option.map_eq_some_iff] at hx hy
    obtain ⟨p, hp, rfl⟩ := hx
    obtain ⟨q, hq, rfl⟩ := hy
    have hil : i < d'.size := by have := (List.getElem?_eq_some_iff.1 hp).1; simpa using this
    have hjl : j < d'.size := by have := (List.getElem?_eq_some_iff.1 hq).1; simpa using this
    have := hso i j (Nat.zero_le _) hij (by omega)
    rw [getElem!_pos d' j hjl, getElem!_pos d' i hil, RowEl.lt] at this
    rw [Array.getElem?_toList, Array.getElem?_eq_getElem hil] at hp
    rw [Array.getElem?_toList, Array.getElem?_eq_getElem hjl] at hq
    injection hp with hp
    injection hq with hq
    rw [← hp, ← hq]; exact this
  · intro i u xs hu hx
    rw [List.getElem?_map, Option.map_eq_some_iff] at hu hx
    obtain ⟨p, hp, rfl⟩ := hu
    obtain ⟨q, hq, rfl⟩ := hx
    rw [hp] at hq; injection hq with hq; subst hq
    have hmem := hperm.mem_iff.1 (List.mem_of_getElem? hp)
    obtain ⟨j, hj, ej⟩ := List.getElem_of_mem hmem
    have hr := h.inner j p.enc p.c (by rw [← he, List.getElem?_map, List.getElem?_eq_getElem hj, ej]; rfl) (by rw [← hc, List.getElem?_map, List.getElem?_eq_getElem hj, ej]; rfl)
    exact hr.kept hG (hr.ne_outer h.outer hne)
  · have hpw : ds.Pairwise (fun x y => ∀ k, x.enc.ownBlock = some k → y.enc.ownBlock ≠ some k) := by
      rw [List.pairwise_iff_getElem]
      intro i j hi hj hij k h1 h2
      have := h.apart i j (ds[i]).enc (ds[j]).enc k (by rw [← he, List.getElem?_map, List.getElem?_eq_getElem hi]; rfl) (by rw [← he, List.getElem?_map, List.getElem?_eq_getElem hj]; rfl) h1 h2
      omega
    have hpw2 := (hperm.pairwise_iff (R := fun x y : RowEl w g => ∀ k, x.enc.ownBlock = some k → y.enc.ownBlock ≠ some k) (fun {x y} hR k h1 h2 => hR k h2 h1)).2 hpw
    rw [List.pairwise_iff_getElem] at hpw2
    intro i j u v k hu hv h1 h2
    rw [List.getElem?_map, Option.map_eq_some_iff] at hu hv
    obtain ⟨p, hp, rfl⟩ := hu
    obtain ⟨q, hq, rfl⟩ := hv
    obtain ⟨hi, ei⟩ := List.getElem?_eq_some_iff.1 hp
    obtain ⟨hj, ej⟩ := List.getElem?_eq_some_iff.1 hq
    rcases Nat.lt_trichotomy i j with hlt | heq | hgt
    · exact absurd (ej ▸ h2) (hpw2 i j hi hj hlt k (ei ▸ h1))
    · exact heq
    · exact absurd (ei ▸ h1) (hpw2 j i hj hi hgt k (ej ▸ h2))
theorem SortFunc_nil (A : Option Addr) (c : Nat) (fv : Value) (w : World) :
    Calls Try.prog 48 #[.slice A 0 c, fv] w fun e w' => e = .returned (.tuple #[]) ∧ w' = w :=
  Try.slices_SortFunc_none (α := Nat) A c fv w
end Go.Proofs.Ytaigjmbhgpcalaa
