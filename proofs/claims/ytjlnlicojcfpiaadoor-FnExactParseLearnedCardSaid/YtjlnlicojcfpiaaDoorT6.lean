/-
  The text of clauses and of a list of clauses: the reference's and the program's; no condition.
-/
import Derived.Test.YtjlnlicojcfpiaaDoorT2
import Derived.Test.YtjlnlicojcfpiaaDoorT5
namespace Go.Proofs.YtjlnlicojcfpiaaDoor
set_option linter.unusedSimpArgs false
set_option linter.unusedVariables false
open Go.RowKit
def clauseL (c : List Int) : List UInt8 := if c = [] then [110, 111, 110, 101] else Lib.join (c.map Lib.itoa) [32]
def learnedL (l : List (List Int)) : List UInt8 := Lib.join (l.map clauseL) [59, 32]
def learnedP (v : Int) (cls l : List (List Int)) : List UInt8 := if lstOk v cls l then learnedL l else []
theorem joinTail_len {ws : List (List UInt8)} (sep : List UInt8) {M : Nat} (h : ∀ x ∈ ws, x.length ≤ M) : (Lib.joinTail sep ws).length ≤ ws.length * (M + sep.length) := by
  induction ws with
  | nil => simp [Lib.joinTail]
  | cons x r ih =>
    have h1 := ih (fun y hy => h y (by simp [hy]))
    have h2 := h x (by simp)
    simp only [Lib.joinTail, List.map_cons, List.flatten_cons, List.length_append, List.length_cons, Nat.add_mul, Nat.one_mul] at h1 ⊢
    omega
theorem join_len {ws : List (List UInt8)} (sep : List UInt8) {M : Nat} (h : ∀ x ∈ ws, x.length ≤ M) : (Lib.join ws sep).length ≤ ws.length * (M + sep.length) := by
  cases ws with
  | nil => simp [Lib.join_nil]
  | cons x r =>
    rw [Lib.join_cons, List.length_append]
    have h1 := joinTail_len sep (ws := r) (fun y hy => h y (by simp [hy]))
    have h2 := h x (by simp)
    simp only [List.length_cons, Nat.add_mul, Nat.one_mul] at h1 ⊢
    omega
theorem itoas_ne (c : List Int) : ∀ x ∈ c.map Lib.itoa, x ≠ [] := by
  intro x hx
  obtain ⟨y, _, rfl⟩ := List.mem_map.1 hx
  exact itoa_ne y
theorem itoas_len {c : List Int} (hc : ∀ x ∈ c, -12 ≤ x ∧ x ≤ 12) : ∀ x ∈ c.map Lib.itoa, x.length ≤ 14 := by
  intro x hx
  obtain ⟨y, hy, rfl⟩ := List.mem_map.1 hx
  have h1 := itoa_len y
  have := hc y hy
  omega
theorem clauseL_ne (c : List Int) : clauseL c ≠ [] := by
  unfold clauseL
  split
  · simp
  · rename_i h
    exact join_ne [32] (itoas_ne c) (by simpa using h)
theorem clauseL_len {c : List Int} (hl : c.length ≤ 12) (hc : ∀ x ∈ c, -12 ≤ x ∧ x ≤ 12) : (clauseL c).length ≤ 200 := by
  unfold clauseL
  split
  · simp
  · have := join_len [32] (itoas_len hc)
    rw [List.length_map] at this
    simp only [List.length_cons, List.length_nil] at this
    omega
theorem join_take {ws : List (List UInt8)} (sep : List UInt8) (hw : ∀ x ∈ ws, x ≠ []) {i : Nat} {x : List UInt8} (hx : ws[i]? = some x) (hi : 0 < i) : Lib.join (ws.take (i + 1)) sep = Lib.join (ws.take i) sep ++ sep ++ x := by
  have hne : ws.take i ≠ [] := by
    intro e
    have h1 := congrArg List.length e
    have h2 := (List.getElem?_eq_some_iff.1 hx).1
    rw [List.length_take] at h1
    simp only [List.length_nil] at h1
    omega
  rw [take_succ_of (hide hx), join_snoc sep x (fun y hy => hw y (List.mem_of_mem_take hy))]
  unfold joinNext
  rw [if_neg (join_ne sep (fun y hy => hw y (List.mem_of_mem_take hy)) hne)]
theorem join_take1 {ws : List (List UInt8)} (sep : List UInt8) {x : List UInt8} (hx : ws[0]? = some x) : Lib.join (ws.take 1) sep = x := by
  have h1 := take_succ_of (hide hx)
  rw [Nat.zero_add] at h1
  rw [h1]; simp [Lib.join_one]
theorem take_len_le {ws : List (List UInt8)} (sep : List UInt8) {M : Nat} (h : ∀ x ∈ ws, x.length ≤ M) (i : Nat) : (Lib.join (ws.take i) sep).length ≤ ws.length * (M + sep.length) := by
  have h1 := join_len sep (ws := ws.take i) (fun x hx => h x (List.mem_of_mem_take hx))
  have h2 : (ws.take i).length ≤ ws.length := by rw [List.length_take]; omega
  exact Nat.le_trans h1 (Nat.mul_le_mul_right _ h2)
theorem app2 (l sep x : List UInt8) : ((⟨l.toArray⟩ : ByteArray) ++ ⟨sep.toArray⟩) ++ ⟨x.toArray⟩ = ⟨(l ++ sep ++ x).toArray⟩ := by rw [bytes_app, bytes_app]
set_option maxRecDepth 100000 in
set_option maxHeartbeats 3200000 in
theorem l2Text_c (A : Option Addr) (n d : Nat) (c : List Int) (w : World) (h : Ints w A n c) (hl : c.length ≤ 12) (hc : ∀ x ∈ c, -12 ≤ x ∧ x ≤ 12) :
    Calls Tryd.prog 29 #[.slice A n d] w fun e w' => e = .returned (.string ⟨(clauseL c).toArray⟩) ∧ Ext w w' := by
  have hln := h.len
  have HLN := hide hln
  have hn12 : n ≤ 12 := by omega
  by_cases hn0 : n = 0
  · have hc0 : c = [] := List.eq_nil_of_length_eq_zero (by omega)
    have hT : clauseL c = [110, 111, 110, 101] := by unfold clauseL; rw [if_pos hc0]
    rw [hT]
    subst hn0
    clear hT hc0 hln hl hc HLN h hn12
    go_enter Tryd.func29, Tryd.ntmps29
    go_wp2_with fail
    go_ret
    exact ⟨rfl, Ext.refl _⟩
  · have hT : clauseL c = Lib.join (c.map Lib.itoa) [32] := by unfold clauseL; rw [if_neg (fun e => hn0 (by rw [hln, e]; rfl))]
    obtain ⟨T, hTT⟩ : ∃ T, T = clauseL c := ⟨_, rfl⟩
    rw [← hTT]
    have HT : Hid (T = Lib.join ((c.map Lib.itoa).take n) [32]) := hide (by rw [hTT, hT, List.take_of_length_le (by rw [List.length_map]; omega)])
    have HNe := hide (itoas_ne c)
    have HLe := hide (fun i => take_len_le [32] (itoas_len hc) i)
    have HLm : Hid ((c.map Lib.itoa).length = n) := hide (by rw [List.length_map]; omega)
    have HC := hide hc
    have HNum := hide (fun (x : Int) (hx : -12 ≤ x ∧ x ≤ 12) W => l1Num_c x (by omega) W)
    have hn1 : ((n : Int) == 0) = false := by simpa using hn0
    obtain ⟨ad, x0, rfl, hx0, gx0⟩ := h.at_ (show 0 < n by omega)
    have HX0 := hide (fun W => HNum.out x0 (hc x0 (List.mem_of_getElem? hx0.out)) W)
    have HJ1 := hide (join_take1 (ws := c.map Lib.itoa) [32] (x := Lib.itoa x0) (by rw [List.getElem?_map, hx0.out]; rfl))
    have hadd : ad.add 0 = ad := by cases ad; unfold Addr.add; split <;> simp_all
    have gx00 : w.cell? ad = some (.int .i64 x0) := by rw [← hadd]; exact gx0
    clear hadd
    clear hln hl hc hT hTT hx0 
    go_enter Tryd.func29, Tryd.ntmps29
    go_wp2_with fail
    refine (HX0.out _).mono ?_
    rintro e w1 ⟨rfl, he1⟩
    have HE1 := hide he1
    clear gx0 gx00 HX0
    go_wp2_with fail
    refine wp_loopF 27 _ rfl rfl [0, 26] rfl (fun fr wr => Ext w wr ∧ ∃ i : Nat, 1 ≤ i ∧ i ≤ n ∧ (fr 4) = .int .i64 i ∧ (fr 3) = .string ⟨(Lib.join ((c.map Lib.itoa).take i) [32]).toArray⟩) (fun fr wr => n - (intOf (fr 4)).toNat) ?_ ?_
    · (exact ⟨HE1.out, 1, by omega, by omega, rfl, by rw [HJ1.out]; rfl⟩)
    intro ks fr wr hkept hrel; (try dsimp only at hrel)
    change Code.wp _ _ _ ⟨#[ks 0, fr 1, fr 2, fr 3, fr 4, fr 5, fr 6, fr 7, fr 8, fr 9, fr 10, fr 11, fr 12, fr 13, fr 14, fr 15, fr 16, fr 17, fr 18, fr 19, fr 20, fr 21, fr 22, fr 23, fr 24, fr 25, ks 26], []⟩ wr
    simp only [KeptV, List.getD_cons_zero, List.getD_cons_succ] at hkept; obtain ⟨hk0, hk26, -⟩ := hkept
    generalize ks 0 = k0 at hk0 ⊢; subst hk0
    generalize ks 26 = k26 at hk26 ⊢; subst hk26
    generalize fr 3 = s3 at hrel ⊢
    generalize fr 4 = s4 at hrel ⊢
    obtain ⟨he, i, hi1, hi, hs1, hs2⟩ := hrel
    subst hs1
    subst hs2
    have HE := hide he
    by_cases hlt : i < n
    · obtain ⟨ad', x, e, hx, gx⟩ := (h.ext he).at_ hlt
      injection e with e
      subst e
      have HX := hide (fun W => HNum.out x (HC.out x (List.mem_of_getElem? hx.out)) W)
      have HJ := hide (join_take [32] HNe.out (i := i) (x := Lib.itoa x) (by rw [List.getElem?_map, hx.out]; rfl) (by omega))
      have hl1 := HLe.out i
      rw [HLm.out] at hl1
      simp only [List.length_cons, List.length_nil] at hl1
      have hl2 : (Lib.itoa x).length ≤ 14 := by have h1 := itoa_len x; have := HC.out x (List.mem_of_getElem? hx.out); omega
      obtain ⟨s, hs⟩ : ∃ s, s = Lib.join ((c.map Lib.itoa).take i) [32] := ⟨_, rfl⟩
      rw [← hs] at HJ hl1 ⊢
      have hA : ¬ 9223372036854775807 < s.length + 1 := by omega
      have hB : ¬ 9223372036854775807 < s.length + 1 + (Lib.itoa x).length := by omega
      have HP := hide (app2 s [32] (Lib.itoa x))
      clear hs hx he hl1 hl2
      go_wp2_with fail
      refine (HX.out _).mono ?_
      rintro e w2 ⟨rfl, he2⟩
      have HE2 := HE.out.trans he2
      go_wp2_with fail
      exact ⟨⟨(by (repeat (first | exact trivial | refine ⟨rfl, ?_⟩))), HE2, i + 1, by omega, by omega, by go_num, by rw [HJ.out, ← HP.out]; rfl⟩, (by simp [intOf] <;> omega)⟩
    · obtain rfl : i = n := by omega
      clear he
      go_wp2_with fail
      go_ret
      exact ⟨by rw [HT.out]; rfl, HE.out⟩
theorem clauses_ne (l : List (List Int)) : ∀ x ∈ l.map clauseL, x ≠ [] := by
  intro x hx
  obtain ⟨y, _, rfl⟩ := List.mem_map.1 hx
  exact clauseL_ne y
theorem clauses_len {l : List (List Int)} (h : ∀ c ∈ l, c.length ≤ 12 ∧ ∀ x ∈ c, -12 ≤ x ∧ x ≤ 12) : ∀ x ∈ l.map clauseL, x.length ≤ 200 := by
  intro x hx
  obtain ⟨y, hy, rfl⟩ := List.mem_map.1 hx
  exact clauseL_len (h y hy).1 (h y hy).2
theorem lst_facts {v : Int} {cls l : List (List Int)} (h : lstOk v cls l = true) : l.length ≤ 60 ∧ ∀ c ∈ l, c.length ≤ 12 ∧ ∀ x ∈ c, -12 ≤ x ∧ x ≤ 12 := by
  obtain ⟨h1, h2⟩ := and2_true h
  obtain ⟨h3, h4⟩ := and2_true h2
  refine ⟨of_decide_eq_true h3, fun c hc => ?_⟩
  have h5 := List.all_eq_true.1 h4 c hc
  obtain ⟨hv, hr, hl⟩ := clause_facts h5
  exact ⟨by omega, fun x hx => by have := hr x hx; omega⟩
set_option maxRecDepth 100000 in
set_option maxHeartbeats 3200000 in
theorem l11Text_c (A : Option Addr) (n d : Nat) (l : List (List Int)) (w : World) (h : Intss w A n l) (hl : l.length ≤ 60) (hc : ∀ c ∈ l, c.length ≤ 12 ∧ ∀ x ∈ c, -12 ≤ x ∧ x ≤ 12) :
    Calls Tryd.prog 17 #[.slice A n d] w fun e w' => e = .returned (.string ⟨(learnedL l).toArray⟩) ∧ Ext w w' := by
  have hln := h.len
  have hn60 : n ≤ 60 := by omega
  obtain ⟨T, hTT⟩ : ∃ T, T = learnedL l := ⟨_, rfl⟩
  rw [← hTT]
  have HT : Hid (T = Lib.join ((l.map clauseL).take n) [59, 32]) := hide (by rw [hTT, List.take_of_length_le (by rw [List.length_map]; omega)]; rfl)
  have HNe := hide (clauses_ne l)
  have HLe := hide (fun i => take_len_le [59, 32] (clauses_len hc) i)
  have HLm : Hid ((l.map clauseL).length = n) := hide (by rw [List.length_map]; omega)
  have HC := hide hc
  have HNum := hide (fun (X : Option Addr) (y z : Nat) (c : List Int) (W : World) (hi : Ints W X y c) (h1 : c.length ≤ 12) (h2 : ∀ x ∈ c, -12 ≤ x ∧ x ≤ 12) => l2Text_c X y z c W hi h1 h2)
  clear hln hl hc hTT
  go_enter Tryd.func17, Tryd.ntmps17
  go_wp2_with fail
  refine wp_loopF 23 _ rfl rfl [0, 22] rfl (fun fr wr => Ext w wr ∧ ∃ i : Nat, i ≤ n ∧ (fr 4) = .int .i64 i ∧ (fr 3) = .string ⟨(Lib.join ((l.map clauseL).take i) [59, 32]).toArray⟩) (fun fr wr => n - (intOf (fr 4)).toNat) ?_ ?_
  · (exact ⟨Ext.refl _, 0, by omega, rfl, rfl⟩)
  intro ks fr wr hkept hrel; (try dsimp only at hrel)
  change Code.wp _ _ _ ⟨#[ks 0, fr 1, fr 2, fr 3, fr 4, fr 5, fr 6, fr 7, fr 8, fr 9, fr 10, fr 11, fr 12, fr 13, fr 14, fr 15, fr 16, fr 17, fr 18, fr 19, fr 20, fr 21, ks 22], []⟩ wr
  simp only [KeptV, List.getD_cons_zero, List.getD_cons_succ] at hkept; obtain ⟨hk0, hk22, -⟩ := hkept
  generalize ks 0 = k0 at hk0 ⊢; subst hk0
  generalize ks 22 = k22 at hk22 ⊢; subst hk22
  generalize fr 3 = s3 at hrel ⊢
  generalize fr 4 = s4 at hrel ⊢
  obtain ⟨he, i, hi, hs1, hs2⟩ := hrel
  subst hs1
  subst hs2
  have HE := hide he
  by_cases hlt : i < n
  · obtain ⟨ad, xs, X, y, z, rfl, hx, gx, hin⟩ := (h.ext he).at_ hlt
    obtain ⟨hq1, hq2⟩ := HC.out xs (List.mem_of_getElem? hx.out)
    have HX := hide (HNum.out X y z xs wr hin hq1 hq2)
    have hmx : (l.map clauseL)[i]? = some (clauseL xs) := by rw [List.getElem?_map, hx.out]; rfl
    have hl2 := clauseL_len hq1 hq2
    have hl1 := HLe.out i
    rw [HLm.out] at hl1
    simp only [List.length_cons, List.length_nil] at hl1
    by_cases hi0 : i = 0
    · subst hi0
      have HJ := hide (join_take1 [59, 32] hmx)
      have hadd : ad.add 0 = ad := by cases ad; unfold Addr.add; split <;> simp_all
      have gx00 : wr.cell? ad = some (.slice X y z) := by rw [← hadd]; exact gx
      rw [show Lib.join ((l.map clauseL).take 0) [59, 32] = [] from rfl]
      clear hadd gx
      have hA : ¬ 9223372036854775807 < (clauseL xs).length := by omega
      have HP := hide (bytes_app [] (clauseL xs))
      clear hmx hl1 hl2 hx he hq1 hq2 hin
      go_wp2_with fail
      refine HX.out.mono ?_
      rintro e w2 ⟨rfl, he2⟩
      have HE2 := HE.out.trans he2
      go_wp2_with fail
      exact ⟨⟨(by (repeat (first | exact trivial | refine ⟨rfl, ?_⟩))), HE2, 1, by omega, by go_num, by rw [HJ.out]; exact congrArg Value.string HP.out⟩, (by simp [intOf] <;> omega)⟩
    · have HJ := hide (join_take [59, 32] HNe.out hmx (by omega))
      obtain ⟨s, hs⟩ : ∃ s, s = Lib.join ((l.map clauseL).take i) [59, 32] := ⟨_, rfl⟩
      rw [← hs] at HJ hl1 ⊢
      have hi1 : (0 : Int) < (i : Int) := by omega
      have hA : ¬ 9223372036854775807 < s.length + 2 := by omega
      have hB : ¬ 9223372036854775807 < s.length + 2 + (clauseL xs).length := by omega
      have HP := hide (app2 s [59, 32] (clauseL xs))
      clear hs hmx hl1 hl2 hx he hq1 hq2 hin
      go_wp2_with fail
      refine HX.out.mono ?_
      rintro e w2 ⟨rfl, he2⟩
      have HE2 := HE.out.trans he2
      go_wp2_with fail
      exact ⟨⟨(by (repeat (first | exact trivial | refine ⟨rfl, ?_⟩))), HE2, i + 1, by omega, by go_num, by rw [HJ.out, ← HP.out]; rfl⟩, (by simp [intOf] <;> omega)⟩
  · obtain rfl : i = n := by omega
    clear he
    go_wp2_with fail
    go_ret
    exact ⟨by rw [HT.out]; rfl, HE.out⟩
end Go.Proofs.YtjlnlicojcfpiaaDoor
