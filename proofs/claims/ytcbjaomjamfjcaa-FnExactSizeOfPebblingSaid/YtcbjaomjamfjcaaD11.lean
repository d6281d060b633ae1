/-
  SizeOfPebbling: counts of bits; both texts return the same.
-/
import Derived.Test.YtcbjaomjamfjcaaD10
namespace Go.Proofs.Ytcbjaomjamfjcaa
set_option linter.unusedSimpArgs false
set_option linter.unusedVariables false
open Go.RowKit

def q1 (s : Nat) : Nat := (s / 2) &&& 341
def q2 (s : Nat) : Nat := s &&& 341
def q3 (s : Nat) : Nat := ((q1 s + q2 s) / 4) &&& 819
def q4 (s : Nat) : Nat := (q1 s + q2 s) &&& 819
def q5 (s : Nat) : Nat := ((q3 s + q4 s) / 16 + (q3 s + q4 s)) &&& 3855
theorem q1_eq (s : Nat) (h : s < 1024) : bits .and .u64 ((s : Int) / 2) 6148914691236517205 = (q1 s : Int) := by
  have : ∀ s : Nat, s < 1024 → bits .and .u64 ((s : Int) / 2) 6148914691236517205 = (q1 s : Int) := by decide +kernel
  exact this s h
theorem q2_eq (s : Nat) (h : s < 1024) : bits .and .u64 (s : Int) 6148914691236517205 = (q2 s : Int) := by
  have : ∀ s : Nat, s < 1024 → bits .and .u64 (s : Int) 6148914691236517205 = (q2 s : Int) := by decide +kernel
  exact this s h
theorem q3_eq (s : Nat) (h : s < 1024) : bits .and .u64 (((q1 s : Int) + (q2 s : Int)) / 4) 3689348814741910323 = (q3 s : Int) := by
  have : ∀ s : Nat, s < 1024 → bits .and .u64 (((q1 s : Int) + (q2 s : Int)) / 4) 3689348814741910323 = (q3 s : Int) := by decide +kernel
  exact this s h
theorem q4_eq (s : Nat) (h : s < 1024) : bits .and .u64 ((q1 s : Int) + (q2 s : Int)) 3689348814741910323 = (q4 s : Int) := by
  have : ∀ s : Nat, s < 1024 → bits .and .u64 ((q1 s : Int) + (q2 s : Int)) 3689348814741910323 = (q4 s : Int) := by decide +kernel
  exact this s h
theorem q5_eq (s : Nat) (h : s < 1024) : bits .and .u64 (((q3 s : Int) + (q4 s : Int)) / 16 + ((q3 s : Int) + (q4 s : Int))) 1085102592571150095 = (q5 s : Int) := by
  have : ∀ s : Nat, s < 1024 → bits .and .u64 (((q3 s : Int) + (q4 s : Int)) / 16 + ((q3 s : Int) + (q4 s : Int))) 1085102592571150095 = (q5 s : Int) := by decide +kernel
  exact this s h
theorem q6_eq (s : Nat) (h : s < 1024) : bits .and .i64 ((q5 s : Int) + (q5 s : Int) / 256) 127 = (cntB s : Int) := by
  have : ∀ s : Nat, s < 1024 → bits .and .i64 ((q5 s : Int) + (q5 s : Int) / 256) 127 = (cntB s : Int) := by decide +kernel
  exact this s h
theorem q_le (s : Nat) (h : s < 1024) : q1 s ≤ 341 ∧ q2 s ≤ 341 ∧ q3 s ≤ 819 ∧ q4 s ≤ 819 ∧ q5 s ≤ 3855 :=
  ⟨Nat.and_le_right, Nat.and_le_right, Nat.and_le_right, Nat.and_le_right, Nat.and_le_right⟩
set_option maxRecDepth 100000 in
set_option maxHeartbeats 1600000 in
theorem OnesCount64_c (s : Nat) (w : World) (hs : s < 1024) :
    Calls Try.prog 167 #[.int .u64 (s : Nat)] w fun e w' => e = .returned (.int .i64 (cntB s : Nat)) ∧ Ext w w' := by
  have e1 := q1_eq s hs
  have e2 := q2_eq s hs
  have e3 := q3_eq s hs
  have e4 := q4_eq s hs
  have e5 := q5_eq s hs
  have e6 := q6_eq s hs
  obtain ⟨b1, b2, b3, b4, b5⟩ := q_le s hs
  have w1 : IntKind.u64.wrap ((q1 s : Int) + (q2 s : Int)) = (q1 s : Int) + (q2 s : Int) := IntWalk.u64_in _ (by omega)
  have w2 : IntKind.u64.wrap ((q3 s : Int) + (q4 s : Int)) = (q3 s : Int) + (q4 s : Int) := IntWalk.u64_in _ (by omega)
  have w3 : IntKind.u64.wrap (((q3 s : Int) + (q4 s : Int)) / 16 + ((q3 s : Int) + (q4 s : Int))) = ((q3 s : Int) + (q4 s : Int)) / 16 + ((q3 s : Int) + (q4 s : Int)) := IntWalk.u64_in _ (by omega)
  have w4 : IntKind.u64.wrap ((q5 s : Int) + (q5 s : Int) / 256) = (q5 s : Int) + (q5 s : Int) / 256 := IntWalk.u64_in _ (by omega)
  have z1 : ((q5 s : Int) + (q5 s : Int) / 256) / 65536 = 0 := by omega
  have z2 : ((q5 s : Int) + (q5 s : Int) / 256) / 4294967296 = 0 := by omega
  have w5 : IntKind.i64.wrap ((q5 s : Int) + (q5 s : Int) / 256) = (q5 s : Int) + (q5 s : Int) / 256 := IntWalk.i64_in _ (by omega)
  generalize q1 s = p1 at *
  generalize q2 s = p2 at *
  generalize q3 s = p3 at *
  generalize q4 s = p4 at *
  generalize q5 s = p5 at *
  obtain ⟨ct, hct⟩ : ∃ ct, cntB s = ct := ⟨_, rfl⟩
  rw [hct] at e6 ⊢
  clear hct
  go_enter Try.func167, Try.ntmps167
  go_wp2_with fail
  go_ret
  exact ⟨rfl, by (repeat (first | with_reducible exact Ext.refl _ | with_reducible assumption | ((with_reducible refine Ext.setCell ?_ ?_ _); rotate_left; focus (first | omega | (simp <;> omega))) | with_reducible refine Ext.alloc ?_ _ | with_reducible refine Ext.drewN ?_ _ | with_reducible refine Ext.drew ?_ | with_reducible refine Ext.trans ?_ (by with_reducible assumption)))⟩
set_option maxHeartbeats 800000 in
theorem OnesCount_c (s : Nat) (w : World) (hs : s < 1024) :
    Calls Try.prog 152 #[.int .u64 (s : Nat)] w fun e w' => e = .returned (.int .i64 (cntB s : Nat)) ∧ Ext w w' := by
  have HC := hide (fun W => OnesCount64_c s W hs)
  generalize cntB s = ct at *
  go_enter Try.func152, Try.ntmps152
  go_wp2_with (go_at_call 167; refine (HC.out _).mono ?_; rintro e w1 ⟨rfl, he1⟩)
  go_ret
  exact ⟨rfl, by (repeat (first | with_reducible exact Ext.refl _ | with_reducible assumption | ((with_reducible refine Ext.setCell ?_ ?_ _); rotate_left; focus (first | omega | (simp <;> omega))) | with_reducible refine Ext.alloc ?_ _ | with_reducible refine Ext.drewN ?_ _ | with_reducible refine Ext.drew ?_ | with_reducible refine Ext.trans ?_ (by with_reducible assumption)))⟩
set_option maxHeartbeats 800000 in
theorem size_c (s : Nat) (w : World) (hs : s < 1024) :
    Calls Try.prog 118 #[.int .u64 (s : Nat)] w fun e w' => e = .returned (.int .i64 (cntB s : Nat)) ∧ Ext w w' := by
  have HC := hide (fun W => OnesCount_c s W hs)
  generalize cntB s = ct at *
  go_enter Try.func118, Try.ntmps118
  go_wp2_with (go_at_call 152; refine (HC.out _).mono ?_; rintro e w1 ⟨rfl, he1⟩)
  go_ret
  exact ⟨rfl, by (repeat (first | with_reducible exact Ext.refl _ | with_reducible assumption | ((with_reducible refine Ext.setCell ?_ ?_ _); rotate_left; focus (first | omega | (simp <;> omega))) | with_reducible refine Ext.alloc ?_ _ | with_reducible refine Ext.drewN ?_ _ | with_reducible refine Ext.drew ?_ | with_reducible refine Ext.trans ?_ (by with_reducible assumption)))⟩
/-- The size of a pebbling. -/
def szPeb (xss : List (List Int)) (ms : List Mv) : Int := (playInt (posTo xss false ms ms.length)).2
def szOk (xss : List (List Int)) (ms : List Mv) : Bool := dagOk xss && pebB xss false ms
set_option maxHeartbeats 1600000 in
theorem spec_SizeOfPebbling_c (A : Option Addr) (n d : Nat) (xss : List (List Int)) (B : Option Addr) (m c : Nat) (ms : List Mv) (w : World) (h : Intss w A n xss) (k : Moves w B m ms) :
    Calls Try.prog 64 #[.agg #[.slice A n d], .slice B m c] w fun e w' => e = .returned (.tuple #[.int .i64 (if szOk xss ms then szPeb xss ms else 0), .bool (szOk xss ms)]) ∧ Ext w w' := by
  cases hd : dagOk xss
  · have hq : szOk xss ms = false := by unfold szOk; rw [hd]; rfl
    rw [hq]
    have HD := hide hd
    clear hd hq
    simp only [Bool.false_eq_true, if_false]
    go_enter Try.func64, Try.ntmps64
    go_wp2_with (go_at_call 106; refine (l14Good_c _ _ _ xss _ (h.ext (by (repeat (first | with_reducible exact Ext.refl _ | with_reducible assumption | ((with_reducible refine Ext.setCell ?_ ?_ _); rotate_left; focus (first | omega | (simp <;> omega))) | with_reducible refine Ext.alloc ?_ _ | with_reducible refine Ext.drewN ?_ _ | with_reducible refine Ext.drew ?_ | with_reducible refine Ext.trans ?_ (by with_reducible assumption)))))).mono ?_; rw [HD.out]; rintro e w1 ⟨rfl, he⟩)
    go_ret2
    exact ⟨rfl, by (repeat (first | with_reducible exact Ext.refl _ | with_reducible assumption | ((with_reducible refine Ext.setCell ?_ ?_ _); rotate_left; focus (first | omega | (simp <;> omega))) | with_reducible refine Ext.alloc ?_ _ | with_reducible refine Ext.drewN ?_ _ | with_reducible refine Ext.drew ?_ | with_reducible refine Ext.trans ?_ (by with_reducible assumption)))⟩
  · have HD := hide hd
    have hq : szOk xss ms = pebB xss false ms := by unfold szOk; rw [hd]; rfl
    rw [hq]
    have HI := hide (fun W (hh : Intss W A n xss) (kk : Moves W B m ms) => l14Is_c xss hd false A n d B m c ms W hh kk)
    have HPl := hide (fun W (hh : Intss W A n xss) (kk : Moves W B m ms) => l14Play_c xss hd false A n d B m c ms W hh kk)
    have hz : szPeb xss ms = (playInt (posTo xss false ms m)).2 := by unfold szPeb; rw [← k.len]
    rw [hz]
    generalize playInt (posTo xss false ms m) = P at *
    obtain ⟨P1, P2⟩ := P
    dsimp only at HPl ⊢
    generalize pebB xss false ms = u at *
    clear hd hq hz
    cases u
    · simp only [Bool.false_eq_true, if_false]
      go_enter Try.func64, Try.ntmps64
      go_wp2_with (first | (go_at_call 106; refine (l14Good_c _ _ _ xss _ (h.ext (by (repeat (first | with_reducible exact Ext.refl _ | with_reducible assumption | ((with_reducible refine Ext.setCell ?_ ?_ _); rotate_left; focus (first | omega | (simp <;> omega))) | with_reducible refine Ext.alloc ?_ _ | with_reducible refine Ext.drewN ?_ _ | with_reducible refine Ext.drew ?_ | with_reducible refine Ext.trans ?_ (by with_reducible assumption)))))).mono ?_; rw [HD.out]; rintro e w1 ⟨rfl, he⟩; have c1 := he.cell (p := ⟨w.heap.size, 0, none⟩) (u := .slice A n d) (by simp [go_sem])) | (go_at_call 112; refine (HI.out _ (h.ext (by (repeat (first | with_reducible exact Ext.refl _ | with_reducible assumption | ((with_reducible refine Ext.setCell ?_ ?_ _); rotate_left; focus (first | omega | (simp <;> omega))) | with_reducible refine Ext.alloc ?_ _ | with_reducible refine Ext.drewN ?_ _ | with_reducible refine Ext.drew ?_ | with_reducible refine Ext.trans ?_ (by with_reducible assumption))))) (k.ext (by (repeat (first | with_reducible exact Ext.refl _ | with_reducible assumption | ((with_reducible refine Ext.setCell ?_ ?_ _); rotate_left; focus (first | omega | (simp <;> omega))) | with_reducible refine Ext.alloc ?_ _ | with_reducible refine Ext.drewN ?_ _ | with_reducible refine Ext.drew ?_ | with_reducible refine Ext.trans ?_ (by with_reducible assumption)))))).mono ?_; rintro e w2 ⟨rfl, he2⟩))
      go_ret2
      exact ⟨rfl, by (repeat (first | with_reducible exact Ext.refl _ | with_reducible assumption | ((with_reducible refine Ext.setCell ?_ ?_ _); rotate_left; focus (first | omega | (simp <;> omega))) | with_reducible refine Ext.alloc ?_ _ | with_reducible refine Ext.drewN ?_ _ | with_reducible refine Ext.drew ?_ | with_reducible refine Ext.trans ?_ (by with_reducible assumption)))⟩
    · simp only [if_true]
      go_enter Try.func64, Try.ntmps64
      go_wp2_with (first | (go_at_call 106; refine (l14Good_c _ _ _ xss _ (h.ext (by (repeat (first | with_reducible exact Ext.refl _ | with_reducible assumption | ((with_reducible refine Ext.setCell ?_ ?_ _); rotate_left; focus (first | omega | (simp <;> omega))) | with_reducible refine Ext.alloc ?_ _ | with_reducible refine Ext.drewN ?_ _ | with_reducible refine Ext.drew ?_ | with_reducible refine Ext.trans ?_ (by with_reducible assumption)))))).mono ?_; rw [HD.out]; rintro e w1 ⟨rfl, he⟩; have c1 := he.cell (p := ⟨w.heap.size, 0, none⟩) (u := .slice A n d) (by simp [go_sem])) | (go_at_call 112; refine (HI.out _ (h.ext (by (repeat (first | with_reducible exact Ext.refl _ | with_reducible assumption | ((with_reducible refine Ext.setCell ?_ ?_ _); rotate_left; focus (first | omega | (simp <;> omega))) | with_reducible refine Ext.alloc ?_ _ | with_reducible refine Ext.drewN ?_ _ | with_reducible refine Ext.drew ?_ | with_reducible refine Ext.trans ?_ (by with_reducible assumption))))) (k.ext (by (repeat (first | with_reducible exact Ext.refl _ | with_reducible assumption | ((with_reducible refine Ext.setCell ?_ ?_ _); rotate_left; focus (first | omega | (simp <;> omega))) | with_reducible refine Ext.alloc ?_ _ | with_reducible refine Ext.drewN ?_ _ | with_reducible refine Ext.drew ?_ | with_reducible refine Ext.trans ?_ (by with_reducible assumption)))))).mono ?_; rintro e w2 ⟨rfl, he2⟩; have c2 := he2.cell c1) | (go_at_call 116; refine (HPl.out _ (h.ext (by (repeat (first | with_reducible exact Ext.refl _ | with_reducible assumption | ((with_reducible refine Ext.setCell ?_ ?_ _); rotate_left; focus (first | omega | (simp <;> omega))) | with_reducible refine Ext.alloc ?_ _ | with_reducible refine Ext.drewN ?_ _ | with_reducible refine Ext.drew ?_ | with_reducible refine Ext.trans ?_ (by with_reducible assumption))))) (k.ext (by (repeat (first | with_reducible exact Ext.refl _ | with_reducible assumption | ((with_reducible refine Ext.setCell ?_ ?_ _); rotate_left; focus (first | omega | (simp <;> omega))) | with_reducible refine Ext.alloc ?_ _ | with_reducible refine Ext.drewN ?_ _ | with_reducible refine Ext.drew ?_ | with_reducible refine Ext.trans ?_ (by with_reducible assumption)))))).mono ?_; rintro e w3 ⟨rfl, he3⟩))
      go_ret2
      exact ⟨rfl, by (repeat (first | with_reducible exact Ext.refl _ | with_reducible assumption | ((with_reducible refine Ext.setCell ?_ ?_ _); rotate_left; focus (first | omega | (simp <;> omega))) | with_reducible refine Ext.alloc ?_ _ | with_reducible refine Ext.drewN ?_ _ | with_reducible refine Ext.drew ?_ | with_reducible refine Ext.trans ?_ (by with_reducible assumption)))⟩
def SizeIs (v : Value) (q : Nat) : Prop := v = .int .i64 (q : Int) ∧ q ≤ 10
theorem SizeIs.mk {x : Int} {q : Nat} (h : x = (q : Int)) (h2 : q ≤ 10) : SizeIs (.int .i64 x) q := by rw [h]; exact ⟨rfl, h2⟩
set_option maxRecDepth 100000 in
set_option maxHeartbeats 3200000 in
theorem impl_SizeOfPebbling_c (A : Option Addr) (n d : Nat) (xss : List (List Int)) (B : Option Addr) (m c : Nat) (ms : List Mv) (w : World) (h : Intss w A n xss) (k : Moves w B m ms) (hm20 : m ≤ 1048576) :
    Calls Try.prog 65 #[.agg #[.slice A n d], .slice B m c] w fun e w' => e = .returned (.tuple #[.int .i64 (if szOk xss ms then szPeb xss ms else 0), .bool (szOk xss ms)]) ∧ Ext w w' := by
  cases hd : dagOk xss
  · have hq : szOk xss ms = false := by unfold szOk; rw [hd]; rfl
    rw [hq]
    have HD := hide hd
    clear hd hq
    simp only [Bool.false_eq_true, if_false]
    go_enter Try.func65, Try.ntmps65
    go_wp2_with (go_at_call 108; refine (impl_IsDag_c _ _ _ xss _ (h.ext (by (repeat (first | with_reducible exact Ext.refl _ | with_reducible assumption | ((with_reducible refine Ext.setCell ?_ ?_ _); rotate_left; focus (first | omega | (simp <;> omega))) | with_reducible refine Ext.alloc ?_ _ | with_reducible refine Ext.drewN ?_ _ | with_reducible refine Ext.drew ?_ | with_reducible refine Ext.trans ?_ (by with_reducible assumption)))))).mono ?_; rw [HD.out]; rintro e w1 ⟨rfl, he⟩)
    go_ret2
    exact ⟨rfl, by (repeat (first | with_reducible exact Ext.refl _ | with_reducible assumption | ((with_reducible refine Ext.setCell ?_ ?_ _); rotate_left; focus (first | omega | (simp <;> omega))) | with_reducible refine Ext.alloc ?_ _ | with_reducible refine Ext.drewN ?_ _ | with_reducible refine Ext.drew ?_ | with_reducible refine Ext.trans ?_ (by with_reducible assumption)))⟩
  have HD := hide hd
  have hl10 := (dag_len1 hd).2
  have hq : szOk xss ms = pebB xss false ms := by unfold szOk; rw [hd]; rfl
  rw [hq]
  have HI := hide (fun W (hh : Intss W A n xss) (kk : Moves W B m ms) => isPebbling_c xss hd false A n d B m c ms W hh kk hm20)
  have HPo := hide (fun W (hh : Intss W A n xss) (kk : Moves W B m ms) => positions_c xss hd false A n d B m c ms W hh kk hm20)
  cases hu : pebB xss false ms
  · rw [hu] at HI
    simp only [Bool.false_eq_true, if_false]
    clear hd hq hu
    go_enter Try.func65, Try.ntmps65
    go_wp2_with (first | (go_at_call 108; refine (impl_IsDag_c _ _ _ xss _ (h.ext (by (repeat (first | with_reducible exact Ext.refl _ | with_reducible assumption | ((with_reducible refine Ext.setCell ?_ ?_ _); rotate_left; focus (first | omega | (simp <;> omega))) | with_reducible refine Ext.alloc ?_ _ | with_reducible refine Ext.drewN ?_ _ | with_reducible refine Ext.drew ?_ | with_reducible refine Ext.trans ?_ (by with_reducible assumption)))))).mono ?_; rw [HD.out]; rintro e w1 ⟨rfl, he⟩; have c1 := he.cell (p := ⟨w.heap.size, 0, none⟩) (u := .slice A n d) (by simp [go_sem])) | (go_at_call 114; refine (HI.out _ (h.ext (by (repeat (first | with_reducible exact Ext.refl _ | with_reducible assumption | ((with_reducible refine Ext.setCell ?_ ?_ _); rotate_left; focus (first | omega | (simp <;> omega))) | with_reducible refine Ext.alloc ?_ _ | with_reducible refine Ext.drewN ?_ _ | with_reducible refine Ext.drew ?_ | with_reducible refine Ext.trans ?_ (by with_reducible assumption))))) (k.ext (by (repeat (first | with_reducible exact Ext.refl _ | with_reducible assumption | ((with_reducible refine Ext.setCell ?_ ?_ _); rotate_left; focus (first | omega | (simp <;> omega))) | with_reducible refine Ext.alloc ?_ _ | with_reducible refine Ext.drewN ?_ _ | with_reducible refine Ext.drew ?_ | with_reducible refine Ext.trans ?_ (by with_reducible assumption)))))).mono ?_; rintro e w2 ⟨rfl, he2⟩))
    go_ret2
    exact ⟨rfl, by (repeat (first | with_reducible exact Ext.refl _ | with_reducible assumption | ((with_reducible refine Ext.setCell ?_ ?_ _); rotate_left; focus (first | omega | (simp <;> omega))) | with_reducible refine Ext.alloc ?_ _ | with_reducible refine Ext.drewN ?_ _ | with_reducible refine Ext.drew ?_ | with_reducible refine Ext.trans ?_ (by with_reducible assumption)))⟩
  rw [hu] at HI
  simp only [if_true]
  obtain ⟨ps, s, hr⟩ : ∃ ps s, posTo xss false ms m = some (ps, s) := by
    unfold pebB at hu
    rw [← k.len] at hu
    cases hr : posTo xss false ms m with
    | none => rw [hr] at hu; cases hu
    | some r => exact ⟨r.1, r.2, rfl⟩
  have hz : szPeb xss ms = ((mostB (ps ++ [s]) : Nat) : Int) := by unfold szPeb; rw [← k.len, hr]; rfl
  rw [hz]
  obtain ⟨hs1, hs2, hs3⟩ := posTo_small (rev := false) (ms := ms) hl10 m ps s hr
  have hall : Hid (∀ p ∈ ps ++ [s], p < 1024) := hide (by intro p hp; simp at hp; rcases hp with hp | rfl; exact hs2 p hp; exact hs1)
  have hlen : Hid ((ps ++ [s]).length = m + 1) := hide (by simp [hs3])
  rw [hr] at HPo
  have HO := hide (show ∀ ps' s', some (ps, s) = some (ps', s') → ps' ++ [s'] = ps ++ [s] by intro ps' s' hh; injection hh with hh; injection hh with h1 h2; subst h1; subst h2; rfl)
  generalize hqs : ps ++ [s] = qs at *
  have HQS := hide hqs
  clear hd hq hu hr hz hs1 hs2 hs3 hqs
  dsimp only at HPo
  go_enter Try.func65, Try.ntmps65
  go_wp2_with fail
  (refine (impl_IsDag_c _ _ _ xss _ (h.ext (by (repeat (first | with_reducible exact Ext.refl _ | with_reducible assumption | ((with_reducible refine Ext.setCell ?_ ?_ _); rotate_left; focus (first | omega | (simp <;> omega))) | with_reducible refine Ext.alloc ?_ _ | with_reducible refine Ext.drewN ?_ _ | with_reducible refine Ext.drew ?_ | with_reducible refine Ext.trans ?_ (by with_reducible assumption)))))).mono ?_; rw [HD.out]; rintro e w1 ⟨rfl, he⟩; have c1 := he.cell (p := ⟨w.heap.size, 0, none⟩) (u := .slice A n d) (by simp [go_sem]))
  go_wp2_with fail
  (refine (HI.out _ (h.ext (by (repeat (first | with_reducible exact Ext.refl _ | with_reducible assumption | ((with_reducible refine Ext.setCell ?_ ?_ _); rotate_left; focus (first | omega | (simp <;> omega))) | with_reducible refine Ext.alloc ?_ _ | with_reducible refine Ext.drewN ?_ _ | with_reducible refine Ext.drew ?_ | with_reducible refine Ext.trans ?_ (by with_reducible assumption))))) (k.ext (by (repeat (first | with_reducible exact Ext.refl _ | with_reducible assumption | ((with_reducible refine Ext.setCell ?_ ?_ _); rotate_left; focus (first | omega | (simp <;> omega))) | with_reducible refine Ext.alloc ?_ _ | with_reducible refine Ext.drewN ?_ _ | with_reducible refine Ext.drew ?_ | with_reducible refine Ext.trans ?_ (by with_reducible assumption)))))).mono ?_; rintro e w2 ⟨rfl, he2⟩; have c2 := he2.cell c1)
  go_wp2_with fail
  refine (HPo.out _ (h.ext (by (repeat (first | with_reducible exact Ext.refl _ | with_reducible assumption | ((with_reducible refine Ext.setCell ?_ ?_ _); rotate_left; focus (first | omega | (simp <;> omega))) | with_reducible refine Ext.alloc ?_ _ | with_reducible refine Ext.drewN ?_ _ | with_reducible refine Ext.drew ?_ | with_reducible refine Ext.trans ?_ (by with_reducible assumption))))) (k.ext (by (repeat (first | with_reducible exact Ext.refl _ | with_reducible assumption | ((with_reducible refine Ext.setCell ?_ ?_ _); rotate_left; focus (first | omega | (simp <;> omega))) | with_reducible refine Ext.alloc ?_ _ | with_reducible refine Ext.drewN ?_ _ | with_reducible refine Ext.drew ?_ | with_reducible refine Ext.trans ?_ (by with_reducible assumption)))))).mono ?_
  rintro e w3 ⟨X, N, y, rfl, hO, he3⟩
  obtain ⟨hN, ho⟩ := hO ps s rfl
  subst hN
  rw [HQS.out] at ho
  have e3 : Ext w w3 := by (repeat (first | with_reducible exact Ext.refl _ | with_reducible assumption | ((with_reducible refine Ext.setCell ?_ ?_ _); rotate_left; focus (first | omega | (simp <;> omega))) | with_reducible refine Ext.alloc ?_ _ | with_reducible refine Ext.drewN ?_ _ | with_reducible refine Ext.drew ?_ | with_reducible refine Ext.trans ?_ (by with_reducible assumption)))
  clear he he2 he3 hO c1 c2
  go_wp2_with fail
  refine wp_loopF 38 _ rfl rfl [26, 27, 37] rfl (fun fr wr => Ext w wr ∧ Own wr w2.heap.size 113 1 X (m + 1) y (qs.map nv) ∧ ∃ i : Nat, i ≤ m + 1 ∧ (fr 28) = .int .i64 i ∧ SizeIs (fr 8) (mostB (qs.take i))) (fun fr wr => m + 1 - (intOf (fr 28)).toNat) ?_ ?_
  · (exact ⟨e3, ho, 0, by omega, rfl, SizeIs.mk rfl (by simp [mostB])⟩)
  intro ks fr wr hkept hrel; (try dsimp only at hrel)
  change Code.wp _ _ _ ⟨#[fr 0, fr 1, fr 2, fr 3, fr 4, fr 5, fr 6, fr 7, fr 8, fr 9, fr 10, fr 11, fr 12, fr 13, fr 14, fr 15, fr 16, fr 17, fr 18, fr 19, fr 20, fr 21, fr 22, fr 23, fr 24, fr 25, ks 26, ks 27, fr 28, fr 29, fr 30, fr 31, fr 32, fr 33, fr 34, fr 35, fr 36, ks 37], []⟩ wr
  simp only [KeptV, List.getD_cons_zero, List.getD_cons_succ] at hkept; obtain ⟨hk26, hk27, hk37, -⟩ := hkept
  generalize ks 26 = k26 at hk26 ⊢; subst hk26
  generalize ks 27 = k27 at hk27 ⊢; subst hk27
  generalize ks 37 = k37 at hk37 ⊢; subst hk37
  generalize fr 8 = s8 at hrel ⊢
  generalize fr 28 = s28 at hrel ⊢
  clear e3 ho
  obtain ⟨he, ho, i, hi, hs1, hs2, hq⟩ := hrel
  obtain ⟨q, hQ⟩ : ∃ q, Hid (q = mostB (qs.take i)) := ⟨_, rfl⟩
  rw [← hQ.out] at hs2 hq
  subst hs1; subst hs2
  by_cases hlt : i < m + 1
  · obtain ⟨g, rfl, -, -⟩ := ho.form (by omega)
    obtain ⟨p, hp⟩ : ∃ p, qs[i]? = some p := ⟨_, List.getElem?_eq_getElem (by rw [hlen.out]; exact hlt)⟩
    have hp2 := hall.out p (List.mem_of_getElem? hp)
    have hc := ho.cell (j := i) (u := nv p) (by rw [List.getElem?_map, hp]; rfl)
    have HS := hide (fun W => size_c p W hp2)
    have hcl := cntTo_le p 10
    rw [← cntB_eq] at hcl
    have hQ2 : Hid (max q (cntB p) = mostB (qs.take (i + 1))) := hide (by rw [take_succ_of (hide hp), mostB_snoc, ← hQ.out])
    generalize cntB p = ct at *
    have hmi : (i : Int) < (m : Int) + 1 := by omega
    clear hp hQ
    rcases Nat.lt_trichotomy q ct with hle | hle | hle
    · have hle2 : (q : Int) < (ct : Int) := by omega
      go_wp2_with fail
      (with_reducible refine (HS.out _).mono ?_)
      rintro e w4 ⟨rfl, he4⟩
      have HE := hide (he.trans he4)
      have HO2 := hide (ho.ext he4)
      clear he ho he4 hc HS
      go_wp2_with fail
      exact ⟨⟨(by (repeat (first | exact trivial | refine ⟨rfl, ?_⟩))), HE.out, HO2.out, i + 1, by omega, by go_num, SizeIs.mk (by rw [← hQ2.out]; first | rfl | omega) (by rw [← hQ2.out]; omega)⟩, (by simp [intOf] <;> omega)⟩
    · subst hle
      go_wp2_with fail
      (with_reducible refine (HS.out _).mono ?_)
      rintro e w4 ⟨rfl, he4⟩
      have HE := hide (he.trans he4)
      have HO2 := hide (ho.ext he4)
      clear he ho he4 hc HS
      go_wp2_with fail
      exact ⟨⟨(by (repeat (first | exact trivial | refine ⟨rfl, ?_⟩))), HE.out, HO2.out, i + 1, by omega, by go_num, SizeIs.mk (by rw [← hQ2.out]; first | rfl | omega) (by rw [← hQ2.out]; omega)⟩, (by simp [intOf] <;> omega)⟩
    · have hle2 : (ct : Int) < (q : Int) := by omega
      go_wp2_with fail
      (with_reducible refine (HS.out _).mono ?_)
      rintro e w4 ⟨rfl, he4⟩
      have HE := hide (he.trans he4)
      have HO2 := hide (ho.ext he4)
      clear he ho he4 hc HS
      go_wp2_with fail
      exact ⟨⟨(by (repeat (first | exact trivial | refine ⟨rfl, ?_⟩))), HE.out, HO2.out, i + 1, by omega, by go_num, SizeIs.mk (by rw [← hQ2.out]; first | rfl | omega) (by rw [← hQ2.out]; omega)⟩, (by simp [intOf] <;> omega)⟩
  · obtain rfl : i = m + 1 := by omega
    have hF : Hid (q = mostB qs) := hide (by rw [hQ.out, List.take_of_length_le (by rw [hlen.out]; exact Nat.le_refl _)])
    go_wp2_with fail
    go_ret2
    exact ⟨by rw [hF.out]; rfl, he⟩
end Go.Proofs.Ytcbjaomjamfjcaa
