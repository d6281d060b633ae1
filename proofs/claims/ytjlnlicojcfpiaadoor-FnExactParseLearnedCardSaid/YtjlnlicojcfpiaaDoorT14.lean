/-
  The program reads a numeral, where the library's variables lie in memory; no condition.
-/
import Derived.Test.YtjlnlicojcfpiaaDoorT12
import Derived.Test.YtjlnlicojcfpiaaDoorShP
import Derived.Lib.AtoiTie
import Derived.Lib.AtoiErrMem
namespace Go.Proofs.YtjlnlicojcfpiaaDoor
set_option linter.unusedSimpArgs false
set_option linter.unusedVariables false
open Go.RowKit
open Go.Sort (grow)
theorem decFrom_snoc {l : List UInt8} {acc n d : Nat} {b : UInt8} (h : Lib.decFrom acc l = some n) (hd : Lib.digitVal b = some d) : Lib.decFrom acc (l ++ [b]) = some (n * 10 + d) := by
  have h1 := Lib.decFrom_take (l ++ [b]) l.length acc n b d (by rw [List.take_left]; exact h) (by simp) hd
  rw [List.take_of_length_le (by simp)] at h1
  exact h1
theorem digitVal_ofNat {d : Nat} (h : d < 10) : Lib.digitVal (UInt8.ofNat (48 + d)) = some d := by
  unfold Lib.digitVal
  rw [UInt8.toNat_ofNat', if_pos (by omega)]
  congr 1; omega
theorem decFrom_digits (u : Nat) : Lib.decFrom 0 (Lib.decDigits u) = some u := by
  induction u using Nat.strongRecOn with
  | ind u ih =>
    by_cases h : u < 10
    · rw [Lib.decDigits, dif_pos h]
      have := decFrom_snoc (l := []) (acc := 0) (n := 0) rfl (digitVal_ofNat h)
      simpa using this
    · rw [Lib.decDigits, dif_neg h, decFrom_snoc (ih (u / 10) (by omega)) (digitVal_ofNat (Nat.mod_lt _ (by omega)))]
      congr 1; omega
theorem decNat_digits (u : Nat) : Lib.decNat (Lib.decDigits u) = some u := by
  have h1 := digits_ne u
  unfold Lib.decNat
  rw [if_neg, decFrom_digits]
  intro e
  rw [List.isEmpty_iff] at e
  rw [e] at h1; simp at h1
theorem atoi_itoa (m : Int) : Lib.atoi (Lib.itoa m) = some m := by
  unfold Lib.itoa
  by_cases hm : m < 0
  · rw [if_pos hm]
    simp only [Lib.atoi]
    rw [if_pos (by decide), decNat_digits]
    simp only [Option.map_some]
    congr 1; omega
  · rw [if_neg hm]
    have h1 := decNat_digits m.toNat
    have h2 := digits_all m.toNat
    cases hl : Lib.decDigits m.toNat with
    | nil => rw [hl] at h1; cases h1
    | cons b r =>
      rw [hl] at h1 h2
      have hb := h2 b (by simp)
      simp only [Lib.atoi]
      rw [if_neg (by intro e; have := beq_iff_eq.1 e; subst this; simp at hb), if_neg (by intro e; have := beq_iff_eq.1 e; subst this; simp at hb), h1]
      simp only [Option.map_some]
      congr 1; omega
theorem atoiAll_itoa {m : Int} (h : -999999 ≤ m ∧ m ≤ 999999) : Lib.atoiAll (Lib.itoa m) = .ok m := by
  have hl : (Lib.itoa m).length ≤ 18 := by
    have h1 := digits_len 5 m.natAbs (by omega)
    have h2 := digits_len 5 m.toNat (by omega)
    unfold Lib.itoa
    split
    · simp only [List.length_cons]; omega
    · omega
  rw [Lib.atoiAll_short _ hl, atoi_itoa]; rfl
theorem var_ext {w w' : World} {name : String} {g : Nat} {cs : Array Value} (hg : Tryd.prog.globalNamed name = some g) (h : w.var? Tryd.prog name = some cs) (he : Ext w w') : w'.var? Tryd.prog name = some cs := by
  refine var?_below he hg ?_ h
  by_cases hlt : g < w.heap.size
  · exact hlt
  · exfalso
    unfold World.var? at h
    rw [hg] at h
    simp only [Option.bind_some] at h
    rw [Array.getElem?_eq_none (by omega)] at h
    cases h
theorem gPow : Tryd.prog.globalNamed "internal/strconv.uint64pow10" = some 5 := by kernel_rfl
theorem gSyn : Tryd.prog.globalNamed "strconv.ErrSyntax" = some 3 := by kernel_rfl
theorem gRng : Tryd.prog.globalNamed "strconv.ErrRange" = some 4 := by kernel_rfl
/-- What the library's functions ask of memory. -/
structure Env (w : World) : Prop where
  tab : Lib.TabIs Tryd.prog w "internal/strconv.uint64pow10" .u64 Lib.pow10Tab
  len0 : ∃ m, w.cell? ⟨0, 0, none⟩ = some (.int .i64 m)
  syn : ∃ tp p, w.var? Tryd.prog "strconv.ErrSyntax" = some #[.iface tp p]
  rng : ∃ tp p, w.var? Tryd.prog "strconv.ErrRange" = some #[.iface tp p]
theorem Env.ext {w w' : World} (h : Env w) (he : Ext w w') : Env w' := by
  obtain ⟨h1, ⟨m, h2⟩, ⟨a, b, h3⟩, ⟨c, d, h4⟩⟩ := h
  exact ⟨var_ext gPow h1 he, ⟨m, he.cell h2⟩, ⟨a, b, var_ext gSyn h3 he⟩, ⟨c, d, var_ext gRng h4 he⟩⟩
theorem grow_ext (w : World) (k : Nat) (os : Array Obj) : Ext w (grow (w.drewN k) os) := by
  refine ⟨rfl, rfl, rfl, ?_, fun j hj => ?_⟩
  · unfold grow; simp
  · unfold grow
    show (w.heap ++ os)[j]? = _
    rw [Array.getElem?_append_left hj]
theorem Itoa_c (n : Int) (h : -1000000 ≤ n ∧ n ≤ 1000000) (w : World) (ht : Env w) :
    Calls Tryd.prog 59 #[.int .i64 n] w fun e w' => e = .returned (.string ⟨(Lib.itoa n).toArray⟩) ∧ Ext w w' := by
  refine (Tryd.strconv_Itoa n (by omega) (by omega) w ht.tab).mono ?_
  rintro e w' ⟨rfl, k, os, rfl⟩
  exact ⟨rfl, grow_ext w k os⟩
theorem Atoi_ok {s : List UInt8} {v : Int} (h : Lib.atoiAll s = .ok v) (hs : s.length ≤ 1048576) (w : World) :
    Calls Tryd.prog 50 #[.string ⟨s.toArray⟩] w fun e w' => e = .returned (.tuple #[.int .i64 v, .nilIface]) ∧ Ext w w' := by
  refine (Tryd.strconv_Atoi_ok ⟨s.toArray⟩ (by show s.length ≤ _; omega) v h w).mono ?_
  rintro e w' ⟨rfl, rfl | ⟨t, rfl⟩⟩
  · exact ⟨rfl, Ext.refl _⟩
  · exact ⟨rfl, Lib.bytesWorld_below _ _ _⟩
theorem Atoi_no {s : List UInt8} (h : ∀ v, Lib.atoiAll s ≠ .ok v) (hs : s.length ≤ 1048576) (w : World) (ht : Env w) :
    Calls Tryd.prog 50 #[.string ⟨s.toArray⟩] w fun e w' => ∃ x N, e = .returned (.tuple #[.int .i64 x, .iface 83 (.pointer (some ⟨N, 0, none⟩))]) ∧ Ext w w' := by
  obtain ⟨-, -, ⟨a, b, h3⟩, ⟨c, d, h4⟩⟩ := ht
  rcases hl : Lib.atoiAll s with v | _ | _
  · exact absurd hl (h v)
  · refine (Tryd.strconv_Atoi_syntax_var ⟨s.toArray⟩ (by show s.length ≤ _; omega) hl a b w h3).mono ?_
    rintro e w' ⟨N, rfl, -, -, hb⟩
    exact ⟨_, N, rfl, hb⟩
  · refine (Tryd.strconv_Atoi_range_var ⟨s.toArray⟩ (by show s.length ≤ _; omega) hl c d w h4).mono ?_
    rintro e w' ⟨N, rfl, -, -, hb⟩
    exact ⟨_, N, rfl, hb⟩
set_option maxRecDepth 100000 in
set_option maxHeartbeats 3200000 in
theorem FormatInt_yes (n : Int) (h : -999999 ≤ n ∧ n ≤ 999999) (w : World) (ht : Env w) :
    Calls Tryd.prog 51 #[.int .i64 n] w fun e w' => e = .returned (.tuple #[.string ⟨(Lib.itoa n).toArray⟩, .bool true]) ∧ Ext w w' := by
  have HI := hide (fun W => within_c n (-999999) 999999 W)
  rw [show within n (-999999) 999999 = true by unfold within; simp; omega] at HI
  have HT := hide (fun W (E : Ext w W) => Itoa_c n (by omega) W (ht.ext E))
  clear h
  go_enter Tryd.func51, Tryd.ntmps51
  go_wp2_with fail
  refine (HI.out _).mono ?_
  rintro e w1 ⟨rfl, rfl⟩
  go_wp2_with fail
  refine (HT.out _ (Ext.refl _)).mono ?_
  rintro e w2 ⟨rfl, he2⟩
  go_wp2_with fail
  go_ret2
  exact ⟨rfl, he2⟩
set_option maxRecDepth 100000 in
set_option maxHeartbeats 3200000 in
theorem FormatInt_no (n : Int) (h : ¬ (-999999 ≤ n ∧ n ≤ 999999)) (w : World) :
    Calls Tryd.prog 51 #[.int .i64 n] w fun e w' => e = .returned (.tuple #[.string ⟨#[]⟩, .bool false]) ∧ Ext w w' := by
  have HI := hide (fun W => within_c n (-999999) 999999 W)
  rw [show within n (-999999) 999999 = false by unfold within; simp; omega] at HI
  clear h
  go_enter Tryd.func51, Tryd.ntmps51
  go_wp2_with fail
  refine (HI.out _).mono ?_
  rintro e w1 ⟨rfl, rfl⟩
  go_wp2_with fail
  go_ret2
  exact ⟨rfl, Ext.refl _⟩
theorem FormatInt_c (n : Int) (w : World) (ht : Env w) :
    Calls Tryd.prog 51 #[.int .i64 n] w fun e w' => ∃ t b, e = .returned (.tuple #[.string t, .bool b]) ∧ Ext w w' := by
  by_cases h : -999999 ≤ n ∧ n ≤ 999999
  · refine (FormatInt_yes n h w ht).mono ?_
    rintro e w' ⟨rfl, he⟩
    exact ⟨_, _, rfl, he⟩
  · refine (FormatInt_no n h w).mono ?_
    rintro e w' ⟨rfl, he⟩
    exact ⟨_, _, rfl, he⟩
set_option maxRecDepth 100000 in
set_option maxHeartbeats 3200000 in
theorem ParseInt_c (s : List UInt8) (w : World) (hs : s.length ≤ 1048576) (ht : Env w) :
    Calls Tryd.prog 45 #[.string ⟨s.toArray⟩] w fun e w' => e = .returned (.tuple #[.int .i64 ((numOf s).getD 0), .bool (numOf s).isSome]) ∧ Ext w w' := by
  obtain ⟨N, hN⟩ : ∃ N, N = numOf s := ⟨_, rfl⟩
  rw [← hN]
  by_cases hok : ∃ v, Lib.atoiAll s = .ok v
  · obtain ⟨v, hv⟩ := hok
    have HA := hide (fun W => Atoi_ok hv hs W)
    by_cases hb : -999999 ≤ v ∧ v ≤ 999999
    · have HF := hide (fun W (E : Ext w W) => FormatInt_yes v hb W (ht.ext E))
      by_cases htx : Lib.itoa v = s
      · have HN0 : Hid (N = some v) := hide (by rw [hN, ← htx]; exact numOf_itoa hb)
        rw [htx] at HF
        clear hN hv hb htx
        go_enter Tryd.func45, Tryd.ntmps45
        go_wp2_with fail
        refine (HA.out _).mono ?_
        rintro e w1 ⟨rfl, he1⟩
        go_wp2_with fail
        refine (HF.out _ he1).mono ?_
        rintro e w2 ⟨rfl, he2⟩
        go_wp2_with fail
        go_ret2
        exact ⟨by rw [HN0.out]; rfl, he1.trans he2⟩
      · have HN0 : Hid (N = none) := hide (by
          rw [hN]
          refine numOf_none fun m hm e => htx ?_
          have h1 := atoiAll_itoa hm
          rw [e, hv] at h1
          injection h1 with h1
          rw [h1, e])
        have hta : (!(Lib.itoa v == s)) = true := by simpa using htx
        clear hN hv hb htx
        go_enter Tryd.func45, Tryd.ntmps45
        go_wp2_with fail
        refine (HA.out _).mono ?_
        rintro e w1 ⟨rfl, he1⟩
        go_wp2_with fail
        refine (HF.out _ he1).mono ?_
        rintro e w2 ⟨rfl, he2⟩
        go_wp2_with fail
        go_ret2
        exact ⟨by rw [HN0.out]; rfl, he1.trans he2⟩
    · have HF := hide (fun W => FormatInt_no v hb W)
      have HN0 : Hid (N = none) := hide (by
        rw [hN]
        refine numOf_none fun m hm e => hb ?_
        have h1 := atoiAll_itoa hm
        rw [e, hv] at h1
        injection h1 with h1
        rw [h1]; exact hm)
      clear hN hv hb
      go_enter Tryd.func45, Tryd.ntmps45
      go_wp2_with fail
      refine (HA.out _).mono ?_
      rintro e w1 ⟨rfl, he1⟩
      go_wp2_with fail
      refine (HF.out _).mono ?_
      rintro e w2 ⟨rfl, he2⟩
      go_wp2_with fail
      go_ret2
      exact ⟨by rw [HN0.out]; rfl, he1.trans he2⟩
  · have hno : ∀ v, Lib.atoiAll s ≠ .ok v := fun v e => hok ⟨v, e⟩
    have HA := hide (fun W (E : Ext w W) => Atoi_no hno hs W (ht.ext E))
    have HF := hide (fun (x : Int) W (E : Ext w W) => FormatInt_c x W (ht.ext E))
    have HN0 : Hid (N = none) := hide (by
      rw [hN]
      refine numOf_none fun m hm e => hno m ?_
      rw [← e]; exact atoiAll_itoa hm)
    clear hN hok hno
    go_enter Tryd.func45, Tryd.ntmps45
    go_wp2_with fail
    refine (HA.out _ (Ext.refl _)).mono ?_
    rintro e w1 ⟨x, K, rfl, he1⟩
    go_wp2_with fail
    refine (HF.out x _ he1).mono ?_
    rintro e w2 ⟨t, b, rfl, he2⟩
    go_wp2_with fail
    go_ret2
    exact ⟨by rw [HN0.out]; rfl, he1.trans he2⟩
end Go.Proofs.YtjlnlicojcfpiaaDoor
