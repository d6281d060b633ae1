/-
  PROVED: for every input the law FnExactRoundTaken returns true and leaves its arguments as they read; no condition.
-/
import Derived.Test.YtaigjmbhgpcalaaRows
import Derived.Test.YtaigjmbhgpcalaaC1
import Derived.Test.YtaigjmbhgpcalaaWRoundTaken

namespace Go.Proofs.Ytaigjmbhgpcalaa.fnExactRoundTaken
set_option linter.unusedSimpArgs false
set_option linter.unusedVariables false
open Go.ChangeShapes Go.WideShapes Go.ChangeAt Go.RowKit
set_option linter.unusedVariables false

theorem own : ownKnob Try.prog.godebug = none := by kernel_rfl
theorem laid : laidOutB Try.prog = true := by kernel_rfl

set_option maxRecDepth 100000 in
theorem lifted (os : Os) (started : os.Started) (H : Type) (enc : TypeId × Value → H) :
    ReturnsInHanded {} Try.checked os 4 .any (Rows.fnExactRoundTakenSpec.pre6 enc Try.prog Try.f4 Rows.fnExactRoundTakenRow.domain false) (Rows.fnExactRoundTakenSpec.post enc Try.prog Try.f4 false true false false) := by
  refine returnsInHanded_of_change (C := Try.checked) own started (by kernel_rfl) Try.func4
    (ChangeSpec.witness6 (enc := enc) (C := Try.checked) false ⟨#[], #[.agg #[.int .i64 0, .slice none 0 0], .int .i64 0, .slice none 0 0], []⟩ 8 (by kernel_rfl) (by kernel_rfl) (by kernel_rfl) (by kernel_rfl)) ?_
  intro W base args ds gs before hval0 hW hcnd _
  have hval : ∀ (j : Nat) t v, Try.f4.params[j]? = some t → args[j]? = some v → Value.okWide Try.prog W .any base t v := hval0
  have hW' := hW
  obtain ⟨p, q, hA0, hV, rfl, hfz, hnd⟩ := hW
  have hA : DataW.TrodAll enc Try.prog W 0 (fun _ => true) true Try.f4.params.toList args.toList ds p := hA0
  rw [Try.params4] at hA hval
  obtain ⟨v0, vs0, d0, ds0, p0, q0, hargs, rfl, rfl, h0, r0⟩ := trodAll_cons hA
  obtain ⟨v1, vs1, d1, ds1, p1, q1, rfl, rfl, rfl, h1, r1⟩ := trodAll_cons r0
  obtain ⟨v2, vs2, d2, ds2, p2, q2, rfl, rfl, rfl, h2, r2⟩ := trodAll_cons r1
  obtain ⟨rfl, rfl, rfl⟩ := trodAll_nil r2
  obtain rfl : args = #[v0, v1, v2] := by cases args; simp_all
  obtain ⟨rfl, rfl⟩ := trodVars_none hV
  obtain ⟨A0, n0, c0, xss0, b0, rfl, k0⟩ := intRows_open Try.underlying24 (by kernel_rfl) (by kernel_rfl) rfl rfl Try.underlying22 Try.underlying35 Try.underlying3 (by kernel_rfl) (by kernel_rfl) Try.underlying3 (hval 0 24 v0 rfl rfl) h0
  obtain ⟨a1, rfl, rfl, rfl, w1⟩ := open_int Try.underlying3 (hval 1 3 v1 rfl rfl) h1
  obtain ⟨A2, n2, c2, xs2, rfl, k2⟩ := ints_open Try.underlying35 Try.underlying3 (by kernel_rfl) (hval 2 35 v2 rfl rfl) h2
  clear hA0 hval0
  refine (RoundTaken_law A0 n0 c0 b0 xss0 a1 A2 n2 c2 xs2 W k0 k2).mono fun e W' ⟨he, hg⟩ => ?_
  subst he
  exact ⟨_, rfl, post_law laid (by kernel_rfl) rfl Try.underlying4 rfl rfl hW' hg⟩

theorem inPlace_eq : (Rows.fnExactRoundTakenRow.inPlace == Try.checked.prog.inPlace 4) = true := by kernel_rfl
theorem unfollowed_eq : (Rows.fnExactRoundTakenRow.unfollowed == Try.checked.prog.unfollowed 4) = true := by kernel_rfl
theorem recurses_eq : (Rows.fnExactRoundTakenRow.recurses == Try.checked.prog.recurses 4) = true := by kernel_rfl
theorem named_eq : (Rows.fnExactRoundTakenRow.named == Try.checked.prog.varsNamed 4) = true := by kernel_rfl
theorem closed : joinedFacts Try.checked.prog 4 Try.f4 Rows.fnExactRoundTakenSpec Rows.fnExactRoundTakenRow = true := by
  unfold joinedFacts
  rw [inPlace_eq, unfollowed_eq, recurses_eq, named_eq]
  kernel_rfl
/-- THE STATEMENT. -/
theorem proved : Rows.FnExactRoundTakenSaid :=
  OpenClaim.holds_of_wide 4 Try.f4 rfl rfl rfl rfl rfl rfl rfl ⟨rfl, rfl, rfl, rfl, rfl⟩ rfl rfl rfl rfl rfl (by kernel_rfl) Try.func4 closed
    (of_decide_eq_true (by kernel_rfl)) (by unfold Func.isWrapper; first | (rw [if_pos (by decide +kernel)]; kernel_rfl) | (rw [if_neg (by decide +kernel)]; exact ⟨rfl, rfl⟩))
    (fun os started H enc _ => lifted os started H enc)
end Go.Proofs.Ytaigjmbhgpcalaa.fnExactRoundTaken
