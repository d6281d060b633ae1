/-
  PROVED: for every input the law FnExactShrinkingRounds returns true and leaves its arguments as they read; no condition.
-/
import Derived.Test.YtaigjmbhgpcalaaRows
import Derived.Test.YtaigjmbhgpcalaaC1
import Derived.Test.YtaigjmbhgpcalaaWShrinkingRounds

namespace Go.Proofs.Ytaigjmbhgpcalaa.fnExactShrinkingRounds
set_option linter.unusedSimpArgs false
set_option linter.unusedVariables false
open Go.ChangeShapes Go.WideShapes Go.ChangeAt Go.RowKit
set_option linter.unusedVariables false

theorem own : ownKnob Try.prog.godebug = none := by kernel_rfl
theorem laid : laidOutB Try.prog = true := by kernel_rfl

set_option maxRecDepth 100000 in
theorem lifted (os : Os) (started : os.Started) (H : Type) (enc : TypeId × Value → H) :
    ReturnsInHanded {} Try.checked os 5 .any (Rows.fnExactShrinkingRoundsSpec.pre6 enc Try.prog Try.f5 Rows.fnExactShrinkingRoundsRow.domain false) (Rows.fnExactShrinkingRoundsSpec.post enc Try.prog Try.f5 false true false false) := by
  refine returnsInHanded_of_change (C := Try.checked) own started (by kernel_rfl) Try.func5
    (ChangeSpec.witness6 (enc := enc) (C := Try.checked) false ⟨#[], #[.agg #[.int .i64 0, .slice none 0 0], .int .i64 0], []⟩ 8 (by kernel_rfl) (by kernel_rfl) (by kernel_rfl) (by kernel_rfl)) ?_
  intro W base args ds gs before hval0 hW hcnd _
  have hval : ∀ (j : Nat) t v, Try.f5.params[j]? = some t → args[j]? = some v → Value.okWide Try.prog W .any base t v := hval0
  have hW' := hW
  obtain ⟨p, q, hA0, hV, rfl, hfz, hnd⟩ := hW
  have hA : DataW.TrodAll enc Try.prog W 0 (fun _ => true) true Try.f5.params.toList args.toList ds p := hA0
  rw [Try.params5] at hA hval
  obtain ⟨v0, vs0, d0, ds0, p0, q0, hargs, rfl, rfl, h0, r0⟩ := trodAll_cons hA
  obtain ⟨v1, vs1, d1, ds1, p1, q1, rfl, rfl, rfl, h1, r1⟩ := trodAll_cons r0
  obtain ⟨rfl, rfl, rfl⟩ := trodAll_nil r1
  obtain rfl : args = #[v0, v1] := by cases args; simp_all
  obtain ⟨rfl, rfl⟩ := trodVars_none hV
  obtain ⟨A0, n0, c0, xss0, b0, rfl, k0⟩ := intRows_open Try.underlying24 (by kernel_rfl) (by kernel_rfl) rfl rfl Try.underlying22 Try.underlying35 Try.underlying3 (by kernel_rfl) (by kernel_rfl) Try.underlying3 (hval 0 24 v0 rfl rfl) h0
  obtain ⟨a1, rfl, rfl, rfl, w1⟩ := open_int Try.underlying3 (hval 1 3 v1 rfl rfl) h1
  clear hA0 hval0
  refine (ShrinkingRounds_law A0 n0 c0 b0 xss0 a1 W k0).mono fun e W' ⟨he, hg⟩ => ?_
  subst he
  exact ⟨_, rfl, post_law laid (by kernel_rfl) rfl Try.underlying4 rfl rfl hW' hg⟩

theorem inPlace_eq : (Rows.fnExactShrinkingRoundsRow.inPlace == Try.checked.prog.inPlace 5) = true := by kernel_rfl
theorem unfollowed_eq : (Rows.fnExactShrinkingRoundsRow.unfollowed == Try.checked.prog.unfollowed 5) = true := by kernel_rfl
theorem recurses_eq : (Rows.fnExactShrinkingRoundsRow.recurses == Try.checked.prog.recurses 5) = true := by kernel_rfl
theorem named_eq : (Rows.fnExactShrinkingRoundsRow.named == Try.checked.prog.varsNamed 5) = true := by kernel_rfl
theorem closed : joinedFacts Try.checked.prog 5 Try.f5 Rows.fnExactShrinkingRoundsSpec Rows.fnExactShrinkingRoundsRow = true := by
  unfold joinedFacts
  rw [inPlace_eq, unfollowed_eq, recurses_eq, named_eq]
  kernel_rfl
/-- THE STATEMENT. -/
theorem proved : Rows.FnExactShrinkingRoundsSaid :=
  OpenClaim.holds_of_wide 5 Try.f5 rfl rfl rfl rfl rfl rfl rfl ⟨rfl, rfl, rfl, rfl, rfl⟩ rfl rfl rfl rfl rfl (by kernel_rfl) Try.func5 closed
    (of_decide_eq_true (by kernel_rfl)) (by unfold Func.isWrapper; first | (rw [if_pos (by decide +kernel)]; kernel_rfl) | (rw [if_neg (by decide +kernel)]; exact ⟨rfl, rfl⟩))
    (fun os started H enc _ => lifted os started H enc)
end Go.Proofs.Ytaigjmbhgpcalaa.fnExactShrinkingRounds
