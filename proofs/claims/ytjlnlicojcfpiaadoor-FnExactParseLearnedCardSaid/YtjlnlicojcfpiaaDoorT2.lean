/-
  The text of an inequality: plain, and the reference's; no condition.
-/
import Derived.Test.YtjlnlicojcfpiaaDoorT2p
import Derived.Test.YtjlnlicojcfpiaaDoorC8
import Derived.Test.YtjlnlicojcfpiaaDoorC12
namespace Go.Proofs.YtjlnlicojcfpiaaDoor
set_option linter.unusedSimpArgs false
set_option linter.unusedVariables false
open Go.RowKit
theorem text_step {l : List UInt8} (hl : l ≠ []) (a b : List UInt8) : ((((⟨l.toArray⟩ : ByteArray) ++ ⟨#[32]⟩) ++ ⟨a.toArray⟩) ++ ⟨#[120]⟩) ++ ⟨b.toArray⟩ = ⟨(joinNext l [32] (a ++ [120] ++ b)).toArray⟩ := by
  rw [show (⟨#[32]⟩ : ByteArray) = ⟨[32].toArray⟩ from rfl, show (⟨#[120]⟩ : ByteArray) = ⟨[120].toArray⟩ from rfl, bytes_app, bytes_app, bytes_app, bytes_app]
  unfold joinNext
  rw [if_neg hl]; simp
theorem text_first (a b : List UInt8) : (((⟨#[]⟩ : ByteArray) ++ ⟨a.toArray⟩) ++ ⟨#[120]⟩) ++ ⟨b.toArray⟩ = ⟨(joinNext [] [32] (a ++ [120] ++ b)).toArray⟩ := by
  rw [show (⟨#[]⟩ : ByteArray) = ⟨[].toArray⟩ from rfl, show (⟨#[120]⟩ : ByteArray) = ⟨[120].toArray⟩ from rfl, bytes_app, bytes_app, bytes_app]
  unfold joinNext
  rw [if_pos rfl]; simp
theorem text_end (l b : List UInt8) : ((⟨l.toArray⟩ : ByteArray) ++ ⟨#[32, 62, 61, 32]⟩) ++ ⟨b.toArray⟩ = ⟨(l ++ [32, 62, 61, 32] ++ b).toArray⟩ := by
  rw [show (⟨#[32, 62, 61, 32]⟩ : ByteArray) = ⟨[32, 62, 61, 32].toArray⟩ from rfl, bytes_app, bytes_app]
end Go.Proofs.YtjlnlicojcfpiaaDoor
