/-
  DERIVED. GIVEN WITH THE SEED: THE CARDS: each row of YtaigjmbhgpcalaaDoorRows.lean that lists a variable, with what it lists TIED to the program's text (the seventh form; the later family's looks); each row that meets fmt, with fmt's text TOLD by the authors' own Lean function (tested against real Go, not proved from fmt's source: count such statements apart). THE CARD IS WHAT COUNTS. Prove the row's statement (the work); the ties are given (YtaigjmbhgpcalaaDoorTie.lean); close each card by the builder's one call (the guide's Derived/Test/ToyasCard.lean, 'card_holds'). Laid BY PROGRAM, IN A SANDBOX (cutbox-door.mjs). By AI agents, Wed Nov 11 2026. No macro, syntax, notation, axiom, sorry.
-/
import Derived.Test.YtaigjmbhgpcalaaDoorRows
import GoSem.ClaimSeven
namespace Go.Proofs.YtaigjmbhgpcalaaDoor
namespace Rows

/-- THE TIED CARD OF 'laws.FnExactPlaneText'. -/
def fnExactPlaneTextCard : Claim7 := { stood := { row := fnExactPlaneTextRow, standIns := [], harness := (true, "5a20096f1e199478b6e4d89309dbc9ecd812f55db943e92104981aa953712797"), looks := false }, kinds := [], alts := [], laidByText := true, laidKinds := [.data, .data, .data], laidTests := true, laidLooks := .later }
def FnExactPlaneTextCardSaid : Prop := Claim7.holds Tryd.pinned (.plain (OpenSpec.ofChange fnExactPlaneTextSpec)) fnExactPlaneTextCard

/-- THE TIED CARD OF 'laws.FnExactLearnedText'. -/
def fnExactLearnedTextCard : Claim7 := { stood := { row := fnExactLearnedTextRow, standIns := [], harness := (true, "5a20096f1e199478b6e4d89309dbc9ecd812f55db943e92104981aa953712797"), looks := false }, kinds := [], alts := [], laidByText := true, laidKinds := [.data, .data, .data], laidTests := true, laidLooks := .later }
def FnExactLearnedTextCardSaid : Prop := Claim7.holds Tryd.pinned (.plain (OpenSpec.ofChange fnExactLearnedTextSpec)) fnExactLearnedTextCard

/-- THE SECOND FORM's CARD OF 'laws.FnExactPlaneText'. -/
def fnExactPlaneTextUptoCard : Claim7 := { stood := { row := fnExactPlaneTextUptoRow, standIns := [], harness := (true, "5a20096f1e199478b6e4d89309dbc9ecd812f55db943e92104981aa953712797"), looks := false }, kinds := [], alts := [], laidByText := true, laidKinds := [.data, .data, .data], laidTests := true, laidLooks := .later }
def FnExactPlaneTextUptoCardSaid : Prop := Claim7.holds Tryd.pinned (.plain (OpenSpec.upto fnExactPlaneTextSpec)) fnExactPlaneTextUptoCard

/-- THE SECOND FORM's CARD OF 'laws.FnExactLearnedText'. -/
def fnExactLearnedTextUptoCard : Claim7 := { stood := { row := fnExactLearnedTextUptoRow, standIns := [], harness := (true, "5a20096f1e199478b6e4d89309dbc9ecd812f55db943e92104981aa953712797"), looks := false }, kinds := [], alts := [], laidByText := true, laidKinds := [.data, .data, .data], laidTests := true, laidLooks := .later }
def FnExactLearnedTextUptoCardSaid : Prop := Claim7.holds Tryd.pinned (.plain (OpenSpec.upto fnExactLearnedTextSpec)) fnExactLearnedTextUptoCard
end Rows
end Go.Proofs.YtaigjmbhgpcalaaDoor
