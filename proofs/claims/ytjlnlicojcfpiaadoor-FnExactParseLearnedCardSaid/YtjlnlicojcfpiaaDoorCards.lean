/-
  DERIVED. GIVEN WITH THE SEED: THE CARDS: each row of YtjlnlicojcfpiaaDoorRows.lean that lists a variable, with what it lists TIED to the program's text (the seventh form; the later family's looks); each row that meets fmt, with fmt's text TOLD by the authors' own Lean function (tested against real Go, not proved from fmt's source: count such statements apart). THE CARD IS WHAT COUNTS. Prove the row's statement (the work); the ties are given (YtjlnlicojcfpiaaDoorTie.lean); close each card by the builder's one call (the guide's Derived/Test/ToyasCard.lean, 'card_holds'). Laid BY PROGRAM, IN A SANDBOX (cutbox-door.mjs). By AI agents, Wed Nov 11 2026. No macro, syntax, notation, axiom, sorry.
-/
import Derived.Test.YtjlnlicojcfpiaaDoorRows
import GoSem.ClaimSeven
namespace Go.Proofs.YtjlnlicojcfpiaaDoor
namespace Rows

/-- THE TIED CARD OF 'laws.FnExactParseLearned'. -/
def fnExactParseLearnedCard : Claim7 := { stood := { row := fnExactParseLearnedRow, standIns := [], harness := (true, "53e4143093c8ea2b5feb9bde2a1dab16869dc512a3a9d05492312d896c20886f"), looks := true }, kinds := [], alts := [], laidByText := true, laidKinds := [.data, .data, .data, .data, .sentinel, .sentinel, .pinned], laidTests := true, laidLooks := .later }
def FnExactParseLearnedCardSaid : Prop := Claim7.holds Tryd.pinned (.plain (OpenSpec.ofChange fnExactParseLearnedSpec)) fnExactParseLearnedCard

/-- THE SECOND FORM's CARD OF 'laws.FnExactParseLearned'. -/
def fnExactParseLearnedUptoCard : Claim7 := { stood := { row := fnExactParseLearnedUptoRow, standIns := [], harness := (true, "53e4143093c8ea2b5feb9bde2a1dab16869dc512a3a9d05492312d896c20886f"), looks := true }, kinds := [], alts := [], laidByText := true, laidKinds := [.data, .data, .data, .data, .sentinel, .sentinel, .pinned], laidTests := true, laidLooks := .later }
def FnExactParseLearnedUptoCardSaid : Prop := Claim7.holds Tryd.pinned (.plain (OpenSpec.upto fnExactParseLearnedSpec)) fnExactParseLearnedUptoCard
end Rows
end Go.Proofs.YtjlnlicojcfpiaaDoor
