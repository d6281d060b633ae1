/-
  Lists of clauses that go with a formula: the reference's and the program's test; no condition.
-/
import Derived.Test.YtjlnlicojcfpiaaDoorC30
import Derived.Test.YtjlnlicojcfpiaaDoorC15
namespace Go.Proofs.YtjlnlicojcfpiaaDoor
set_option linter.unusedSimpArgs false
set_option linter.unusedVariables false
open Go.RowKit
def lstOk (v : Int) (cls l : List (List Int)) : Bool := cnfOk v cls && (decide (l.length ≤ 60) && l.all (clauseOk v))
end Go.Proofs.YtjlnlicojcfpiaaDoor
