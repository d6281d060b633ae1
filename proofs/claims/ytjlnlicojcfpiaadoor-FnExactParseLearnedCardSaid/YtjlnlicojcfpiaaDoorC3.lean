/-
  Inequalities: what the program's and the reference's small functions on them compute.
-/
import Derived.Test.YtjlnlicojcfpiaaDoorC2
namespace Go.Proofs.YtjlnlicojcfpiaaDoor
set_option linter.unusedSimpArgs false
set_option linter.unusedVariables false
open Go.RowKit

end Go.Proofs.YtjlnlicojcfpiaaDoor
