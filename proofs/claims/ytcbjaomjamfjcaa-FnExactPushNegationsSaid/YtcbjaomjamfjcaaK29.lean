/-
  PushNegations: both texts' answers.
-/
import Derived.Test.YtcbjaomjamfjcaaK27
import Derived.Test.YtcbjaomjamfjcaaK28
namespace Go.Proofs.Ytcbjaomjamfjcaa
set_option linter.unusedSimpArgs false
set_option linter.unusedVariables false
end Go.Proofs.Ytcbjaomjamfjcaa
