/-
  Contracts of the document on paths, names and trees.
-/
import Derived.Test.YtcoedlaifhfnnaaDoorC1
import Derived.Test.YtcoedlaifhfnnaaDoorSB
set_option linter.unusedSimpArgs false
set_option linter.unusedVariables false
namespace Go.Proofs.YtcoedlaifhfnnaaDoor
open Go Go.Dm
set_option maxRecDepth 100000
set_option maxHeartbeats 4000000

end Go.Proofs.YtcoedlaifhfnnaaDoor
