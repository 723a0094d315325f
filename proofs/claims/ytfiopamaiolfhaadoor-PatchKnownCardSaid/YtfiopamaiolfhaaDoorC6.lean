/-
  Contracts of the functions that draw nodes.
-/
import Derived.Test.YtfiopamaiolfhaaDoorC1
import Derived.Test.YtfiopamaiolfhaaDoorSA
set_option linter.unusedSimpArgs false
set_option linter.unusedVariables false
namespace Go.Proofs.YtfiopamaiolfhaaDoor
open Go Go.Dm
set_option maxRecDepth 100000
set_option maxHeartbeats 4000000

end Go.Proofs.YtfiopamaiolfhaaDoor
