/-
  Contracts: layers of trees, each over the one ahead.
-/
import Derived.Test.YtcoedlaifhfnnaaDoorN14
import Derived.Test.YtcoedlaifhfnnaaDoorD8
import Derived.Test.YtcoedlaifhfnnaaDoorD8
import Derived.Test.YtcoedlaifhfnnaaDoorLA
import Derived.Test.YtcoedlaifhfnnaaDoorVE
set_option linter.unusedSimpArgs false
set_option linter.unusedVariables false
namespace Go.Proofs.YtcoedlaifhfnnaaDoor
open Go Go.Dm Go.Proofs
set_option maxRecDepth 100000
set_option maxHeartbeats 8000000
end Go.Proofs.YtcoedlaifhfnnaaDoor
