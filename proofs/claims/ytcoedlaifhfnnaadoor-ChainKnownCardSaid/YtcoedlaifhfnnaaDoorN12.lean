import Derived.Test.YtcoedlaifhfnnaaDoorD6
import Derived.Test.YtcoedlaifhfnnaaDoorG0
import Derived.Test.YtcoedlaifhfnnaaDoorLA
import Derived.Test.YtcoedlaifhfnnaaDoorVE

section
/-
  Contracts of the document's layers: which are right, a layer over a tree, layers folded.
-/

set_option linter.unusedSimpArgs false
set_option linter.unusedVariables false
namespace Go.Proofs.YtcoedlaifhfnnaaDoor
open Go Go.Dm
set_option maxRecDepth 100000
set_option maxHeartbeats 8000000

end Go.Proofs.YtcoedlaifhfnnaaDoor

end

section
/-
  Contracts of the document's layers: a layer over a tree, layers folded.
-/

set_option linter.unusedSimpArgs false
set_option linter.unusedVariables false
namespace Go.Proofs.YtcoedlaifhfnnaaDoor
open Go Go.Dm
set_option maxRecDepth 100000
set_option maxHeartbeats 8000000

end Go.Proofs.YtcoedlaifhfnnaaDoor

end
