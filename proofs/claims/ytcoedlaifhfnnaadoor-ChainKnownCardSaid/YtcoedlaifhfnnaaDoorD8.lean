import Derived.Test.YtcoedlaifhfnnaaDoorD6
import Derived.Test.YtcoedlaifhfnnaaDoorC1
import Derived.Test.YtcoedlaifhfnnaaDoorSB

section
/-
  Contracts of the document on trees, and of the drawn tree.
-/

set_option linter.unusedSimpArgs false
set_option linter.unusedVariables false
namespace Go.Proofs.YtcoedlaifhfnnaaDoor
open Go Go.Dm
set_option maxRecDepth 100000
set_option maxHeartbeats 4000000

end Go.Proofs.YtcoedlaifhfnnaaDoor

end

section
/-
  The contract of the function that turns a tree.
-/

set_option linter.unusedSimpArgs false
set_option linter.unusedVariables false
namespace Go.Proofs.YtcoedlaifhfnnaaDoor
open Go Go.Dm
set_option maxRecDepth 100000
set_option maxHeartbeats 4000000

end Go.Proofs.YtcoedlaifhfnnaaDoor

end
