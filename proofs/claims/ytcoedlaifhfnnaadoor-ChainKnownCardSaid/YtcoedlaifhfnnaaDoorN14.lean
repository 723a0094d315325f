import Derived.Test.YtcoedlaifhfnnaaDoorN12
import Derived.Test.YtcoedlaifhfnnaaDoorD1
import Derived.Test.YtcoedlaifhfnnaaDoorN6
import Derived.Test.YtcoedlaifhfnnaaDoorLA

section
/-
  Contracts of the document's layers: what makes one.
-/

set_option linter.unusedSimpArgs false
set_option linter.unusedVariables false
namespace Go.Proofs.YtcoedlaifhfnnaaDoor
open Go Go.Dm
set_option maxRecDepth 100000
set_option maxHeartbeats 8000000
end Go.Proofs.YtcoedlaifhfnnaaDoor

end

section
/-
  Contracts of the document's layers: the layer that makes one tree of another.
-/

set_option linter.unusedSimpArgs false
set_option linter.unusedVariables false
namespace Go.Proofs.YtcoedlaifhfnnaaDoor
open Go Go.Dm
set_option maxRecDepth 100000
set_option maxHeartbeats 8000000
end Go.Proofs.YtcoedlaifhfnnaaDoor

end
