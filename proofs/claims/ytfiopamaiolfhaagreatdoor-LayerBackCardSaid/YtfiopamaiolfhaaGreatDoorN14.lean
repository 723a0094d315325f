import Derived.Test.YtfiopamaiolfhaaGreatDoorN12
import Derived.Test.YtfiopamaiolfhaaGreatDoorD1
import Derived.Test.YtfiopamaiolfhaaGreatDoorN6
import Derived.Test.YtfiopamaiolfhaaGreatDoorLA

section
/-
  Contracts of the document's layers: what makes one.
-/

set_option linter.unusedSimpArgs false
set_option linter.unusedVariables false
namespace Go.Proofs.YtfiopamaiolfhaaGreatDoor
open Go Go.Dm
set_option maxRecDepth 100000
set_option maxHeartbeats 8000000

end Go.Proofs.YtfiopamaiolfhaaGreatDoor

end

section
/-
  Contracts of the document's layers: the layer that makes one tree of another.
-/

set_option linter.unusedSimpArgs false
set_option linter.unusedVariables false
namespace Go.Proofs.YtfiopamaiolfhaaGreatDoor
open Go Go.Dm
set_option maxRecDepth 100000
set_option maxHeartbeats 8000000

end Go.Proofs.YtfiopamaiolfhaaGreatDoor

end
