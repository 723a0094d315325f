/-
  Contracts of the document's layers: which are right, a layer over a tree, layers folded.
-/
import Derived.Test.YtfiopamaiolfhaaGreatDoorD6
import Derived.Test.YtfiopamaiolfhaaGreatDoorG0
import Derived.Test.YtfiopamaiolfhaaGreatDoorLA
import Derived.Test.YtfiopamaiolfhaaGreatDoorVE
set_option linter.unusedSimpArgs false
set_option linter.unusedVariables false
namespace Go.Proofs.YtfiopamaiolfhaaGreatDoor
open Go Go.Dm
set_option maxRecDepth 100000
set_option maxHeartbeats 8000000

end Go.Proofs.YtfiopamaiolfhaaGreatDoor
