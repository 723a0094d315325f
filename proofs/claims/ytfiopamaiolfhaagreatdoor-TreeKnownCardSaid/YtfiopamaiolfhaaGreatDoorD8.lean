/-
  Contracts of the document on trees, and of the drawn tree.
-/
import Derived.Test.YtfiopamaiolfhaaGreatDoorD6
import Derived.Test.YtfiopamaiolfhaaGreatDoorC6
import Derived.Test.YtfiopamaiolfhaaGreatDoorSB
set_option linter.unusedSimpArgs false
set_option linter.unusedVariables false
namespace Go.Proofs.YtfiopamaiolfhaaGreatDoor
open Go Go.Dm
set_option maxRecDepth 100000
set_option maxHeartbeats 4000000

end Go.Proofs.YtfiopamaiolfhaaGreatDoor
