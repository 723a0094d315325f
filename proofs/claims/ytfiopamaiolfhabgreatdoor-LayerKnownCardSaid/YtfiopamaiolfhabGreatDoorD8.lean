/-
  Contracts of the document on trees, and of the drawn tree.
-/
import Derived.Test.YtfiopamaiolfhabGreatDoorD6
import Derived.Test.YtfiopamaiolfhabGreatDoorC6
import Derived.Test.YtfiopamaiolfhabGreatDoorSB
set_option linter.unusedSimpArgs false
set_option linter.unusedVariables false
namespace Go.Proofs.YtfiopamaiolfhabGreatDoor
open Go Go.Dm
set_option maxRecDepth 100000
set_option maxHeartbeats 4000000

end Go.Proofs.YtfiopamaiolfhabGreatDoor
