/-
  Contracts of the functions that draw nodes.
-/
import Derived.Test.YtfiopamaiolfhabGreatDoorC1
import Derived.Test.YtfiopamaiolfhabGreatDoorSA
set_option linter.unusedSimpArgs false
set_option linter.unusedVariables false
namespace Go.Proofs.YtfiopamaiolfhabGreatDoor
open Go Go.Dm
set_option maxRecDepth 100000
set_option maxHeartbeats 4000000

end Go.Proofs.YtfiopamaiolfhabGreatDoor
