/-
  Contracts of the program's trees: a node put.
-/
import Derived.Test.YtfiopamaiolfhaaGreatDoorN0
set_option linter.unusedSimpArgs false
set_option linter.unusedVariables false
namespace Go.Proofs.YtfiopamaiolfhaaGreatDoor
open Go Go.Dm Go.Proofs
set_option maxRecDepth 100000
set_option maxHeartbeats 8000000

end Go.Proofs.YtfiopamaiolfhaaGreatDoor
