/-
  Contracts of the document's trees: the last name of a path, the names of a directory.
-/
import Derived.Test.YtfiopamaiolfhaaGreatDoorD1
import Derived.Test.YtfiopamaiolfhaaGreatDoorF1
import Derived.Test.YtfiopamaiolfhaaGreatDoorTB
set_option linter.unusedSimpArgs false
set_option linter.unusedVariables false
namespace Go.Proofs.YtfiopamaiolfhaaGreatDoor
open Go Go.Dm
set_option maxRecDepth 100000
set_option maxHeartbeats 4000000

end Go.Proofs.YtfiopamaiolfhaaGreatDoor
