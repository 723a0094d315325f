/-
  Contracts of the program's trees: a path moved.
-/
import Derived.Test.YtfiopamaiolfhabGreatDoorN2
import Derived.Test.YtfiopamaiolfhabGreatDoorShelf3
import Derived.Test.YtfiopamaiolfhabGreatDoorBQ
set_option linter.unusedSimpArgs false
set_option linter.unusedVariables false
namespace Go.Proofs.YtfiopamaiolfhabGreatDoor
open Go Go.Dm Go.Proofs
set_option maxRecDepth 100000
set_option maxHeartbeats 8000000

end Go.Proofs.YtfiopamaiolfhabGreatDoor
