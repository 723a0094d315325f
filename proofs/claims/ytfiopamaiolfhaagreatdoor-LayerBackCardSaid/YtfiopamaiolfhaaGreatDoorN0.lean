import Derived.Test.YtfiopamaiolfhaaGreatDoorIN
import Derived.Test.YtfiopamaiolfhaaGreatDoorTab
import Derived.Test.YtfiopamaiolfhaaGreatDoorProg
import Derived.Test.YtfiopamaiolfhaaGreatDoorF2
import Derived.Test.YtfiopamaiolfhaaGreatDoorSU

section
/-
  slices.Insert at the program's items.
-/

set_option linter.unusedSimpArgs false
set_option linter.unusedVariables false
namespace Go.Proofs.YtfiopamaiolfhaaGreatDoor
open Go Go.Dm Go.Shelf
set_option maxRecDepth 100000
set_option maxHeartbeats 4000000

end Go.Proofs.YtfiopamaiolfhaaGreatDoor

end

section
/-
  Contracts of the program's trees: a node put.
-/

set_option linter.unusedSimpArgs false
set_option linter.unusedVariables false
namespace Go.Proofs.YtfiopamaiolfhaaGreatDoor
open Go Go.Dm Go.Proofs
set_option maxRecDepth 100000
set_option maxHeartbeats 8000000

end Go.Proofs.YtfiopamaiolfhaaGreatDoor

end
