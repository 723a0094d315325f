/-
  Contracts of the document on trees: which may be, what is put.
-/
import Derived.Test.YtfiopamaiolfhaaGreatDoorD1
import Derived.Test.YtfiopamaiolfhaaGreatDoorC1
import Derived.Test.YtfiopamaiolfhaaGreatDoorSD
set_option linter.unusedSimpArgs false
set_option linter.unusedVariables false
namespace Go.Proofs.YtfiopamaiolfhaaGreatDoor
open Go Go.Dm
set_option maxRecDepth 100000
set_option maxHeartbeats 4000000

end Go.Proofs.YtfiopamaiolfhaaGreatDoor
