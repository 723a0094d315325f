/-
  Contracts of the merge of nodes: the program's, the document's.
-/
import Derived.Test.YtfiopamaiolfhaaGreatDoorC4
set_option linter.unusedSimpArgs false
set_option linter.unusedVariables false
namespace Go.Proofs.YtfiopamaiolfhaaGreatDoor
open Go Go.Dm
set_option maxRecDepth 100000
set_option maxHeartbeats 4000000

end Go.Proofs.YtfiopamaiolfhaaGreatDoor
