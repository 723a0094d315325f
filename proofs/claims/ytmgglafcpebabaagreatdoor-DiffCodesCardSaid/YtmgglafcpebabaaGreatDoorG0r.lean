/-
  Whether any list of items is a right tree, as the document asks it.
-/
import Derived.Test.YtmgglafcpebabaaGreatDoorG0
import Derived.Test.YtmgglafcpebabaaGreatDoorD6
import Derived.Test.YtmgglafcpebabaaGreatDoorSD
set_option linter.unusedSimpArgs false
set_option linter.unusedVariables false
namespace Go.Proofs.YtmgglafcpebabaaGreatDoor
open Go Go.Dm
set_option maxRecDepth 100000
set_option maxHeartbeats 4000000

end Go.Proofs.YtmgglafcpebabaaGreatDoor
