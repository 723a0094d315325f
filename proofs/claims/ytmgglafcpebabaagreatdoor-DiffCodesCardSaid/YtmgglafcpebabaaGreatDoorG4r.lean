/-
  Contracts: a tree's bytes, by the document.
-/
import Derived.Test.YtmgglafcpebabaaGreatDoorG1r
import Derived.Test.YtmgglafcpebabaaGreatDoorG0r
import Derived.Test.YtmgglafcpebabaaGreatDoorG4
set_option linter.unusedSimpArgs false
set_option linter.unusedVariables false
namespace Go.Proofs.YtmgglafcpebabaaGreatDoor
open Go Go.Dm
set_option maxRecDepth 100000
set_option maxHeartbeats 4000000

end Go.Proofs.YtmgglafcpebabaaGreatDoor
