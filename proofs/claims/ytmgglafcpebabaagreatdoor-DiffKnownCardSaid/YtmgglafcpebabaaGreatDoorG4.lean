/-
  Contracts: a tree's bytes, by the program.
-/
import Derived.Test.YtmgglafcpebabaaGreatDoorG1
import Derived.Test.YtmgglafcpebabaaGreatDoorG0
set_option linter.unusedSimpArgs false
set_option linter.unusedVariables false
namespace Go.Proofs.YtmgglafcpebabaaGreatDoor
open Go Go.Dm
set_option maxRecDepth 100000
set_option maxHeartbeats 4000000

end Go.Proofs.YtmgglafcpebabaaGreatDoor
