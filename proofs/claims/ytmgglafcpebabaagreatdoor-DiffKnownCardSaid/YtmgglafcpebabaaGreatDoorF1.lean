/-
  Contracts of the program's trees: a path's parts, whether a tree is right, whether a directory is there.
-/
import Derived.Test.YtmgglafcpebabaaGreatDoorE1
import Derived.Test.YtmgglafcpebabaaGreatDoorD11
import Derived.Test.YtmgglafcpebabaaGreatDoorSC
import Derived.Test.YtmgglafcpebabaaGreatDoorVB
set_option linter.unusedSimpArgs false
set_option linter.unusedVariables false
namespace Go.Proofs.YtmgglafcpebabaaGreatDoor
open Go Go.Dm
set_option maxRecDepth 100000
set_option maxHeartbeats 4000000

end Go.Proofs.YtmgglafcpebabaaGreatDoor
