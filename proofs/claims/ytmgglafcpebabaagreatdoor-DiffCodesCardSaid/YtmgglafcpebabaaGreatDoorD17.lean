/-
  Contracts of a diff turned round, and of two diffs' sameness.
-/
import Derived.Test.YtmgglafcpebabaaGreatDoorD10
import Derived.Test.YtmgglafcpebabaaGreatDoorSC
import Derived.Test.YtmgglafcpebabaaGreatDoorVB
set_option linter.unusedSimpArgs false
set_option linter.unusedVariables false
namespace Go.Proofs.YtmgglafcpebabaaGreatDoor
open Go Go.Dm
set_option maxRecDepth 100000
set_option maxHeartbeats 4000000

theorem set_at {l : List (List PV)} {k : Nat} {e : List PV} (h : k < l.length) : (l.set k e).getD k [] = e := by
  rw [List.getD_eq_getElem?_getD, List.getElem?_set_self h]; rfl
end Go.Proofs.YtmgglafcpebabaaGreatDoor
