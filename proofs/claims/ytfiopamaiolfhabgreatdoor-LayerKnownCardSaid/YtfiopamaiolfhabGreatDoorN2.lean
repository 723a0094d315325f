/-
  Contracts of the program's trees: a node put.
-/
import Derived.Test.YtfiopamaiolfhabGreatDoorN0
set_option linter.unusedSimpArgs false
set_option linter.unusedVariables false
namespace Go.Proofs.YtfiopamaiolfhabGreatDoor
open Go Go.Dm Go.Proofs
set_option maxRecDepth 100000
set_option maxHeartbeats 8000000

theorem insAt_enc (t : List It) (i : Nat) (p : List UInt8) (k m : Int) (tt : Nat) (d : List UInt8) : insAt i [.s p, .i .i64 k, .i .i64 m, .f tt, .sl 1 (encB d)] (encT t) = encT (t.take i ++ ⟨p, ⟨k, m, tt, d⟩⟩ :: t.drop i) := by
  simp [insAt, encT, It.cs, List.map_take, List.map_drop]
end Go.Proofs.YtfiopamaiolfhabGreatDoor
