/-
  Calls on a tree of one file. Conditions: stated in each.
-/
import Derived.Test.YtnbgaphhhjnjlaaGreatDoorCC
set_option linter.unusedSimpArgs false
set_option linter.unusedVariables false
namespace Go.Dm
open Go

section
variable {z : Nat} {a : List UInt8}
end
end Go.Dm
