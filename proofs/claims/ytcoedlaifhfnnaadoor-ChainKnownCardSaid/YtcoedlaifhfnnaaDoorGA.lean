/-
  What the package's variables that a row lays down hold, where code reads them: rows of integers, or of strings, by the variable's number. No condition: a definition.
-/
import Derived.WalkKit
set_option linter.unusedSimpArgs false
set_option linter.unusedVariables false

namespace Go.Dm
/-- What one place of such a row holds. -/
inductive SV where
  | i (n : Int)
  | s (l : List UInt8)
def said : Nat → List SV
  | _ => []
end Go.Dm
