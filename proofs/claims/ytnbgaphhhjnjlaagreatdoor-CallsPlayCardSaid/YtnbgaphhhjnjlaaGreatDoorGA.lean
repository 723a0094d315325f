/-
  What the package's variables that a row lays down hold, where code reads them: rows of integers by the variable's number (chapter 16: pentimentohand.kinds). No condition: a definition.
-/
import Derived.WalkKit
set_option linter.unusedSimpArgs false
set_option linter.unusedVariables false

namespace Go.Dm
def said : Nat → List Int
  | 0 => [1, 1, 1, 2, 2, 2, 3, 3, 4, 5, 6, 7, 7, 8, 9, 9, 10, 11, 11, 12, 13, 14, 15, 15]
  | _ => []
end Go.Dm
