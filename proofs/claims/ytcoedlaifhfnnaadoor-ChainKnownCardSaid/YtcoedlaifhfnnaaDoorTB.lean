/-
  Texts put in order one by one. No program in sight.
-/
import Derived.Test.YtcoedlaifhfnnaaDoorSC
set_option linter.unusedSimpArgs false
set_option linter.unusedVariables false
namespace Go.Dm
open Go
end Go.Dm
