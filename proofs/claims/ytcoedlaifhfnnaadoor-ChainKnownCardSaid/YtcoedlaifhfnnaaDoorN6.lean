/-
  Contracts of the document's trees: the last name of a path, the names of a directory.
-/
import Derived.Test.YtcoedlaifhfnnaaDoorD1
import Derived.Test.YtcoedlaifhfnnaaDoorF1
import Derived.Test.YtcoedlaifhfnnaaDoorTB
set_option linter.unusedSimpArgs false
set_option linter.unusedVariables false
namespace Go.Proofs.YtcoedlaifhfnnaaDoor
open Go Go.Dm
set_option maxRecDepth 100000
set_option maxHeartbeats 4000000

end Go.Proofs.YtcoedlaifhfnnaaDoor
