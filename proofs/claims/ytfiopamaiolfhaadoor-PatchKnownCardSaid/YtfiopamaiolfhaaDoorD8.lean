/-
  Contracts of the document on trees, and of the drawn tree.
-/
import Derived.Test.YtfiopamaiolfhaaDoorD6
import Derived.Test.YtfiopamaiolfhaaDoorC6
import Derived.Test.YtfiopamaiolfhaaDoorSB
set_option linter.unusedSimpArgs false
set_option linter.unusedVariables false
namespace Go.Proofs.YtfiopamaiolfhaaDoor
open Go Go.Dm
set_option maxRecDepth 100000
set_option maxHeartbeats 4000000

end Go.Proofs.YtfiopamaiolfhaaDoor
