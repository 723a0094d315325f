/-
  The bridge to the shelf's contract of a sort of structs by a closure. No condition.
-/
import Derived.Test.YtcoedlaifhfnnaaDoorBB
import Derived.Shelf.SlSortCmp.InsertionK
import Derived.Sort.LotA
set_option linter.unusedSimpArgs false
set_option linter.unusedVariables false
namespace Go.Dm
open Go Go.Sort Go.Proofs

/-- An element of a row: its cells as they lie, and as data. -/
structure El (k : Nat) (ok : List PV → List Value → Prop) where
  v : List Value
  p : List PV
  hv : v.length = k
  hp : p.length = k
  h1 : ∀ x ∈ v, x.oneCell' = true
  hk : ok p v

end Go.Dm
