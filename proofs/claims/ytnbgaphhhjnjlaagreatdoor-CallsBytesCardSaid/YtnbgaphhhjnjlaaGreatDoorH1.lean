/-
  What the laws on bytes draw.
-/
import Derived.Test.YtnbgaphhhjnjlaaGreatDoorD8
import Derived.Test.YtnbgaphhhjnjlaaGreatDoorD8
import Derived.Test.YtnbgaphhhjnjlaaGreatDoorO1
import Derived.Test.YtnbgaphhhjnjlaaGreatDoorVB
import Derived.Test.YtnbgaphhhjnjlaaGreatDoorSD
set_option linter.unusedSimpArgs false
set_option linter.unusedVariables false
namespace Go.Proofs.YtnbgaphhhjnjlaaGreatDoor
open Go Go.Dm
set_option maxRecDepth 100000
set_option maxHeartbeats 4000000

/-- Whole numbers as a row. -/
def encZ (l : List Int) : List (List PV) := l.map fun z => [.i .i64 z]
theorem encZ_len (l : List Int) : (encZ l).length = l.length := by simp [encZ]
theorem encZ_one (l : List Int) : (∀ x ∈ encZ l, x.length = 1) = True := eq_true fun x hx => by
  simp only [encZ, List.mem_map] at hx
  obtain ⟨y, _, rfl⟩ := hx
  rfl
attribute [go_sem] encZ_len encZ_one
end Go.Proofs.YtnbgaphhhjnjlaaGreatDoor
