import Derived.Test.YtfiopamaiolfhaaGreatDoorF1
import Derived.Test.YtfiopamaiolfhaaGreatDoorSD
import Derived.Test.YtfiopamaiolfhaaGreatDoorD6

section
/-
  Whether any list of items is a right tree, as the program asks it.
-/

set_option linter.unusedSimpArgs false
set_option linter.unusedVariables false
namespace Go.Proofs.YtfiopamaiolfhaaGreatDoor
open Go Go.Dm
set_option maxRecDepth 100000
set_option maxHeartbeats 4000000

theorem le_not_lt (x y : List UInt8) : (bltL x y || x == y) = !bltL y x := by
  cases h : bltL y x
  · cases h2 : bltL x y
    · rw [blt_tri h2 h]; simp
    · rfl
  · rw [blt_asymm h, Bool.false_or]
    cases he : (x == y)
    · rfl
    · rw [eq_of_beq he, blt_irrefl] at h; cases h

end Go.Proofs.YtfiopamaiolfhaaGreatDoor

end

section
/-
  Whether any list of items is a right tree, as the document asks it.
-/

set_option linter.unusedSimpArgs false
set_option linter.unusedVariables false
namespace Go.Proofs.YtfiopamaiolfhaaGreatDoor
open Go Go.Dm
set_option maxRecDepth 100000
set_option maxHeartbeats 4000000

end Go.Proofs.YtfiopamaiolfhaaGreatDoor

end
