/-
  Whether any list of items is a right tree, as the program asks it.
-/
import Derived.Test.YtjanmkknbijecaaGreatDoorF1
import Derived.Test.YtjanmkknbijecaaGreatDoorSD
set_option linter.unusedSimpArgs false
set_option linter.unusedVariables false
namespace Go.Proofs.YtjanmkknbijecaaGreatDoor
open Go Go.Dm
set_option maxRecDepth 100000
set_option maxHeartbeats 4000000

theorem le_not_lt (x y : List UInt8) : (bltL x y || x == y) = !bltL y x := by
  cases h : bltL y x
  · cases h2 : bltL x y
    · rw [blt_tri h2 h]; simp
    · rfl
  · rw [blt_asymm h, Bool.false_or]
    cases he : (x == y)
    · rfl
    · rw [eq_of_beq he, blt_irrefl] at h; cases h

end Go.Proofs.YtjanmkknbijecaaGreatDoor
