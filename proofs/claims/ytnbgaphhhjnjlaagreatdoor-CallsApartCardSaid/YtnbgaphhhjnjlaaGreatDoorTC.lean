/-
  What is refused leaves nothing. No program in sight.
-/
import Derived.Test.YtnbgaphhhjnjlaaGreatDoorSU
set_option linter.unusedSimpArgs false
set_option linter.unusedVariables false
namespace Go.Dm
open Go
/-- What a call made: a tree, or nothing and a reason. -/
def MadeT (x : List It × Int) : Prop := (x.2 = 0 → OkT x.1) ∧ (x.2 ≠ 0 → x.1 = [])
theorem MadeT.len {x : List It × Int} (h : MadeT x) : x.1.length ≤ 1000000 := by
  by_cases h0 : x.2 = 0
  · exact Nat.le_trans (h.1 h0).len (by decide)
  · rw [h.2 h0]; simp
end Go.Dm
