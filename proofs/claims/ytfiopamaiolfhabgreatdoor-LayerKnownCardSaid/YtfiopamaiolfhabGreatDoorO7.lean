/-
  Facts of the program as a whole, for laws without arguments.
-/
import Derived.Test.YtfiopamaiolfhabGreatDoorTab
import Derived.Test.YtfiopamaiolfhabGreatDoorBA
set_option linter.unusedSimpArgs false
set_option linter.unusedVariables false
namespace Go.Proofs.YtfiopamaiolfhabGreatDoor
open Go Go.Dm Go.RowKit Go.ChangeShapes Go.WideShapes
set_option maxRecDepth 100000

theorem own : ownKnob Tryz.prog.godebug = none := by kernel_rfl
theorem laidOut : laidOutB Tryz.prog = true := by kernel_rfl
end Go.Proofs.YtfiopamaiolfhabGreatDoor
