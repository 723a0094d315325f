/-
  Facts of the program as a whole, for laws without arguments.
-/
import Derived.Test.YtfiopamaiolfhaaDoorTab
import Derived.Test.YtfiopamaiolfhaaDoorBA
set_option linter.unusedSimpArgs false
set_option linter.unusedVariables false
namespace Go.Proofs.YtfiopamaiolfhaaDoor
open Go Go.Dm Go.RowKit Go.ChangeShapes Go.WideShapes
set_option maxRecDepth 100000

theorem own : ownKnob Tryd.prog.godebug = none := by kernel_rfl
theorem laidOut : laidOutB Tryd.prog = true := by kernel_rfl
end Go.Proofs.YtfiopamaiolfhaaDoor
