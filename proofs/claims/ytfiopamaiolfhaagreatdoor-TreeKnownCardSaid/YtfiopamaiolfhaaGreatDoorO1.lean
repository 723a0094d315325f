/-
  What the arguments of this seat's laws are as data.
-/
import Derived.Test.YtfiopamaiolfhaaGreatDoorTab
import Derived.Test.YtfiopamaiolfhaaGreatDoorBA
import Derived.Test.YtfiopamaiolfhaaGreatDoorSB
set_option linter.unusedSimpArgs false
set_option linter.unusedVariables false
namespace Go.Proofs.YtfiopamaiolfhaaGreatDoor
open Go Go.Dm Go.RowKit Go.ChangeShapes Go.WideShapes
set_option maxRecDepth 100000

theorem own : ownKnob Tryz.prog.godebug = none := by kernel_rfl
theorem laidOut : laidOutB Tryz.prog = true := by kernel_rfl

section
variable {H : Type} {enc : TypeId × Value → H} {W : World} {base : Nat} {v : Value} {d : DataW H} {p : List MemPlace}
end

section
variable {H : Type} {enc : TypeId × Value → H} {W : World} {base : Nat} {v : Value} {d : DataW H} {p : List MemPlace}
end

end Go.Proofs.YtfiopamaiolfhaaGreatDoor
