/-
  What the arguments of this seat's laws are as data.
-/
import Derived.Test.YtcoedlaifhfnnaaDoorTab
import Derived.Test.YtcoedlaifhfnnaaDoorBA
import Derived.Test.YtcoedlaifhfnnaaDoorSB
set_option linter.unusedSimpArgs false
set_option linter.unusedVariables false
namespace Go.Proofs.YtcoedlaifhfnnaaDoor
open Go Go.Dm Go.RowKit Go.ChangeShapes Go.WideShapes
set_option maxRecDepth 100000

theorem own : ownKnob Tryd.prog.godebug = none := by kernel_rfl

theorem laidOut : laidOutB Tryd.prog = true := by kernel_rfl

section
variable {H : Type} {enc : TypeId × Value → H} {W : World} {base : Nat} {v : Value} {d : DataW H} {p : List MemPlace}

end

section
variable {H : Type} {enc : TypeId × Value → H} {W : World} {base : Nat} {v : Value} {d : DataW H} {p : List MemPlace}
end

end Go.Proofs.YtcoedlaifhfnnaaDoor
