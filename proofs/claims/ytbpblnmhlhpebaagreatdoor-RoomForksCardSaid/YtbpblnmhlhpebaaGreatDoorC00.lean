/- Part 1 of the proof of roomForks_card, set without needless blanks. No condition. -/
import Derived.WalkKit
set_option linter.unusedSimpArgs false
set_option linter.unusedVariables false
namespace Go.Dm
section
inductive SV where
 | i (n:Int)
 | s (l:List UInt8)
def said:Nat→List SV
 | _=>[]
end
end Go.Dm
