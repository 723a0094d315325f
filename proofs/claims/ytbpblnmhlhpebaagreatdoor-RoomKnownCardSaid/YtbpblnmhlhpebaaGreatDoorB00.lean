/- Part 1 of the proof of roomKnown_card. No condition. -/
import Derived.WalkKit
set_option linter.all false
namespace Go.Dm
section
inductive SV where
 | i (n:Int)
 | s (l:List UInt8)
def said:Nat→List SV
 | _=>[]
end
end Go.Dm
