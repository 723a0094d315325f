/- Part 1 of the proof of roomMerges_card, set without needless blanks. No condition. -/
import Derived.WalkKit
set_option linter.all false
set_option maxRecDepth 100000
set_option maxHeartbeats 16000000
section
namespace Go.Dm
inductive SV where
 | i (n:Int)
 | s (l:List UInt8)
def said:Nat->List SV
 | _=>[]
end Go.Dm
end
