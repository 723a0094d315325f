/- Part 1 of the proof of roomAsks_card, set without needless blanks. No condition. -/
import Derived.WalkKit
set_option linter.all false
section
namespace Go.Dm
inductive SV where
 | i (n:Int)
 | s (l:List UInt8)
def zEp:List Int:=[1,1,1,2,2,2,3,3,4,5,6,7,7,8,9,9,10,11,11,12,13,14,15,15]
def said:Nat→List SV
 | 0=>zEp.map .i
 | _=>[]
end Go.Dm
end
