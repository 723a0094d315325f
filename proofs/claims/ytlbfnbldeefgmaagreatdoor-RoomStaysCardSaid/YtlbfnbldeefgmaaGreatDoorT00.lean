/- Part 1 of the proof of roomStays_card, set without needless blanks. No condition. -/
import Derived.WalkKit
set_option linter.all false
set_option maxRecDepth 100000
set_option maxHeartbeats 16000000
section
namespace Go.Dm
inductive SV where
 | i (n:Int)
 | s (l:List UInt8)
def zFZ:List Int:=[1,1,1,2,2,2,3,3,4,5,6,7,7,8,9,9,10,11,11,12,13,14,15,15]
def ZI:List (List UInt8):=[[109,97,105,110],[118,49],[118,50],[119,49],[119,50],[118,51],[109,97,105,110]]
def said:Nat->List SV
 | 0=>zFZ.map .i
 | 1=>ZI.map .s
 | _=>[]
end Go.Dm
end
