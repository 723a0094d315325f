/-
  The contract of the program's diff.
-/
import Derived.Test.YtfpeelbddefhhaaGreatDoorD11
import Derived.Test.YtfpeelbddefhhaaGreatDoorSC
set_option linter.unusedSimpArgs false
set_option linter.unusedVariables false
namespace Go.Proofs.YtfpeelbddefhhaaGreatDoor
open Go Go.Dm
set_option maxRecDepth 100000
set_option maxHeartbeats 4000000

theorem sort_k {h : DHeap} {id : Nat} {ss : List (List UInt8)} {K : DV → DHeap → Prop} (hid : h[id]? = some (.arr 1 (Go.Dm.encS ss) false)) (hsz : ss.length < 4611686018427387904)
    (hk : K (.tup []) (h.set id (.arr 1 (Go.Dm.encS (ss.mergeSort fun x y => decide (x ≤ y))) false))) : DCalls Tryz.prog 71 [.c (.own id 0 ss.length)] h K :=
  DCalls.mono (sort_c hid hsz) (by rintro d h' ⟨rfl, rfl⟩; exact hk)
end Go.Proofs.YtfpeelbddefhhaaGreatDoor
