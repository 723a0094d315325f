import Derived.Test.YtjpmajeekikdhaaGreatDoorD6
import Derived.Test.YtjpmajeekikdhaaGreatDoorC1
import Derived.Test.YtjpmajeekikdhaaGreatDoorSB
import Derived.Test.YtjpmajeekikdhaaGreatDoorSC
import Derived.Test.YtjpmajeekikdhaaGreatDoorVB

section
/-
  Contracts of the document on trees, and of the drawn tree.
-/

set_option linter.unusedSimpArgs false
set_option linter.unusedVariables false
namespace Go.Proofs.YtjpmajeekikdhaaGreatDoor
open Go Go.Dm
set_option maxRecDepth 100000
set_option maxHeartbeats 4000000

theorem putRn_c {t : List It} {p : List UInt8} {k m : Int} {tt : Nat} (ht : t.length ≤ 1000000 - 1) (hp : p.length ≤ 1000000000) (hq : ∀ x ∈ t, x.p.length ≤ 9223372036854775807) :
    DCalls Tryz.prog 31 [.c (.p (.sl 5 (encT t))), .c (.p (.s p)), .agg [.p (.i .i64 k), .p (.i .i64 m), .p (.f tt), .p .nil]] [] fun r h =>
      r = .tup [.c (.p (.sl 5 (encT (putR t p ⟨k, m, tt, []⟩).1))), .c (.p (.i .i64 (putR t p ⟨k, m, tt, []⟩).2))] ∧ h = [] :=
  DCalls.wkargs (args' := [.c (.p (.sl 5 (encT t))), .c (.p (.s p)), .agg (ndc k m tt [])]) ⟨wkP.rfl, wkP.rfl, ⟨wkP.rfl, wkP.rfl, wkP.rfl, wkP_nil, True.intro⟩, True.intro⟩ (putR_c ht hp hq (Nat.zero_le _))

end Go.Proofs.YtjpmajeekikdhaaGreatDoor

end

section
/-
  The contract of the function that turns a tree.
-/

set_option linter.unusedSimpArgs false
set_option linter.unusedVariables false
namespace Go.Proofs.YtjpmajeekikdhaaGreatDoor
open Go Go.Dm
set_option maxRecDepth 100000
set_option maxHeartbeats 4000000

end Go.Proofs.YtjpmajeekikdhaaGreatDoor

end

section
/-
  Contracts of a diff turned round, and of two diffs' sameness.
-/

set_option linter.unusedSimpArgs false
set_option linter.unusedVariables false
namespace Go.Proofs.YtjpmajeekikdhaaGreatDoor
open Go Go.Dm
set_option maxRecDepth 100000
set_option maxHeartbeats 4000000

theorem set_at {l : List (List PV)} {k : Nat} {e : List PV} (h : k < l.length) : (l.set k e).getD k [] = e := by
  rw [List.getD_eq_getElem?_getD, List.getElem?_set_self h]; rfl
end Go.Proofs.YtjpmajeekikdhaaGreatDoor

end
