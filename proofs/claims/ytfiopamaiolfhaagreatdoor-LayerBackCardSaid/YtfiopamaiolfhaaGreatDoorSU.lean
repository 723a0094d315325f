import Derived.Test.YtfiopamaiolfhaaGreatDoorSE
import Derived.Test.YtfiopamaiolfhaaGreatDoorBQ

section
/-
  Changes done to a tree, as the program does it: plain words. No condition.
-/

set_option linter.unusedSimpArgs false
set_option linter.unusedVariables false
namespace Go.Dm
open Go Go.Sort Go.Proofs
set_option maxRecDepth 100000

/-! Items in order. -/
def pathV : List PV → List UInt8
  | .s p :: _ => p
  | _ => []
def ltVI (x y : List PV) : Bool := bltL (pathV x) (pathV y)
theorem swo_ltVI : SWO ltVI where
  irrefl _ := blt_irrefl _
  trans _ _ _ := blt_trans
  ntrans x y z h k := by
    unfold ltVI at *
    cases e : bltL (pathV x) (pathV z) with
    | false => rfl
    | true =>
      cases f : bltL (pathV y) (pathV x) with
      | true => have := blt_trans f e; rw [k] at this; cases this
      | false => have := blt_tri h f; rw [this, k] at e; cases e
def cfI (x y : List PV) : Int := cmpS (pathV x) (pathV y)
theorem lt_cfI : ltOf cfI = ltVI := by
  funext x y
  exact cmpS_lt
theorem swo_cfI : SWO (ltOf cfI) := by rw [lt_cfI]; exact swo_ltVI
/-! What the changes make. -/
end Go.Dm

end

section
/-
  The changes of two trees, done to the one, are the other. No condition.
-/

set_option linter.unusedSimpArgs false
set_option linter.unusedVariables false
namespace Go.Dm
open Go Go.Sort Go.Proofs
set_option maxRecDepth 100000

end Go.Dm

end

section
/-
  Trees as the program puts and moves: an item set or inserted at its place; what moves, in order. No program in sight.
-/

set_option linter.unusedSimpArgs false
set_option linter.unusedVariables false
namespace Go.Dm
open Go

/-- Where a path is, or would be. -/
def At (t : List It) (p : List UInt8) (i : Nat) : Prop := i ≤ t.length ∧ ∀ k x, t[k]? = some x → (k < i → bltL x.p p = true) ∧ (i ≤ k → bltL x.p p = false)

/-! What moves. -/
end Go.Dm
namespace Go.Dm
open Go
end Go.Dm

end
