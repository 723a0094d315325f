/-
  The engine, seventh part: a region whose order is drawn, with one change of memory that may come at any moment among the others. No condition.
-/
import Derived.Test.YtfiopamaiolfhaaDoorVE
set_option linter.unusedSimpArgs false
set_option linter.unusedVariables false
namespace Go.Dm
open Go
section
variable {P : Program} {T : Tab} {X0 : Ctx}
structure RInvF (P : Program) (X0 : Ctx) (ops : Array Oper) (n : Nat) (chain : List Nat) (f : Nat) (V : Nat → DV) (H : Nat → Bool → DHeap) (t0 : Fr) (L : Array Bool) (X : Ctx) (a : Act) : Prop where
  size : L.size = ops.size
  closed : Closed ops L
  hh : X.h = H (chain.filter fun e => L.getD e false).length (L.getD f false)
  hi : HInv X
  hs : Step X0 X
  sz : a.tmps.size = n
  defs : a.defers = []
  relA : ∀ k j, L.getD k false = true → dstOf ops k = some j → RelD X (V k) (a.tmps.getD j undef)
  relB : ∀ j, (∀ k, L.getD k false = true → dstOf ops k ≠ some j) → RelD X (look t0 j) (a.tmps.getD j undef)
section plan
variable {ops : Array Oper} {n : Nat} {chain order : List Nat}

end plan
end
end Go.Dm
