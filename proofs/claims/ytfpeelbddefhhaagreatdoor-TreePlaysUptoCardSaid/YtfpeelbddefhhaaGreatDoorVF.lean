/-
  The engine, seventh part: a region whose order is drawn, with one change of memory that may come at any moment among the others. No condition.
-/
import Derived.Test.YtfpeelbddefhhaaGreatDoorVE
set_option linter.unusedSimpArgs false
set_option linter.unusedVariables false
namespace Go.Dm
open Go
section
variable {P : Program} {T : Tab} {X0 : Ctx}
/-- What an operation at a place of the plan does, whether the free change has been or not. -/
def GoodF (P : Program) (T : Tab) (ops : Array Oper) (n : Nat) (chain : List Nat) (f : Nat) (V : Nat → DV) (H : Nat → Bool → DHeap) (t : Fr) (c i : Nat) : Prop :=
  ∃ o, ops[i]? = some o ∧ (chain.contains i = true → ∀ b : Bool, (b = false → waitsT ops 6 i f = false) → (b = true → waitsT ops 6 f i = false) → One P T ops n o t (H c b) (V i) (H (c + 1) b)) ∧
    (chain.contains i = false → i = f → ∀ s, loOf ops chain i ≤ s → s ≤ c → One P T ops n o t (H s false) (V i) (H s true)) ∧
    (chain.contains i = false → i ≠ f → ∀ s (b : Bool), loOf ops chain i ≤ s → s ≤ c → (b = false → waitsT ops 6 i f = false) → (b = true → waitsT ops 6 f i = false) → One P T ops n o t (H s b) (V i) (H s b))
structure RInvF (P : Program) (X0 : Ctx) (ops : Array Oper) (n : Nat) (chain : List Nat) (f : Nat) (V : Nat → DV) (H : Nat → Bool → DHeap) (t0 : Fr) (L : Array Bool) (X : Ctx) (a : Act) : Prop where
  size : L.size = ops.size
  closed : Closed ops L
  hh : X.h = H (chain.filter fun e => L.getD e false).length (L.getD f false)
  hi : HInv X
  hs : Step X0 X
  sz : a.tmps.size = n
  defs : a.defers = []
  relA : ∀ k j, L.getD k false = true → dstOf ops k = some j → RelD X (V k) (a.tmps.getD j undef)
  relB : ∀ j, (∀ k, L.getD k false = true → dstOf ops k ≠ some j) → RelD X (look t0 j) (a.tmps.getD j undef)
section plan
variable {ops : Array Oper} {n : Nat} {chain order : List Nat}

end plan
/-- All of a plan, one operation behind the other. -/
def runF (P : Program) (T : Tab) (ops : Array Oper) (n : Nat) (chain : List Nat) (f : Nat) (V : Nat → DV) (H : Nat → Bool → DHeap) : List Nat → Fr → Nat → Prop
  | [], _, _ => True
  | i :: rest, t, c => GoodF P T ops n chain f V H t c i ∧ runF P T ops n chain f V H rest (putF t (dstOf ops i) (V i)) (c + if chain.contains i then 1 else 0)
end
end Go.Dm
