/-
  What the functions on nodes compute, in plain words. No condition.
-/
import Derived.Test.YtomaddpcacoodaaS1
set_option linter.unusedSimpArgs false
set_option linter.unusedVariables false
namespace Go.Dm
open Go

/-- A node. -/
structure Nd where
  k : Int
  m : Int
  t : Nat
  d : List UInt8
abbrev ndc (k m : Int) (t : Nat) (d : List UInt8) : List CV := [.p (.i .i64 k), .p (.i .i64 m), .p (.f t), .p (.sl 1 (encB d))]
abbrev Nd.cv (x : Nd) : List CV := [.p (.i .i64 x.k), .p (.i .i64 x.m), .p (.f x.t), .p (.sl 1 (encB x.d))]
attribute [go_sem] Nd.cv ndc
theorem nd_eta (x : Nd) : Nd.mk x.k x.m x.t x.d = x := rfl
attribute [go_sem] nd_eta
def ndSame (x y : Nd) : Bool := x.k == y.k && x.m == y.m && (numCmp x.t y.t == 0) && x.d == y.d
def sameNd (x y : Nd) : Bool := x.k == y.k && x.m == y.m && x.d == y.d && (bitsF x.t == bitsF y.t)
def whatF (x y : Nd) : Bool := x.k == y.k && x.d == y.d
def Nd.ok (x : Nd) : Prop := x.d.length ≤ 140737488355328
def sideF (base alike o t : Bool) : Int := if alike || base && t then 1 else if base && o then 2 else 0
def sameM (x y : Nd) (p q : Bool) : Bool := p == q && (!p || ndSame x y)
def nd0 : Nd := ⟨0, 0, 0, []⟩
def partsF (base o t : Nd) (b : Bool) : Nd × Bool :=
  let w := sideF b (whatF o t) (whatF base o) (whatF base t)
  let m := sideF b (o.m == t.m) (base.m == o.m) (base.m == t.m)
  let c := sideF b (numCmp o.t t.t == 0) (numCmp base.t o.t == 0) (numCmp base.t t.t == 0)
  (⟨if w == 2 then t.k else o.k, if m == 2 then t.m else o.m, if c == 2 then t.t else if c == 0 then laterN o.t t.t else o.t, if w == 2 then t.d else o.d⟩, w != 0 && m != 0)
def nodeM (base o t : Nd) (b isO isT : Bool) : Nd × Bool × Int :=
  if sameM o t isO isT || sameM base t b isT then (if isO then o else nd0, isO, 0)
  else if sameM base o b isO then (if isT then t else nd0, isT, 0)
  else if !isO then (nd0, false, 3)
  else if !isT then (nd0, false, 2)
  else if (partsF base o t b).2 then ((partsF base o t b).1, true, 0)
  else if !b then (nd0, false, 5)
  else if o.k != t.k then (nd0, false, 4)
  else (nd0, false, 1)
def sameR (x y : Nd) (p q : Bool) : Bool := p == q && (!p || sameNd x y)
/-- A part of three: of ours, of theirs, or of neither. -/
def pickR (b alike o t : Bool) : Option Bool := if alike then some true else if b && o then some false else if b && t then some true else none
def nodeR (base o t : Nd) (b isO isT : Bool) : Nd × Bool × Int :=
  if sameR o t isO isT then (o, isO, 0)
  else if sameR base o b isO then (t, isT, 0)
  else if sameR base t b isT then (o, isO, 0)
  else if !isO then (nd0, false, 3)
  else if !isT then (nd0, false, 2)
  else
    let bad : Int := if !b then 5 else if o.k != t.k then 4 else 1
    match pickR b (whatF o t) (whatF base o) (whatF base t), pickR b (o.m == t.m) (base.m == o.m) (base.m == t.m) with
    | some w, some m => (⟨if w then o.k else t.k, if m then o.m else t.m,
        match pickR b (bitsF o.t == bitsF t.t) (bitsF base.t == bitsF o.t) (bitsF base.t == bitsF t.t) with
        | some true => o.t
        | some false => t.t
        | none => laterR o.t t.t, if w then o.d else t.d⟩, true, 0)
    | _, _ => (nd0, false, bad)
end Go.Dm
