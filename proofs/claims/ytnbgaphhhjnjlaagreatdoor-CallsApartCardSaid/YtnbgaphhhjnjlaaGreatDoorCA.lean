/-
  Paths with links, and calls: what a walk and a call of a tree answer, as functions; what a walk leads to. No condition.
-/
import Derived.Test.YtnbgaphhhjnjlaaGreatDoorTC
import Derived.Test.YtnbgaphhhjnjlaaGreatDoorSC
set_option linter.unusedSimpArgs false
set_option linter.unusedVariables false
namespace Go.Dm
open Go

/-! Paths with links. -/
def splitF (s : List UInt8) : List (List UInt8) × Int :=
  if decide ((120 : Int) < s.length) then ([], 12) else if !(s.all fun b => !((b.toNat : Int) == 0)) then ([], 1)
  else if (cutR s).all fun x => !decide ((24 : Int) < x.length) then ((cutR s).filter fun x => !(x == []), 0) else ([], 12)
def slashed (d : List UInt8) : Bool := match d with
  | b :: _ => (b.toNat : Int) == 47
  | [] => false
def walkW (t : List It) (fo : Bool) : Nat → List UInt8 → List (List UInt8) → Nat → List UInt8 × Bool × Int
  | 0, _, _, _ => ([], false, 11)
  | _ + 1, c, [], _ => (c, true, 0)
  | f + 1, c, p :: ps, h =>
    if p == [46] then walkW t fo f c ps h else if p == [46, 46] then walkW t fo f (dirOfR c) ps h
    else if !isDirR t c then ([], false, 9) else if decide ((120 : Int) < (joinF c p).length) then ([], false, 12)
    else match getR t (joinF c p) with
    | none => if ps == [] then (joinF c p, false, 0) else ([], false, 6)
    | some n => if n.k == 3 && (!(ps == []) || fo) then (if decide (8 ≤ h) then ([], false, 11) else if (splitF n.d).2 == 0 then walkW t fo f (if slashed n.d then [] else c) ((splitF n.d).1 ++ ps) (h + 1) else ([], false, (splitF n.d).2)) else walkW t fo f (joinF c p) ps h
def walkF (t : List It) (s : List UInt8) (fo : Bool) : List UInt8 × Bool × Int :=
  if (splitF s).2 == 0 then walkW t fo 1400 [] (splitF s).1 0 else ([], false, (splitF s).2)

/-! Calls. -/
structure Cl where
  k : Int
  p : List UInt8
  to' : List UInt8
  m : Int
  t : Nat
  at' : Int
  n : Int
  d : List UInt8
structure An where
  e : Int
  n : Nd
  d : List UInt8
  l : List (List UInt8)
def anE (e : Int) : An := ⟨e, nd0, [], []⟩
def follF (k : Int) : Bool := k == 3 || k == 4 || k == 10 || k == 11 || k == 12 || k == 14 || k == 15
def turnsF (k : Int) : Bool := decide (1 ≤ k) && decide (k ≤ 11) && !(k == 8)
def rightM (m : Int) : Bool := decide (0 ≤ m) && decide (m ≤ 4095)
def nodeAt (t : List It) (p : List UInt8) : Nd := if p == [] then ⟨2, 0, 0, []⟩ else (getR t p).getD nd0
def wrD (had : List UInt8) (f : Nat) (b : List UInt8) : List UInt8 := had.take f ++ b ++ had.drop (f + b.length)

/-- As the program has it. -/
def dirP (is : Bool) (n : Nd) : Bool := is && n.k == 2
def newN (kind : Int) (c : Cl) : Nd := ⟨kind, if kind == 3 then 511 else c.m, bitsF c.t, if kind == 2 then [] else c.d⟩
def makeP (t : List It) (p : List UInt8) (is : Bool) (kind : Int) (c : Cl) : List It × Int :=
  if is then ([], 7) else if !rightM (newN kind c).m then ([], 1)
  else if kind == 3 && (decide ((c.d.length : Int) < 1) || decide ((120 : Int) < c.d.length) || !(c.d.all fun b => !(b == 0))) then ([], 1)
  else if kind == 1 && decide ((2000 : Int) < c.d.length) then ([], 16) else putR t p (newN kind c)
def fileP (is : Bool) (n : Nd) : Int := if !is then 6 else if dirP is n then 8 else 0
def writeP (t : List It) (p : List UInt8) (n : Nd) (from' : Int) (b : List UInt8) : List It × Int :=
  if decide (from' < 0) || decide ((n.d.length : Int) < from') then ([], 1) else if decide (2000 - from' < (b.length : Int)) then ([], 16)
  else putR t p ⟨n.k, n.m, n.t, wrD n.d from'.toNat b⟩
def truncP (t : List It) (p : List UInt8) (n : Nd) (k : Int) : List It × Int :=
  if decide (k < 0) || decide ((n.d.length : Int) < k) then ([], 1) else putR t p ⟨n.k, n.m, n.t, n.d.take k.toNat⟩
def rmdirP (t : List It) (p : List UInt8) (is : Bool) (n : Nd) : List It × Int :=
  if p == [] then ([], 1) else if !is then ([], 6) else if !dirP is n then ([], 9) else if decide ((0 : Int) < (namesF t p).length) then ([], 10) else (removeR t p, 0)
def setP (t : List It) (p : List UInt8) (is : Bool) (n : Nd) (c : Cl) : List It × Int :=
  if !is then ([], 6) else if p == [] || c.k == 10 && !rightM c.m then ([], 1)
  else if c.k == 10 then putR t p ⟨n.k, c.m, n.t, n.d⟩ else putR t p ⟨n.k, n.m, bitsF c.t, n.d⟩
def ontoP (d : Bool) (t : List It) (q : List UInt8) (is : Bool) (n : Nd) : Int :=
  if !is then 0 else if d && !dirP is n then 9 else if d && decide ((0 : Int) < (namesF t q).length) then 10 else if !d && dirP is n then 8 else 0
def renameP (t : List It) (p : List UInt8) (is : Bool) (n : Nd) (to' : List UInt8) : List It × Int :=
  if !is then ([], 6) else if !((walkF t to' false).2.2 == 0) then ([], (walkF t to' false).2.2)
  else if p == [] || (walkF t to' false).1 == [] then ([], 1) else if p == (walkF t to' false).1 then (t, 0)
  else if belowR p (walkF t to' false).1 then ([], 18)
  else if !(ontoP (dirP is n) t (walkF t to' false).1 (walkF t to' false).2.1 (nodeAt t (walkF t to' false).1) == 0) then ([], ontoP (dirP is n) t (walkF t to' false).1 (walkF t to' false).2.1 (nodeAt t (walkF t to' false).1))
  else moveR (removeR t (walkF t to' false).1) p (walkF t to' false).1
def turnedP (t : List It) (p : List UInt8) (is : Bool) (n : Nd) (c : Cl) : List It × Int :=
  if c.k == 1 then makeP t p is 2 c else if c.k == 2 then makeP t p is 1 c else if c.k == 7 then makeP t p is 3 c else if c.k == 6 then rmdirP t p is n
  else if c.k == 10 || c.k == 11 then setP t p is n c else if c.k == 9 then renameP t p is n c.to'
  else if !(fileP is n == 0) then ([], fileP is n) else if c.k == 3 then writeP t p n c.at' c.d else if c.k == 4 then truncP t p n c.n else (removeR t p, 0)
def readC1 (is : Bool) (n : Nd) (from' k : Int) : An :=
  if !(fileP is n == 0) then anE (fileP is n) else if decide (from' < 0) || decide (k < 0) then anE 1 else ⟨0, nd0, (n.d.drop from'.toNat).take k.toNat, []⟩
def askedP (t : List It) (p : List UInt8) (is : Bool) (n : Nd) (c : Cl) : An :=
  if c.k == 14 then readC1 is n c.at' c.n else if !is then anE 6 else if c.k == 8 && !(n.k == 3) then anE 1 else if c.k == 8 then ⟨0, nd0, n.d, []⟩
  else if c.k == 15 && !dirP is n then anE 9 else if c.k == 15 then ⟨0, nd0, [], namesF t p⟩ else ⟨0, n, [], []⟩
def doP (t : List It) (c : Cl) : List It × An :=
  if decide (c.k < 1) || decide (15 < c.k) then (t, anE 1) else if !((walkF t c.p (follF c.k)).2.2 == 0) then (t, anE (walkF t c.p (follF c.k)).2.2)
  else if !turnsF c.k then (t, askedP t (walkF t c.p (follF c.k)).1 (walkF t c.p (follF c.k)).2.1 (nodeAt t (walkF t c.p (follF c.k)).1) c)
  else if (turnedP t (walkF t c.p (follF c.k)).1 (walkF t c.p (follF c.k)).2.1 (nodeAt t (walkF t c.p (follF c.k)).1) c).2 == 0 then ((turnedP t (walkF t c.p (follF c.k)).1 (walkF t c.p (follF c.k)).2.1 (nodeAt t (walkF t c.p (follF c.k)).1) c).1, anE 0)
  else (t, anE (turnedP t (walkF t c.p (follF c.k)).1 (walkF t c.p (follF c.k)).2.1 (nodeAt t (walkF t c.p (follF c.k)).1) c).2)

/-- As the document has it. -/
def createR (t : List It) (c : Cl) (p : List UInt8) (is : Bool) : List It × Int :=
  if is then (t, 7)
  else if decide ((if c.k == 7 then 511 else c.m) < 0) || decide ((4095 : Int) < (if c.k == 7 then 511 else c.m)) || c.k == 7 && !targetR c.d then (t, 1)
  else if c.k == 2 && decide ((2000 : Int) < c.d.length) then (t, 16)
  else putR t p ⟨if c.k == 2 then 1 else if c.k == 7 then 3 else 2, if c.k == 7 then 511 else c.m, bitsF c.t, if c.k == 2 || c.k == 7 then c.d else []⟩
def renameR (t : List It) (p : List UInt8) (dir : Bool) (to' : List UInt8) : List It × Int :=
  if !((walkF t to' false).2.2 == 0) then (t, (walkF t to' false).2.2)
  else if p == [] || (walkF t to' false).1 == [] then (t, 1) else if p == (walkF t to' false).1 then (t, 0)
  else if belowR p (walkF t to' false).1 then (t, 18)
  else if (walkF t to' false).2.1 then
    (if dir && !isDirR t (walkF t to' false).1 then (t, 9) else if dir && decide ((0 : Int) < (namesF t (walkF t to' false).1).length) then (t, 10)
     else if !dir && isDirR t (walkF t to' false).1 then (t, 8) else moveR (removeR t (walkF t to' false).1) p (walkF t to' false).1)
  else moveR t p (walkF t to' false).1
def doR1 (t : List It) (c : Cl) (p : List UInt8) (is : Bool) : List It × An :=
  let n := (getR t p).getD nd0
  let dir := is && isDirR t p
  if c.k == 1 || c.k == 2 || c.k == 7 then ((createR t c p is).1, anE (createR t c p is).2)
  else if c.k == 6 && p == [] then (t, anE 1) else if !is then (t, anE 6)
  else if c.k == 3 then (if dir then (t, anE 8) else if decide (c.at' < 0) || decide ((n.d.length : Int) < c.at') then (t, anE 1) else if decide (2000 - c.at' < (c.d.length : Int)) then (t, anE 16) else (setR t p ⟨n.k, n.m, n.t, wrD n.d c.at'.toNat c.d⟩, anE 0))
  else if c.k == 4 then (if dir then (t, anE 8) else if decide (c.n < 0) || decide ((n.d.length : Int) < c.n) then (t, anE 1) else (setR t p ⟨n.k, n.m, n.t, n.d.take c.n.toNat⟩, anE 0))
  else if c.k == 5 then (if dir then (t, anE 8) else (removeR t p, anE 0))
  else if c.k == 6 then (if !dir then (t, anE 9) else if decide ((0 : Int) < (namesF t p).length) then (t, anE 10) else (removeR t p, anE 0))
  else if c.k == 8 then (if !(n.k == 3) then (t, anE 1) else (t, ⟨0, nd0, n.d, []⟩))
  else if c.k == 12 || c.k == 13 then (t, ⟨0, nodeAt t p, [], []⟩)
  else if c.k == 14 then (if dir then (t, anE 8) else if decide (c.at' < 0) || decide (c.n < 0) then (t, anE 1) else (t, ⟨0, nd0, (n.d.drop c.at'.toNat).take c.n.toNat, []⟩))
  else if c.k == 15 then (if !dir then (t, anE 9) else (t, ⟨0, nd0, [], namesF t p⟩))
  else if c.k == 10 then (if p == [] || decide (c.m < 0) || decide (4095 < c.m) then (t, anE 1) else (setR t p ⟨n.k, c.m, n.t, n.d⟩, anE 0))
  else if c.k == 11 then (if p == [] then (t, anE 1) else (setR t p ⟨n.k, n.m, bitsF c.t, n.d⟩, anE 0))
  else ((renameR t p dir c.to').1, anE (renameR t p dir c.to').2)
def doR (t : List It) (c : Cl) : List It × An :=
  if decide (c.k < 1) || decide (15 < c.k) then (t, anE 1) else if !((walkF t c.p (follF c.k)).2.2 == 0) then (t, anE (walkF t c.p (follF c.k)).2.2)
  else if (doR1 t c (walkF t c.p (follF c.k)).1 (walkF t c.p (follF c.k)).2.1).2.e == 0 then doR1 t c (walkF t c.p (follF c.k)).1 (walkF t c.p (follF c.k)).2.1
  else (t, anE (doR1 t c (walkF t c.p (follF c.k)).1 (walkF t c.p (follF c.k)).2.1).2.e)
end Go.Dm
