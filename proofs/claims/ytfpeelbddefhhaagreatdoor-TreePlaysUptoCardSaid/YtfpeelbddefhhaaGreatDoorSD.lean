/-
  Bytes of trees and of changes: plain laws. No condition.
-/
import Derived.Test.YtfpeelbddefhhaaGreatDoorSC
set_option linter.unusedSimpArgs false
set_option linter.unusedVariables false

section
/-
  Numbers as bytes, the highest first; a node's bytes. No condition.
-/
namespace Go.Dm
open Go

theorem wrap_u8_range (z : Int) : 0 ≤ IntKind.u8.wrap z ∧ IntKind.u8.wrap z ≤ 255 := ⟨of_eq_true (wrap_u8_lo z), of_eq_true (wrap_u8_hi z)⟩
theorem encB_snoc (B : List UInt8) (z : Int) : encB B ++ [[.i .u8 (IntKind.u8.wrap z)]] = encB (B ++ [UInt8.ofNat (IntKind.u8.wrap z).toNat]) := by
  obtain ⟨h1, h2⟩ := wrap_u8_range z
  have : ((UInt8.ofNat (IntKind.u8.wrap z).toNat).toNat : Int) = IntKind.u8.wrap z := by
    have : (UInt8.ofNat (IntKind.u8.wrap z).toNat).toNat = (IntKind.u8.wrap z).toNat := by
      show _ % 256 = _
      exact Nat.mod_eq_of_lt (by omega)
    rw [this]; omega
  simp only [encB, List.map_append, List.map_cons, List.map_nil, this]
theorem encB_one1 (z : Int) : [[PV.i .u8 (IntKind.u8.wrap z)]] = encB [UInt8.ofNat (IntKind.u8.wrap z).toNat] := by
  have := encB_snoc [] z
  simpa [encB] using this
def byteI (z : Int) (k : Nat) : UInt8 := UInt8.ofNat (IntKind.u8.wrap ((IntKind.u64.wrap z).fdiv (2 ^ k))).toNat
def u16F (z : Int) : List UInt8 := [byteI z 8, byteI z 0]
def textF (b : List UInt8) : List UInt8 := u16F b.length ++ b
def layNode (n : Nd) : List UInt8 := byteI n.k 0 :: (u16F n.m ++ (bytesF n.t ++ textF n.d))
def layItem (x : It) : List UInt8 := textF x.p ++ layNode x.n
def layTree (t : List It) : List UInt8 := u16F t.length ++ (t.map layItem).flatten

/-! Bytes read as numbers. -/
def natOf (b : List UInt8) : Nat := b.foldl (fun v c => v * 256 + c.toNat) 0
/-- What a reader has left, and whether something was taken beyond the end. -/
structure Rd where
  b : List UInt8
  l : Bool
def Rd.raw (r : Rd) (n : Nat) : List UInt8 × Rd := if r.l || decide (r.b.length < n) then ([], ⟨[], true⟩) else (r.b.take n, ⟨r.b.drop n, false⟩)
def Rd.num (r : Rd) (n : Nat) : Nat × Rd := (natOf (r.raw n).1, (r.raw n).2)
def Rd.text (r : Rd) : List UInt8 × Rd := (r.num 2).2.raw (r.num 2).1
def Rd.node (r : Rd) : Nd × Rd :=
  let k := r.num 1
  let m := k.2.num 2
  let t := m.2.num 8
  let d := t.2.text
  (⟨k.1, m.1, t.1, d.1⟩, d.2)
/-- Items read one behind the other. -/
def Rd.items : Nat → Rd → List It × Rd
  | 0, r => ([], r)
  | n + 1, r =>
    if r.l then ([], r) else
      let p := r.text
      let x := p.2.node
      let y := Rd.items n x.2
      (⟨p.1, x.1⟩ :: y.1, y.2)
def okItem (x : It) : Prop := x.p.length < 65536 ∧ (0 ≤ x.n.k ∧ x.n.k < 256) ∧ (0 ≤ x.n.m ∧ x.n.m < 65536) ∧ x.n.t < 18446744073709551616 ∧ x.n.d.length < 65536
end Go.Dm
end

section
/-
  Which lists of items are right trees, as the program and the document ask it. No condition.
-/
namespace Go.Dm
open Go

def aheadT (pre : List It) (p : List UInt8) : Bool := match pre.getLast? with
  | some y => bltL y.p p
  | none => true
def rightStep (pre : List It) (x : It) : Bool := !(x.p == []) && (isPathR x.p && (aheadT pre x.p && (rightNodeR x.n && isDirR pre (dirOfR x.p))))
def rightGo : List It → List It → Bool
  | _, [] => true
  | pre, x :: r => rightStep pre x && rightGo (pre ++ [x]) r
def rightT (t : List It) : Bool := rightGo [] t && decide ((t.length : Int) ≤ 120)
/-- The document's question. -/
def refStep (t pre : List It) (x : It) : Bool := !(x.p == []) && (isPathR x.p && (aheadT pre x.p && (rightNodeR x.n && isDirR t (dirOfR x.p))))
def refGo (t : List It) : List It → List It → Bool
  | _, [] => true
  | pre, x :: r => refStep t pre x && refGo t (pre ++ [x]) r
def refT (t : List It) : Bool := refGo t [] t && decide ((t.length : Int) ≤ 120)
end Go.Dm
end

section
/-
  Reading: what a reader has left; items as the program and as the document read them. No condition.
-/
namespace Go.Dm
open Go

def Rd.take (r : Rd) : Nd × Bool := if r.node.2.l || !rightNodeR r.node.1 then (⟨0, 0, 0, []⟩, false) else (r.node.1, true)
/-- Items as the program reads them: what is no node is an empty one. -/
def Rd.itemsP : Nat → Rd → List It
  | 0, _ => []
  | n + 1, r => if r.l then [] else ⟨r.text.1, r.text.2.take.1⟩ :: Rd.itemsP n r.text.2.node.2
/-- Items as the document reads them: what is no node ends it. -/
def Rd.itemsR : Nat → Rd → Option (List It × Rd)
  | 0, r => some ([], r)
  | n + 1, r => if r.l then some ([], r) else if r.text.2.take.2 then
      match Rd.itemsR n r.text.2.node.2 with
      | some (t, q) => some (⟨r.text.1, r.text.2.take.1⟩ :: t, q)
      | none => none
    else none
end Go.Dm
end

section
/-
  Reading a tree: what the program reads and what the document reads is one. No condition.
-/
namespace Go.Dm
open Go

/-- What the program reads. -/
def readP (z : List UInt8) : List It := let c := (Rd.mk z false).num 2; Rd.itemsP c.1 c.2
def readOk (z : List UInt8) : Bool := rightT (readP z) && (layTree (readP z) == z)
def readT (z : List UInt8) : List It × Int := if readOk z then (readP z, 0) else ([], 2)
/-- What the document reads. -/
def refRead (z : List UInt8) : List It × Int :=
  let c := (Rd.mk z false).num 2
  match Rd.itemsR c.1 c.2 with
  | none => ([], 2)
  | some (t, q) => if q.l || (decide ((0 : Int) < q.b.length) || !refT t) then ([], 2) else (t, 0)
end Go.Dm
end

section
/-
  Changes' bytes: which changes may be, as the document asks it; what is read. No condition beyond times that are words of 64 bits.
-/
namespace Go.Dm
open Go

/-- Which changes may be, as the document asks it. -/
def mayR (c : Ch) : Bool :=
  !(c.p == []) && (isPathR c.p && ((sameNd c.o nd0 || rightNodeR c.o) && ((sameNd c.n nd0 || rightNodeR c.n) && (!(sameNd c.o nd0 && sameNd c.n nd0) && (!(!sameNd c.o nd0 && (!sameNd c.n nd0 && sameNd c.o c.n)) && c.k == kindR c.o c.n (!sameNd c.o nd0) (!sameNd c.n nd0))))))
def refFrom : Option (List UInt8) → List Ch → Bool
  | _, [] => true
  | q, c :: l => mayR c && aheadOf q c.p && refFrom (some c.p) l
end Go.Dm
end

section
/-
  Changes' bytes: laid, read; what the program reads and what the document reads is one. No condition beyond times that are words of 64 bits.
-/
namespace Go.Dm
open Go

def rightCs (l : List Ch) : Bool := rightFrom none l
def refCs (l : List Ch) : Bool := refFrom none l
def layCh (x : Ch) : List UInt8 := textF x.p ++ (byteI x.k 0 :: ((if x.k == 1 then [] else layNode x.o) ++ (if x.k == 2 then [] else layNode x.n)))
def layChs (l : List Ch) : List UInt8 := u16F l.length ++ (l.map layCh).flatten
def Rd.opt (r : Rd) (b : Bool) : Nd × Rd := if b then (nd0, r) else (r.take.1, r.node.2)
def Rd.optOk (r : Rd) (b : Bool) : Bool := b || r.take.2
def Rd.chP (r : Rd) : Ch × Rd :=
  let p := r.text
  let k := p.2.num 1
  let o := k.2.opt ((k.1 : Int) == 1)
  let n := o.2.opt ((k.1 : Int) == 2)
  (⟨p.1, k.1, o.1, n.1⟩, n.2)
def Rd.chOk (r : Rd) : Bool :=
  let k := r.text.2.num 1
  k.2.optOk ((k.1 : Int) == 1) && (k.2.opt ((k.1 : Int) == 1)).2.optOk ((k.1 : Int) == 2)
/-- Changes as the program reads them: what is no node is an empty one. -/
def Rd.chsP : Nat → Rd → List Ch
  | 0, _ => []
  | n + 1, r => if r.l then [] else r.chP.1 :: Rd.chsP n r.chP.2
/-- Changes as the document reads them: what is no node ends it. -/
def Rd.chsR : Nat → Rd → Option (List Ch × Rd)
  | 0, r => some ([], r)
  | n + 1, r => if r.l then some ([], r) else if r.chOk then
      match Rd.chsR n r.chP.2 with
      | some (t, q) => some (r.chP.1 :: t, q)
      | none => none
    else none
def okCh (x : Ch) : Prop := x.p.length ≤ 65535 ∧ (x.o.t < 18446744073709551616 ∧ x.o.d.length ≤ 65535) ∧ (x.n.t < 18446744073709551616 ∧ x.n.d.length ≤ 65535) ∧ 0 ≤ x.k ∧ x.k < 256
/-- What the program reads. -/
def readC (z : List UInt8) : List Ch := let c := (Rd.mk z false).num 2; Rd.chsP c.1 c.2
def readCOk (z : List UInt8) : Bool := rightCs (readC z) && (layChs (readC z) == z)
def readCs (z : List UInt8) : List Ch × Int := if readCOk z then (readC z, 0) else ([], 2)
/-- What the document reads. -/
def refReadC (z : List UInt8) : List Ch × Int :=
  let c := (Rd.mk z false).num 2
  match Rd.chsR c.1 c.2 with
  | none => ([], 2)
  | some (t, q) => if q.l || (decide ((0 : Int) < q.b.length) || !refCs t) then ([], 2) else (t, 0)
end Go.Dm
end
