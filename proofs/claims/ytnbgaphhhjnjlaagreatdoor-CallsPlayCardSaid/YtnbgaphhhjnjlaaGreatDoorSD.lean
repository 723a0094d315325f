/-
  Bytes of trees and of changes: plain laws. No condition.
-/
import Derived.Test.YtnbgaphhhjnjlaaGreatDoorSC
set_option linter.unusedSimpArgs false
set_option linter.unusedVariables false

section
/-
  Numbers as bytes, the highest first; a node's bytes. No condition.
-/
namespace Go.Dm
open Go

theorem wrap_u8_range (z : Int) : 0 ≤ IntKind.u8.wrap z ∧ IntKind.u8.wrap z ≤ 255 := ⟨of_eq_true (wrap_u8_lo z), of_eq_true (wrap_u8_hi z)⟩
theorem encB_snoc (B : List UInt8) (z : Int) : encB B ++ [[.i .u8 (IntKind.u8.wrap z)]] = encB (B ++ [UInt8.ofNat (IntKind.u8.wrap z).toNat]) := by
  obtain ⟨h1, h2⟩ := wrap_u8_range z
  have : ((UInt8.ofNat (IntKind.u8.wrap z).toNat).toNat : Int) = IntKind.u8.wrap z := by
    have : (UInt8.ofNat (IntKind.u8.wrap z).toNat).toNat = (IntKind.u8.wrap z).toNat := by
      show _ % 256 = _
      exact Nat.mod_eq_of_lt (by omega)
    rw [this]; omega
  simp only [encB, List.map_append, List.map_cons, List.map_nil, this]
theorem encB_one1 (z : Int) : [[PV.i .u8 (IntKind.u8.wrap z)]] = encB [UInt8.ofNat (IntKind.u8.wrap z).toNat] := by
  have := encB_snoc [] z
  simpa [encB] using this
/-! Bytes read as numbers. -/
def natOf (b : List UInt8) : Nat := b.foldl (fun v c => v * 256 + c.toNat) 0
/-- What a reader has left, and whether something was taken beyond the end. -/
structure Rd where
  b : List UInt8
  l : Bool
def Rd.raw (r : Rd) (n : Nat) : List UInt8 × Rd := if r.l || decide (r.b.length < n) then ([], ⟨[], true⟩) else (r.b.take n, ⟨r.b.drop n, false⟩)
def Rd.num (r : Rd) (n : Nat) : Nat × Rd := (natOf (r.raw n).1, (r.raw n).2)
def Rd.text (r : Rd) : List UInt8 × Rd := (r.num 2).2.raw (r.num 2).1
def Rd.node (r : Rd) : Nd × Rd :=
  let k := r.num 1
  let m := k.2.num 2
  let t := m.2.num 8
  let d := t.2.text
  (⟨k.1, m.1, t.1, d.1⟩, d.2)
/-- Items read one behind the other. -/
def Rd.items : Nat → Rd → List It × Rd
  | 0, r => ([], r)
  | n + 1, r =>
    if r.l then ([], r) else
      let p := r.text
      let x := p.2.node
      let y := Rd.items n x.2
      (⟨p.1, x.1⟩ :: y.1, y.2)
end Go.Dm
end

section
/-
  Which lists of items are right trees, as the program and the document ask it. No condition.
-/
namespace Go.Dm
open Go

end Go.Dm
end

section
/-
  Reading: what a reader has left; items as the program and as the document read them. No condition.
-/
namespace Go.Dm
open Go

def Rd.take (r : Rd) : Nd × Bool := if r.node.2.l || !rightNodeR r.node.1 then (⟨0, 0, 0, []⟩, false) else (r.node.1, true)
end Go.Dm
end

section
/-
  Reading a tree: what the program reads and what the document reads is one. No condition.
-/
namespace Go.Dm
open Go

end Go.Dm
end

section
/-
  Changes' bytes: which changes may be, as the document asks it; what is read. No condition beyond times that are words of 64 bits.
-/
namespace Go.Dm
open Go

end Go.Dm
end

section
/-
  Changes' bytes: laid, read; what the program reads and what the document reads is one. No condition beyond times that are words of 64 bits.
-/
namespace Go.Dm
open Go

end Go.Dm
end
