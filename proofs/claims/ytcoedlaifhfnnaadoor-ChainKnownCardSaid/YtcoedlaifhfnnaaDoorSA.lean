/-
  Plain words of the first layers: numbers, nodes, paths, and their laws. No condition.
-/
import Derived.Test.YtcoedlaifhfnnaaDoorEB
import Derived.Test.YtcoedlaifhfnnaaDoorVA
set_option linter.unusedSimpArgs false
set_option linter.unusedVariables false

section
/-
  Floats of 64 bits by their order: how two words that are no NaN stand to each other is how their signed rungs do. No condition.
-/
namespace Go.Dm
open Go

end Go.Dm
end

section
/-
  What the functions on numbers compute, in plain words; that the program's order of numbers is the document's. No condition beyond words of 64 bits.
-/
namespace Go.Dm
open Go

def isNaN (x : Nat) : Bool := ford x x != some .eq
def theNaN : Nat := 9221120237041090561
def bitsF (x : Nat) : Nat := if isNaN x then theNaN else x
theorem bitsF_lt {x : Nat} (h : x < 18446744073709551616) : bitsF x < 18446744073709551616 := by
  unfold bitsF; split
  · decide
  · exact h
end Go.Dm
end

section
/-
  What the functions on nodes compute, in plain words. No condition.
-/
namespace Go.Dm
open Go

/-- A node. -/
structure Nd where
  k : Int
  m : Int
  t : Nat
  d : List UInt8
abbrev ndc (k m : Int) (t : Nat) (d : List UInt8) : List CV := [.p (.i .i64 k), .p (.i .i64 m), .p (.f t), .p (.sl 1 (encB d))]
abbrev Nd.cv (x : Nd) : List CV := [.p (.i .i64 x.k), .p (.i .i64 x.m), .p (.f x.t), .p (.sl 1 (encB x.d))]
attribute [go_sem] Nd.cv ndc
theorem nd_eta (x : Nd) : Nd.mk x.k x.m x.t x.d = x := rfl
attribute [go_sem] nd_eta
def Nd.ok (x : Nd) : Prop := x.d.length ≤ 140737488355328
def nd0 : Nd := ⟨0, 0, 0, []⟩
end Go.Dm
end

section
/-
  What the functions that draw nodes compute, in plain words. No condition.
-/
namespace Go.Dm
open Go

def namesL : List (List UInt8) := [[97], [98], [99], [100, 46, 101], [102, 45, 49], [255]]
/-- A raw node. -/
structure RN where
  k : Int
  m : Int
  t : Int
  x : Nat
  d : List UInt8
abbrev rnc (k m t : Int) (x : Nat) (d : List UInt8) : List CV := [.p (.i .i64 k), .p (.i .i64 m), .p (.i .i64 t), .p (.f x), .p (.sl 1 (encB d))]
attribute [go_sem] rnc
end Go.Dm
end

section
/-
  That the program's merge of nodes is the document's. No condition beyond times that are words of 64 bits.
-/
namespace Go.Dm
open Go

def Nd.wf (x : Nd) : Prop := x.t < 18446744073709551616

/-! Nodes that differ by their time alone. -/
end Go.Dm
end

section
/-
  Trees as lists, and what the document's functions on them compute, in plain words. No condition.
-/
namespace Go.Dm
open Go

/-- An item of a tree. -/
structure It where
  p : List UInt8
  n : Nd
def It.cs (x : It) : List PV := [.s x.p, .i .i64 x.n.k, .i .i64 x.n.m, .f x.n.t, .sl 1 (encB x.n.d)]
def encT (t : List It) : List (List PV) := t.map It.cs
theorem encT_len (t : List It) : (encT t).length = t.length := by simp [encT]
theorem encT_nil : encT [] = [] := rfl
theorem encT_app (a b : List It) : encT a ++ encT b = encT (a ++ b) := by simp [encT]
theorem encT_take (a : List It) (n : Nat) : (encT a).take n = encT (a.take n) := by simp [encT]
theorem encT_drop (a : List It) (n : Nat) : (encT a).drop n = encT (a.drop n) := by simp [encT]
theorem encT_one (t : List It) : (∀ x ∈ encT t, x.length = 5) = True := eq_true fun x hx => by
  simp only [encT, List.mem_map] at hx
  obtain ⟨y, _, rfl⟩ := hx
  rfl
theorem encT_at {t : List It} {k : Nat} {x : It} (h : t[k]? = some x) : (encT t).getD k [] = [.s x.p, .i .i64 x.n.k, .i .i64 x.n.m, .f x.n.t, .sl 1 (encB x.n.d)] := by
  simp only [encT, List.getD_eq_getElem?_getD, List.getElem?_map, h]
  rfl
theorem encT_snoc (t : List It) (p : List UInt8) (k m : Int) (tt : Nat) (d : List UInt8) : encT t ++ [[.s p, .i .i64 k, .i .i64 m, .f tt, .sl 1 (encB d)]] = encT (t ++ [⟨p, ⟨k, m, tt, d⟩⟩]) := by simp [encT, It.cs]
theorem it_eta (x : It) : It.mk x.p x.n = x := rfl
attribute [go_sem] encT_len encT_nil encT_app encT_take encT_drop encT_one encT_snoc it_eta Nat.sub_zero
theorem drop_at {α : Type} {l : List α} {k : Nat} {x : α} (h : l[k]? = some x) : l.drop k = x :: l.drop (k + 1) := by
  have := List.getElem?_eq_some_iff.1 h
  obtain ⟨h1, h2⟩ := this
  rw [← h2]; exact List.drop_eq_getElem_cons h1

def belowR (p q : List UInt8) : Bool := if p == [] then !(q == []) else (decide ((q.length : Int) > p.length + 1) && q.take (p.length + 1) == p ++ [47]) || (decide ((q.length : Int) = p.length + 1) && q == p ++ [47])
def noneBelow (t : List It) (p : List UInt8) : List It := t.filter fun x => !belowR p x.p

/-! Paths. -/
def lastSlash (p : List UInt8) : Nat → Option Nat
  | 0 => none
  | j + 1 => if ((p.getD j 0).toNat : Int) == 47 then some j else lastSlash p j
def dirOfR (p : List UInt8) : List UInt8 := match lastSlash p p.length with
  | some j => p.take j
  | none => []
def okByte (b : UInt8) : Bool := !(((b.toNat : Int) == 0) || ((b.toNat : Int) == 47))
def rightNameR (s : List UInt8) : Bool := s.all okByte && (decide ((1 : Int) ≤ s.length) && decide ((s.length : Int) ≤ 24) && !(s == [46]) && !(s == [46, 46]))
def cutL : List UInt8 → List UInt8 → List (List UInt8)
  | w, [] => [w]
  | w, b :: r => if ((b.toNat : Int) == 47) then w :: cutL [] r else cutL (w ++ [b]) r
def cutR (s : List UInt8) : List (List UInt8) := cutL [] s
def isPathR (p : List UInt8) : Bool := p == [] || ((cutR p).all rightNameR && decide ((p.length : Int) ≤ 120))
def encS (l : List (List UInt8)) : List (List PV) := l.map fun s => [.s s]
theorem encS_len (t : List (List UInt8)) : (encS t).length = t.length := by simp [encS]
theorem encS_nil : encS [] = [] := rfl
theorem encS_app (a b : List (List UInt8)) : encS a ++ encS b = encS (a ++ b) := by simp [encS]
theorem encS_take (a : List (List UInt8)) (n : Nat) : (encS a).take n = encS (a.take n) := by simp [encS]
theorem encS_drop (a : List (List UInt8)) (n : Nat) : (encS a).drop n = encS (a.drop n) := by simp [encS]
theorem encS_one (t : List (List UInt8)) : (∀ x ∈ encS t, x.length = 1) = True := eq_true fun x hx => by
  simp only [encS, List.mem_map] at hx
  obtain ⟨y, _, rfl⟩ := hx
  rfl
theorem encS_at {t : List (List UInt8)} {k : Nat} {x : List UInt8} (h : t[k]? = some x) : (encS t).getD k [] = [.s x] := by
  simp only [encS, List.getD_eq_getElem?_getD, List.getElem?_map, h]
  rfl
theorem encS_snoc (t : List (List UInt8)) (p : List UInt8) : encS t ++ [[.s p]] = encS (t ++ [p]) := by simp [encS]
attribute [go_sem] encS_len encS_nil encS_app encS_take encS_drop encS_one encS_snoc
theorem cutL_len : ∀ (s w : List UInt8), (cutL w s).length ≤ s.length + 1
  | [], w => by simp [cutL]
  | b :: r, w => by
    simp only [cutL]
    split
    · have := cutL_len r []; simp; omega
    · have := cutL_len r (w ++ [b]); simp; omega
theorem cutL_mem : ∀ (s w : List UInt8) (x : List UInt8), x ∈ cutL w s → x.length ≤ w.length + s.length
  | [], w, x, h => by simp [cutL] at h; subst h; simp
  | b :: r, w, x, h => by
    simp only [cutL] at h
    split at h
    · rcases List.mem_cons.1 h with rfl | h
      · simp
      · have := cutL_mem r [] x h; simp at this ⊢; omega
    · have := cutL_mem r (w ++ [b]) x h; simp at this ⊢; omega

/-! Trees. -/
def getR : List It → List UInt8 → Option Nd
  | [], _ => none
  | x :: r, p => if x.p == p then some x.n else getR r p
def isDirR (t : List It) (p : List UInt8) : Bool := p == [] || (match getR t p with
  | some n => n.k == 2
  | none => false)
def setL (p : List UInt8) (n : Nd) : Bool → List It → List It
  | done, [] => if done then [] else [⟨p, n⟩]
  | done, x :: r => (if !done && !bltL x.p p then [⟨p, n⟩] else []) ++ ((if !(x.p == p) then [x] else []) ++ setL p n (done || !bltL x.p p) r)
def setR (t : List It) (p : List UInt8) (n : Nd) : List It := setL p n false t
def dropR (t : List It) (p : List UInt8) : List It := t.filter fun x => !(x.p == p)
def removeR (t : List It) (p : List UInt8) : List It := dropR (noneBelow t p) p
def targetR (b : List UInt8) : Bool := b.all (fun b => !((b.toNat : Int) == 0)) && (decide ((1 : Int) ≤ b.length) && decide ((b.length : Int) ≤ 120))

/-! Numbers given by figures; bytes of a number. -/
theorem wrap_u8_lo (z : Int) : (0 ≤ IntKind.u8.wrap z) = True := eq_true (by
  simp only [IntKind.wrap, IntKind.bits, IntKind.signed, Bool.false_and]
  split <;> rename_i h
  · simp at h
  · exact Int.emod_nonneg _ (by decide))
theorem wrap_u8_hi (z : Int) : (IntKind.u8.wrap z ≤ 255) = True := eq_true (by
  simp only [IntKind.wrap, IntKind.bits, IntKind.signed, Bool.false_and]
  split <;> rename_i h
  · simp at h
  · have := Int.emod_lt_of_pos z (show (0 : Int) < 2 ^ 8 by decide); omega)
attribute [go_sem] wrap_u8_lo wrap_u8_hi
def byteF (x : Nat) (k : Nat) : UInt8 := UInt8.ofNat (IntKind.u8.wrap ((x : Int).fdiv (2 ^ k))).toNat
def bytesF (x : Nat) : List UInt8 := [byteF x 56, byteF x 48, byteF x 40, byteF x 32, byteF x 24, byteF x 16, byteF x 8, byteF x 0]
def plainR (x : Nat) : Bool := bytesF x == bytesF (bitsF x)
def rightNodeR (n : Nd) : Bool := !(decide (n.m < 0) || decide (4095 < n.m) || !plainR n.t) && (if n.k == 1 then decide ((n.d.length : Int) ≤ 2000) else if n.k == 2 then (n.d.length : Int) == 0 else if n.k == 3 then targetR n.d else false)
def putR (t : List It) (p : List UInt8) (n : Nd) : List It × Int :=
  if p == [] || !isPathR p || !rightNodeR n then ([], 1) else if !isDirR t (dirOfR p) then ([], 9)
  else if decide ((120 : Int) < (setR (if n.k != 2 then noneBelow t p else t) p n).length) then ([], 16) else (setR (if n.k != 2 then noneBelow t p else t) p n, 0)
theorem setL_len (p : List UInt8) (n : Nd) : ∀ (t : List It) (d : Bool), (setL p n d t).length ≤ t.length + (if d then 0 else 1)
  | [], d => by cases d <;> simp [setL]
  | x :: r, d => by
    have h := setL_len p n r (d || !bltL x.p p)
    simp only [setL, List.length_append, List.length_cons]
    cases d <;> cases hb : bltL x.p p <;> cases hp : x.p == p <;> simp [hb] at h ⊢ <;> omega
theorem setR_len (t : List It) (p : List UInt8) (n : Nd) : (setR t p n).length ≤ t.length + 1 := setL_len p n t false
def moveL (a b : List UInt8) : List It → List It → List It × Int
  | out, [] => (out, 0)
  | out, x :: r => if !(x.p == a) && !belowR a x.p then moveL a b out r else if decide ((120 : Int) < (b.length + (x.p.drop a.length).length : Nat)) then ([], 12) else moveL a b (setR out (b ++ x.p.drop a.length) x.n) r
def moveR (t : List It) (a b : List UInt8) : List It × Int :=
  if a == [] || b == [] || !isPathR a || !isPathR b then ([], 1) else if !(getR t a).isSome then ([], 6) else if belowR a b then ([], 18) else if (getR t b).isSome then ([], 7) else if !isDirR t (dirOfR b) then ([], 9) else moveL a b (removeR t a) t
theorem belowR_len {a q : List UInt8} (h : belowR a q = true) : a.length ≤ q.length := by
  unfold belowR at h
  split at h
  · rename_i h1; have h1 := eq_of_beq h1; subst h1; simp
  · simp only [Bool.or_eq_true, Bool.and_eq_true, decide_eq_true_eq] at h
    omega

/-! A function without results: all that it made stays. -/
def vpostK (R : DV → DHeap → Prop) : Exit → DS → Prop
  | .normal, s => R (.tup []) s.h
  | .ret, s => R (.tup []) s.h
  | _, _ => False
theorem vpostK_n {R : DV → DHeap → Prop} {s : DS} : vpostK R .normal s = R (.tup []) s.h := nr rfl
theorem vpostK_r {R : DV → DHeap → Prop} {s : DS} : vpostK R .ret s = R (.tup []) s.h := nr rfl
attribute [go_sem] vpostK_n vpostK_r
end Go.Dm
end
