/-
  Bytes of trees and of changes: plain laws. No condition.
-/
import Derived.Test.YtcoedlaifhfnnaaDoorSC
set_option linter.unusedSimpArgs false
set_option linter.unusedVariables false

section
/-
  Numbers as bytes, the highest first; a node's bytes. No condition.
-/
namespace Go.Dm
open Go

/-! Bytes read as numbers. -/
def natOf (b : List UInt8) : Nat := b.foldl (fun v c => v * 256 + c.toNat) 0
/-- What a reader has left, and whether something was taken beyond the end. -/
structure Rd where
  b : List UInt8
  l : Bool
def Rd.raw (r : Rd) (n : Nat) : List UInt8 × Rd := if r.l || decide (r.b.length < n) then ([], ⟨[], true⟩) else (r.b.take n, ⟨r.b.drop n, false⟩)
def Rd.num (r : Rd) (n : Nat) : Nat × Rd := (natOf (r.raw n).1, (r.raw n).2)
def Rd.text (r : Rd) : List UInt8 × Rd := (r.num 2).2.raw (r.num 2).1
def Rd.node (r : Rd) : Nd × Rd :=
  let k := r.num 1
  let m := k.2.num 2
  let t := m.2.num 8
  let d := t.2.text
  (⟨k.1, m.1, t.1, d.1⟩, d.2)
/-- Items read one behind the other. -/
def Rd.items : Nat → Rd → List It × Rd
  | 0, r => ([], r)
  | n + 1, r =>
    if r.l then ([], r) else
      let p := r.text
      let x := p.2.node
      let y := Rd.items n x.2
      (⟨p.1, x.1⟩ :: y.1, y.2)
end Go.Dm
end

section
/-
  Which lists of items are right trees, as the program and the document ask it. No condition.
-/
namespace Go.Dm
open Go

def aheadT (pre : List It) (p : List UInt8) : Bool := match pre.getLast? with
  | some y => bltL y.p p
  | none => true
def rightStep (pre : List It) (x : It) : Bool := !(x.p == []) && (isPathR x.p && (aheadT pre x.p && (rightNodeR x.n && isDirR pre (dirOfR x.p))))
def rightGo : List It → List It → Bool
  | _, [] => true
  | pre, x :: r => rightStep pre x && rightGo (pre ++ [x]) r
def rightT (t : List It) : Bool := rightGo [] t && decide ((t.length : Int) ≤ 120)
theorem getLast_take {t : List It} {k : Nat} (hk : 0 < k) (hl : k ≤ t.length) : (t.take k).getLast? = t[k - 1]? := by
  rw [List.getLast?_eq_getElem?, List.length_take, Nat.min_eq_left hl, List.getElem?_take, if_pos (by omega)]
theorem srt_snoc {t : List It} {x : It} (h : Srt t) (ha : aheadT t x.p = true) : Srt (t ++ [x]) := by
  refine List.pairwise_append.2 ⟨h, by simp, fun y hy z hz => ?_⟩
  have : z = x := by simpa using hz
  subst this
  unfold aheadT at ha
  cases hl : t.getLast? with
  | none =>
    have : t = [] := by simpa using hl
    subst this; cases hy
  | some w =>
    rw [hl] at ha
    simp only at ha
    obtain ⟨s, rfl⟩ := List.getLast?_eq_some_iff.1 hl
    rcases List.mem_append.1 hy with hy | hy
    · have := (List.pairwise_append.1 h).2.2 y hy w (by simp)
      exact blt_trans this ha
    · have : y = w := by simpa using hy
      rw [this]; exact ha
/-- A list that is right in this sense is a right tree. -/
theorem rightGo_ok : ∀ {r pre : List It}, Srt pre → (∀ x ∈ pre, OkI x) → (∀ x ∈ r, x.n.t < 18446744073709551616) → (∀ x ∈ pre, isDirR pre (dirOfR x.p) = true) → rightGo pre r = true → Srt (pre ++ r) ∧ (∀ x ∈ pre ++ r, OkI x) ∧ ∀ x ∈ pre ++ r, isDirR (pre ++ r) (dirOfR x.p) = true
  | [], pre, hs, ho, _, hp, _ => by rw [List.append_nil]; exact ⟨hs, ho, hp⟩
  | x :: r, pre, hs, ho, ht, hp, h => by
    rw [rightGo, Bool.and_eq_true] at h
    obtain ⟨h1, h2⟩ := h
    simp only [rightStep, Bool.and_eq_true, Bool.not_eq_true'] at h1
    obtain ⟨a1, a2, a3, a4, a5⟩ := h1
    have hs2 : Srt (pre ++ [x]) := srt_snoc hs a3
    have up : ∀ p, isDirR pre p = true → isDirR (pre ++ [x]) p = true := by
      intro p hd
      by_cases hp0 : p = []
      · subst hp0; rfl
      · obtain ⟨m, k1, k2⟩ := isDir_some hp0 hd
        obtain ⟨y, hy, hyp, hyn⟩ := getR_mem k1
        have := getR_self hs2 (List.mem_append_left [x] hy)
        rw [hyp] at this
        exact isDir_mk this (by rw [hyn]; exact k2)
    have := rightGo_ok (r := r) (pre := pre ++ [x]) hs2 (fun y hy => by
      rcases List.mem_append.1 hy with hy | hy
      · exact ho y hy
      · have : y = x := by simpa using hy
        subst this
        exact ⟨by simpa using a1, a2, a4, ht y List.mem_cons_self⟩) (fun y hy => ht y (List.mem_cons_of_mem _ hy)) (fun y hy => by
      rcases List.mem_append.1 hy with hy | hy
      · exact up _ (hp y hy)
      · have : y = x := by simpa using hy
        subst this; exact up _ a5) h2
    rw [List.append_assoc] at this
    exact this
theorem rightT_ok {t : List It} (ht : ∀ x ∈ t, x.n.t < 18446744073709551616) (h : rightT t = true) : OkT t := by
  unfold rightT at h
  rw [Bool.and_eq_true, decide_eq_true_eq] at h
  obtain ⟨h1, h2⟩ := h
  have := rightGo_ok (r := t) (pre := []) List.Pairwise.nil (fun x hx => by cases hx) ht (fun x hx => by cases hx) h1
  rw [List.nil_append] at this
  exact ⟨⟨this.1, this.2.1, by omega⟩, this.2.2⟩
end Go.Dm
end

section
/-
  Reading: what a reader has left; items as the program and as the document read them. No condition.
-/
namespace Go.Dm
open Go

def Rd.take (r : Rd) : Nd × Bool := if r.node.2.l || !rightNodeR r.node.1 then (⟨0, 0, 0, []⟩, false) else (r.node.1, true)
end Go.Dm
end

section
/-
  Reading a tree: what the program reads and what the document reads is one. No condition.
-/
namespace Go.Dm
open Go

end Go.Dm
end

section
/-
  Changes' bytes: which changes may be, as the document asks it; what is read. No condition beyond times that are words of 64 bits.
-/
namespace Go.Dm
open Go

end Go.Dm
end

section
/-
  Changes' bytes: laid, read; what the program reads and what the document reads is one. No condition beyond times that are words of 64 bits.
-/
namespace Go.Dm
open Go

end Go.Dm
end
