/-
  Trees and changes that are the same: just those of the same bytes. No condition beyond times that are words of 64 bits.
-/
import Derived.Test.YtnbgaphhhjnjlaaGreatDoorSD
set_option linter.unusedSimpArgs false
set_option linter.unusedVariables false
namespace Go.Dm
open Go

def sameIt (x y : It) : Bool := x.p == y.p && ndSame x.n y.n
def sameTs : List It → List It → Bool
  | [], [] => true
  | x :: a, y :: b => sameIt x y && sameTs a b
  | _, _ => false
theorem sameTs_drop {a b : List It} {k : Nat} {x y : It} (ha : a[k]? = some x) (hb : b[k]? = some y) : sameTs (a.drop k) (b.drop k) = (sameIt x y && sameTs (a.drop (k + 1)) (b.drop (k + 1))) := by
  obtain ⟨h1, rfl⟩ := List.getElem?_eq_some_iff.1 ha
  obtain ⟨h2, rfl⟩ := List.getElem?_eq_some_iff.1 hb
  rw [List.drop_eq_getElem_cons h1, List.drop_eq_getElem_cons h2, sameTs]
theorem sameTs_len : ∀ {a b : List It}, a.length ≠ b.length → sameTs a b = false
  | [], [], h => absurd rfl h
  | [], _ :: _, _ => rfl
  | _ :: _, [], _ => rfl
  | x :: a, y :: b, h => by
    rw [sameTs, sameTs_len (a := a) (b := b) fun e => h (by simp [e]), Bool.and_false]
theorem sameTs_refl : ∀ {a : List It}, (∀ x ∈ a, x.n.wf) → sameTs a a = true
  | [], _ => rfl
  | x :: a, h => by
    rw [sameTs, sameTs_refl fun y hy => h y (List.mem_cons_of_mem _ hy), sameIt, ndSame_self (h x List.mem_cons_self)]
    simp
/-- A node whose time is as the program lays it. -/
def plainN (n : Nd) : Prop := n.wf ∧ bitsF n.t = n.t
theorem right_plain {n : Nd} (h : rightNodeR n = true) (hw : n.wf) : plainN n := by
  refine ⟨hw, ?_⟩
  unfold rightNodeR at h
  simp only [Bool.and_eq_true, Bool.not_eq_true', Bool.or_eq_false_iff, decide_eq_false_iff_not] at h
  obtain ⟨⟨⟨_, _⟩, h2⟩, _⟩ := h
  rw [Bool.not_eq_false', plainR_eq hw, beq_iff_eq] at h2
  exact h2
theorem OkT.plain {t : List It} (h : OkT t) : ∀ x ∈ t, plainN x.n := fun x hx => by
  obtain ⟨_, _, h3, h4⟩ := h.its x hx
  exact right_plain h3 h4
end Go.Dm
