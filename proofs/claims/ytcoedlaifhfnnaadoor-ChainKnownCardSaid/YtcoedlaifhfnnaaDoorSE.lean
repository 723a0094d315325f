/-
  Trees and changes that are the same: just those of the same bytes. No condition beyond times that are words of 64 bits.
-/
import Derived.Test.YtcoedlaifhfnnaaDoorSD
set_option linter.unusedSimpArgs false
set_option linter.unusedVariables false
namespace Go.Dm
open Go

/-- A node whose time is as the program lays it. -/
def plainN (n : Nd) : Prop := n.wf ∧ bitsF n.t = n.t
theorem right_plain {n : Nd} (h : rightNodeR n = true) (hw : n.wf) : plainN n := by
  refine ⟨hw, ?_⟩
  unfold rightNodeR at h
  simp only [Bool.and_eq_true, Bool.not_eq_true', Bool.or_eq_false_iff, decide_eq_false_iff_not] at h
  obtain ⟨⟨⟨_, _⟩, h2⟩, _⟩ := h
  rw [Bool.not_eq_false', plainR_eq hw, beq_iff_eq] at h2
  exact h2
theorem OkT.plain {t : List It} (h : OkT t) : ∀ x ∈ t, plainN x.n := fun x hx => by
  obtain ⟨_, _, h3, h4⟩ := h.its x hx
  exact right_plain h3 h4
end Go.Dm
