/-
  The engine, further: nil slices within rows of rows, taken as empty ones. No condition.
-/
import Derived.Test.YtfiopamaiolfhaaDoorVE
set_option linter.unusedSimpArgs false
set_option linter.unusedVariables false
namespace Go.Dm
open Go
def wkQ (x y : PV) : Prop := wkP x y ∨ ∃ k es es', x = .sl k es ∧ y = .sl k es' ∧ wkRows es es'
def wkQs : List PV → List PV → Prop
  | [], [] => True
  | x :: xs, y :: ys => wkQ x y ∧ wkQs xs ys
  | _, _ => False
def wkQRows : List (List PV) → List (List PV) → Prop
  | [], [] => True
  | e :: es, f :: fs => wkQs e f ∧ wkQRows es fs
  | _, _ => False
theorem wkQs.len : ∀ {e f : List PV}, wkQs e f → f.length = e.length
  | [], [], _ => rfl
  | _ :: _, _ :: _, h => by simp [wkQs.len h.2]
  | [], _ :: _, h => h.elim
  | _ :: _, [], h => h.elim
theorem wkQRows.len : ∀ {e f : List (List PV)}, wkQRows e f → f.length = e.length
  | [], [], _ => rfl
  | _ :: _, _ :: _, h => by simp [wkQRows.len h.2]
  | [], _ :: _, h => h.elim
  | _ :: _, [], h => h.elim
theorem relP_wkRows {w : World} {S : Nat → Prop} {k : Nat} {es es' : List (List PV)} (hw : wkRows es es') {v : Value} (hr : RelP w S (.sl k es) v) : RelP w S (.sl k es') v := by
  simp only [RelP] at hr ⊢
  obtain ⟨a, c, h1, h2, h3⟩ := hr
  refine ⟨a, c, by rw [hw.len]; exact h1, by rw [hw.len]; exact h2, ?_⟩
  rcases h3 with h3 | ⟨bl, off, h4, h5, h6⟩
  · left
    subst h3
    exact List.eq_nil_of_length_eq_zero hw.len
  · exact .inr ⟨bl, off, h4, h5, hw.relL h6⟩
theorem wkQ.relP {w : World} {S : Nat → Prop} {x y : PV} {v : Value} (h : wkQ x y) (hr : RelP w S x v) : RelP w S y v := by
  rcases h with h | ⟨k, es, es', rfl, rfl, h⟩
  · exact h.relP hr
  · exact relP_wkRows h hr
theorem wkQs.relE {w : World} {S : Nat → Prop} {bl : Nat} : ∀ {e f : List PV} {off : Nat}, wkQs e f → RelE w S bl off e → RelE w S bl off f
  | [], [], _, _, _ => True.intro
  | _ :: _, _ :: _, _, h, ⟨⟨v, h1, h2⟩, h3⟩ => ⟨⟨v, h1, h.1.relP h2⟩, wkQs.relE h.2 h3⟩
  | [], _ :: _, _, h, _ => h.elim
  | _ :: _, [], _, h, _ => h.elim
theorem wkQRows.relL {w : World} {S : Nat → Prop} {k bl : Nat} : ∀ {e f : List (List PV)} {off : Nat}, wkQRows e f → RelL w S k bl off e → RelL w S k bl off f
  | [], [], _, _, _ => True.intro
  | _ :: _, _ :: _, _, h, ⟨⟨h1, h2⟩, h3⟩ => ⟨⟨h.1.len.trans h1, h.1.relE h2⟩, wkQRows.relL h.2 h3⟩
  | [], _ :: _, _, h, _ => h.elim
  | _ :: _, [], _, h, _ => h.elim
end Go.Dm
