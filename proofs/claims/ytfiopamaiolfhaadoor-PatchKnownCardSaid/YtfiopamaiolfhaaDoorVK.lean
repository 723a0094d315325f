/-
  The engine, further: nil slices within an own row taken as empty ones. No condition.
-/
import Derived.Test.YtfiopamaiolfhaaDoorVE
import Derived.Test.YtfiopamaiolfhaaDoorVJ
set_option linter.unusedSimpArgs false
set_option linter.unusedVariables false
namespace Go.Dm
open Go
section
variable {P : Program} {T : Tab} {X0 : Ctx} {Q : Exit → DS → Prop}
theorem wkPs_refl : ∀ e : List PV, wkPs e e
  | [] => True.intro
  | _ :: e => ⟨.inl rfl, wkPs_refl e⟩
theorem wkRows_refl : ∀ e : List (List PV), wkRows e e
  | [] => True.intro
  | e :: es => ⟨wkPs_refl e, wkRows_refl es⟩
end
/-- Two rows as arguments, their nil slices taken as empty ones. -/
theorem DCalls.wkR2 {P : Program} {f : FuncId} {k k' : Nat} {es es' fs fs' : List (List PV)} {h : DHeap} {R : DV → DHeap → Prop} (h1 : wkRows es es') (h2 : wkRows fs fs')
    (hc : DCalls P f [.c (.p (.sl k es')), .c (.p (.sl k' fs'))] h R) : DCalls P f [.c (.p (.sl k es)), .c (.p (.sl k' fs))] h R := by
  intro X vals hh hi gd hr
  refine hc X vals hh hi gd ?_
  match vals, hr with
  | [v1, v2], ⟨g1, g2, _⟩ => exact ⟨relP_wkRows h1 g1, relP_wkRows h2 g2, True.intro⟩
end Go.Dm
