/-
  The engine: a call's proof, what it runs taken as a whole, two results as they stand. No condition.
-/
import Derived.Test.YtfiopamaiolfhabGreatDoorVE
set_option linter.unusedSimpArgs false
set_option linter.unusedVariables false
namespace Go.Dm
open Go

theorem entS2 {P : Program} {T : Tab} {h : DHeap} {f : FuncId} {fn : Func} {c : Code} {args : List DV} {R : DV → DHeap → Prop} (hT : TabOK P T) (hf : P.funcs[f]? = some fn) (hb : fn.body = some c)
    (hc : (Nat.ble args.length fn.ntmps && !(fn.name == "runtime.NumGoroutine")) = true)
    (hs : ∀ X0 : Ctx, X0.h = h → SWP P X0 c ⟨fn.ntmps, frameAt 0 args, h⟩ (vpost2 fn.results.toList R)) : DCalls P f args h R := by
  simp only [Bool.and_eq_true, Bool.not_eq_true'] at hc
  refine dcalls_of_swp hT hf hb (Nat.le_of_ble_eq_true hc.1) hc.2 fun X0 hX => ?_
  rw [frameAt_zip]
  refine swp_mono (hs X0 hX) fun e s hv => ?_
  have key : vres2 s.t s.h R fn.results.toList → dpost T h.length fn.results.toList R .normal s ∧ dpost T h.length fn.results.toList R .ret s := by
    intro hr
    generalize fn.results.toList = rs at hr
    unfold vres2 at hr
    split at hr
    · rename_i i j
      unfold v2 at hr
      split at hr
      · rename_i x y hx hy
        simp only [dpost, dresE, hx, hy, dresD]
        exact ⟨.inl hr, .inl hr⟩
      · exact hr.elim
    · exact hr.elim
  cases e <;> simp only [vpost2] at hv
  case normal => exact (key hv).1
  case ret => exact (key hv).2
end Go.Dm
