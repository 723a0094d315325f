/-
  The engine, sixth part: a nil slice within a box taken as an empty row; a loop's round taken as a whole. No condition.
-/
import Derived.Test.YtfiopamaiolfhaaDoorVB
set_option linter.unusedSimpArgs false
set_option linter.unusedVariables false
namespace Go.Dm
open Go
section
variable {P : Program} {T : Tab} {X0 : Ctx} {Q : Exit → DS → Prop}
theorem swp_vc (hT : TabOK P T) (hm : P.follows .mixedOrders = true) {c : Code} {s : DS} (h : vc P T X0 c s Q) : SWP P X0 c s Q := vc_sound hT hm c h
/-- A loop by an invariant, its round taken as a whole. -/
theorem loop_renS {α : Type} {c : Code} (I : α → DS) (J : α → Prop) (μ : α → Nat) (x0 : α) {s : DS} (hJ : J x0) (hw : WeakR X0.h.length s (I x0))
    (h : ∀ x, J x → SWP P X0 c (I x) (qloopR X0.h.length I J μ x Q)) : SWP P X0 (.loop c) s Q := by
  intro gd X a hh hi hs ht
  obtain ⟨X', h1, h2, h3, h4, h5⟩ := hw.use rfl hh hi hs ht
  rw [← h1]
  refine wp_loop_ghost (fun n a w => ∃ x X, μ x = n ∧ J x ∧ X.w = w ∧ X.h = (I x).h ∧ HInv X ∧ Step X0 X ∧ TInv X (I x) a) (μ x0) ⟨x0, X', rfl, hJ, rfl, h2, h3, h4, h5⟩ ?_
  rintro n a' w' ⟨x, Y, rfl, k1, rfl, k2, k3, k4, k5⟩
  refine wp_mono (h x k1 gd Y a' k2 k3 k4 k5) fun e a w hp => ?_
  obtain ⟨s', Z, p1, rfl, p3, p4, p5, p6⟩ := hp
  cases e <;> simp only [Exit.then, qloopR] at p1 ⊢
  case normal =>
    obtain ⟨y, q1, q2, q3⟩ := p1
    obtain ⟨Z', r1, r2, r3, r4, r5⟩ := q3.use rfl p3 p4 p5 p6
    exact ⟨μ y, q2, y, Z', rfl, q1, r1, r2, r3, r4, r5⟩
  all_goals exact ⟨s', Z, p1, rfl, p3, p4, p5, p6⟩
end
theorem bytesOf_nil : bytesOf [] = some [] := rfl
attribute [go_sem] bytesOf_nil
end Go.Dm
