import Derived.Test.YtnbgaphhhjnjlaaGreatDoorVB
import Derived.Test.YtnbgaphhhjnjlaaGreatDoorVE

section
/-
  The engine: a contract over one box of data with two more arguments. No condition.
-/

set_option linter.unusedSimpArgs false
set_option linter.unusedVariables false
namespace Go.Dm
open Go
theorem useB2 {P : Program} {f : FuncId} {h : DHeap} {i : Nat} {c0 c1 : List CV} {x y : PV} {r : DV} {K : DV → DHeap → Prop}
    (hc : DCalls P f [.c (.ptr 0 0), .c (.p x), .c (.p y)] [.box c0] fun d h' => d = r ∧ h' = [.box c1])
    (h0 : h[i]? = some (.box c0)) (hd : (c0.all datC && (c1.all datC && datD r)) = true) (hk : K r (h.set i (.box c1))) :
    DCalls P f [.c (.ptr i 0), .c (.p x), .c (.p y)] h K := DCalls.box (ps := [x, y]) hc h0 hd hk
end Go.Dm

end

section
/-
  The engine: a loop by an invariant, whose round may end in a row of its own that is taken as data from then on. No condition.
-/

set_option linter.unusedSimpArgs false
set_option linter.unusedVariables false
namespace Go.Dm
open Go
section
variable {P : Program} {T : Tab} {X0 : Ctx} {c : Code} {Q : Exit → DS → Prop}
/-- The loop's picture, or the picture behind a renaming, or with a row in a slot taken as data. -/
def WeakD (n0 : Nat) (s s' : DS) : Prop := WeakR n0 s s' ∨ ∃ i id off len x, look s.t i = .c (.own id off len) ∧ pvOf s.h (.own id off len) = some x ∧ Weak n0 ⟨s.n, (i, .c (.p x)) :: s.t, frzs s.h [id]⟩ s'
theorem WeakD.use {n0 : Nat} {s s' : DS} (h : WeakD n0 s s') {X0 X : Ctx} {a : Act} (hn : X0.h.length = n0) (hh : X.h = s.h) (hi : HInv X) (hs : Step X0 X) (ht : TInv X s a) : ∃ X', X'.w = X.w ∧ X'.h = s'.h ∧ HInv X' ∧ Step X0 X' ∧ TInv X' s' a := by
  rcases h with h | ⟨i, id, off, len, x, hl, hp, hw⟩
  · exact h.use hn hh hi hs ht
  · obtain ⟨X', h1, h2, h3, h4, h5, h6⟩ := freezes [id] hi
    obtain ⟨X2, e1, e2, e3, e4, e5⟩ := hw.use (X := X') hn (by rw [h2, hh]) h5 (hs.trans hi h4) ⟨ht.size, fun j => by
      simp only [look]
      split
      · rename_i hij
        subst hij
        have := ht.rel j
        rw [hl] at this
        simp only [RelD] at this
        simp only [RelD, RelC]
        exact pvOf_rel hi h4 h1 this (by rw [hh]; exact hp) h6
      · exact (ht.rel j).step h4, ht.defs⟩
    exact ⟨X2, e1.trans h1, e2, e3, e4, e5⟩
def qloopD {α : Type} (n0 : Nat) (I : α → DS) (J : α → Prop) (μ : α → Nat) (x : α) (Q : Exit → DS → Prop) : Exit → DS → Prop := fun e s' => match e with
  | .normal => ∃ y, J y ∧ μ y < μ x ∧ WeakD n0 s' (I y)
  | e => Q e s'
theorem loop_renD (hT : TabOK P T) (hm : P.follows .mixedOrders = true) {α : Type} (I : α → DS) (J : α → Prop) (μ : α → Nat) (x0 : α) {s : DS} (hJ : J x0) (hw : WeakD X0.h.length s (I x0))
    (h : ∀ x, J x → vc P T X0 c (I x) (qloopD X0.h.length I J μ x Q)) : SWP P X0 (.loop c) s Q := by
  intro gd X a hh hi hs ht
  obtain ⟨X', h1, h2, h3, h4, h5⟩ := hw.use rfl hh hi hs ht
  rw [← h1]
  refine wp_loop_ghost (fun n a w => ∃ x X, μ x = n ∧ J x ∧ X.w = w ∧ X.h = (I x).h ∧ HInv X ∧ Step X0 X ∧ TInv X (I x) a) (μ x0) ⟨x0, X', rfl, hJ, rfl, h2, h3, h4, h5⟩ ?_
  rintro n a' w' ⟨x, Y, rfl, k1, rfl, k2, k3, k4, k5⟩
  refine wp_mono (vc_sound hT hm c (h x k1) gd Y a' k2 k3 k4 k5) fun e a w hp => ?_
  obtain ⟨s', Z, p1, rfl, p3, p4, p5, p6⟩ := hp
  cases e <;> simp only [Exit.then, qloopD] at p1 ⊢
  case normal =>
    obtain ⟨y, q1, q2, q3⟩ := p1
    obtain ⟨Z', r1, r2, r3, r4, r5⟩ := q3.use rfl p3 p4 p5 p6
    exact ⟨μ y, q2, y, Z', rfl, q1, r1, r2, r3, r4, r5⟩
  all_goals exact ⟨s', Z, p1, rfl, p3, p4, p5, p6⟩
theorem qd_e {α : Type} {n0 : Nat} {I : α → DS} {J : α → Prop} {μ : α → Nat} {x : α} {id : Nat} {s : DS} : qloopD n0 I J μ x Q (.exit id) s = Q (.exit id) s := nr rfl
theorem qd_r {α : Type} {n0 : Nat} {I : α → DS} {J : α → Prop} {μ : α → Nat} {x : α} {s : DS} : qloopD n0 I J μ x Q .ret s = Q .ret s := nr rfl
theorem qd_n {α : Type} {n0 : Nat} {I : α → DS} {J : α → Prop} {μ : α → Nat} {x : α} {s : DS} (y : α) (h1 : J y) (h2 : μ y < μ x) (h3 : Weak n0 s (I y)) : qloopD n0 I J μ x Q .normal s := ⟨y, h1, h2, .inl (.inl h3)⟩
theorem qd_data {α : Type} {n0 : Nat} {I : α → DS} {J : α → Prop} {μ : α → Nat} {x : α} {s : DS} (y : α) (i id off len : Nat) {z : PV} (h1 : J y) (h2 : μ y < μ x) (hl : look s.t i = .c (.own id off len)) (hp : pvOf s.h (.own id off len) = some z)
    (h3 : Weak n0 ⟨s.n, (i, .c (.p z)) :: s.t, frzs s.h [id]⟩ (I y)) : qloopD n0 I J μ x Q .normal s := ⟨y, h1, h2, .inr ⟨i, id, off, len, z, hl, hp, h3⟩⟩
attribute [go_sem] qd_e qd_r
end
end Go.Dm

end
