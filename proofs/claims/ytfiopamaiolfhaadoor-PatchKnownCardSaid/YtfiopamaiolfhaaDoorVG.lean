/-
  The engine, eighth part: two results as they stand; a row that a caller lends and keeps. No condition.
-/
import Derived.Test.YtfiopamaiolfhaaDoorVF
import Derived.Test.YtfiopamaiolfhaaDoorSB
set_option linter.unusedSimpArgs false
set_option linter.unusedVariables false
namespace Go.Dm
open Go

/-- A function's end, two results as they stand in the call's memory. -/
def v2 (h : DHeap) (R : DV → DHeap → Prop) : DV → DV → Prop
  | .c x, .c y => R (.tup [.c x, .c y]) h
  | _, _ => False
def vres2 (t : Fr) (h : DHeap) (R : DV → DHeap → Prop) : List ResultVar → Prop
  | [.tmp i, .tmp j] => v2 h R (look t i) (look t j)
  | _ => False
def vpost2 (rs : List ResultVar) (R : DV → DHeap → Prop) : Exit → DS → Prop
  | .normal, s => vres2 s.t s.h R rs
  | .ret, s => vres2 s.t s.h R rs
  | _, _ => False
theorem vpost2_n {rs : List ResultVar} {R : DV → DHeap → Prop} {s : DS} : vpost2 rs R .normal s = vres2 s.t s.h R rs := nr rfl
theorem vpost2_r {rs : List ResultVar} {R : DV → DHeap → Prop} {s : DS} : vpost2 rs R .ret s = vres2 s.t s.h R rs := nr rfl
theorem vres2_two {t : Fr} {h : DHeap} {R : DV → DHeap → Prop} {i j : Nat} : vres2 t h R [.tmp i, .tmp j] = v2 h R (look t i) (look t j) := nr rfl
theorem v2_c {h : DHeap} {R : DV → DHeap → Prop} {x y : CV} : v2 h R (.c x) (.c y) = R (.tup [.c x, .c y]) h := nr rfl
attribute [go_sem] vpost2_n vpost2_r vres2_two v2_c
theorem wkRows_rel {X : Ctx} {v : Value} {k : Nat} {es es' : List (List PV)} (hw : wkRows es es') (hr : RelD X (.c (.p (.sl k es))) v) : RelD X (.c (.p (.sl k es'))) v := by
  simp only [RelD, RelC, RelP] at hr ⊢
  obtain ⟨a, c, h1, h2, h3⟩ := hr
  refine ⟨a, c, by rw [hw.len]; exact h1, by rw [hw.len]; exact h2, ?_⟩
  rcases h3 with h3 | ⟨bl, off, h4, h5, h6⟩
  · left
    subst h3
    exact List.eq_nil_of_length_eq_zero hw.len
  · exact .inr ⟨bl, off, h4, h5, hw.relL h6⟩
/-- A slot's row, nil within its elements taken as an empty one. -/
theorem swp_slwk {P : Program} {X0 : Ctx} {c : Code} {s : DS} {Q : Exit → DS → Prop} (i : Nat) {k : Nat} {es es' : List (List PV)} (hl : look s.t i = .c (.p (.sl k es))) (hw : wkRows es es')
    (h : SWP P X0 c ⟨s.n, (i, .c (.p (.sl k es'))) :: s.t, s.h⟩ Q) : SWP P X0 c s Q := by
  intro gd X a hh hi hs ht
  refine h gd X a hh hi hs ⟨ht.size, fun j => ?_, ht.defs⟩
  simp only [look]
  split
  · rename_i hij
    subst hij
    have := ht.rel j
    rw [hl] at this
    exact wkRows_rel hw this
  · exact ht.rel j
theorem qj_dataW {P : Program} {X0 : Ctx} {Q : Exit → DS → Prop} {α : Type} {I : α → DS} {J : α → Prop} {s : DS} (y : α) (i id off len k : Nat) {es es' : List (List PV)} (h1 : J y) (hl : look s.t i = .c (.own id off len)) (hp : pvOf s.h (.own id off len) = some (.sl k es)) (hw : wkRows es es')
    (h3 : Weak X0.h.length ⟨s.n, (i, .c (.p (.sl k es'))) :: (i, .c (.p (.sl k es))) :: s.t, frzs s.h [id]⟩ (I y)) : qjoin P X0 I J Q .normal s :=
  ⟨y, h1, fun _ _ h => swp_data i id off len hl hp (swp_slwk i (k := k) (es := es) (by simp [look]) hw (swp_weak h3 h))⟩
/-- Arguments told in a weaker way. -/
theorem DCalls.wkA {P : Program} {f : FuncId} {args args' : List DV} {h : DHeap} {R : DV → DHeap → Prop} (hw : wkDs args args') (hc : DCalls P f args' h R) : DCalls P f args h R :=
  fun X vals hh hi gd hr => hc X vals hh hi gd (wkDs.rel hw hr)
end Go.Dm
