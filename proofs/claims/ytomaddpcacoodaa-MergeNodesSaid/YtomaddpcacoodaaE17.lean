/-
  The engine, part 17: the rules by which a body is gone through, one operation at a time. No condition: consequences of the parts before.
-/
import Derived.Test.YtomaddpcacoodaaE16
set_option linter.unusedSimpArgs false
set_option linter.unusedVariables false
namespace Go.Dm
open Go

section step
variable {P : Program} {T : Tab} {X0 : Ctx}

theorem dops_nil {ops : Array Oper} {s : DS} {K : DS → Prop} (h : K s) : dops P T ops [] s K := h

theorem dops_some {ops : Array Oper} {rest : List Oper} {i : Nat} {op : Op} {ty : TypeId} {pos : String} {after : Array Edge} {n : Nat} {t : Fr} {h : DHeap} {K : DS → Prop} (hi : i < n)
    (H : ∀ K' : DV → DHeap → Prop, (∀ d h', dops P T ops rest ⟨n, (i, d) :: t, h'⟩ K → K' d h') → dop P T op t h K') : dops P T ops ({ dst := some i, op := op, type := ty, pos := pos, after := after, guard := none } :: rest) ⟨n, t, h⟩ K := by
  show dop P T op t h fun d h' => dops P T ops rest (DS.put ⟨n, t, h⟩ (some i) d h') K
  exact H _ fun d h' hd => by simp only [DS.put]; rw [if_pos hi]; exact hd

theorem dops_none {ops : Array Oper} {rest : List Oper} {op : Op} {ty : TypeId} {pos : String} {after : Array Edge} {n : Nat} {t : Fr} {h : DHeap} {K : DS → Prop}
    (H : ∀ K' : DV → DHeap → Prop, (∀ d h', dops P T ops rest ⟨n, t, h'⟩ K → K' d h') → dop P T op t h K') : dops P T ops ({ dst := none, op := op, type := ty, pos := pos, after := after, guard := none } :: rest) ⟨n, t, h⟩ K := by
  show dop P T op t h fun d h' => dops P T ops rest (DS.put ⟨n, t, h⟩ none d h') K
  exact H _ fun d h' hd => hd

/-- A guarded operation whose guard holds. -/
theorem dops_yes {ops : Array Oper} {rest : List Oper} {i j : Nat} {b : Bool} {op : Op} {ty : TypeId} {pos : String} {after : Array Edge} {n : Nat} {t : Fr} {h : DHeap} {K : DS → Prop} (hi : i < n)
    (hg : ((ops[j]?).bind (·.dst)).map (fun i => look t i) = some (.c (.p (.b b))))
    (H : ∀ K' : DV → DHeap → Prop, (∀ d h', dops P T ops rest ⟨n, (i, d) :: t, h'⟩ K → K' d h') → dop P T op t h K') : dops P T ops ({ dst := some i, op := op, type := ty, pos := pos, after := after, guard := some (j, b) } :: rest) ⟨n, t, h⟩ K := by
  simp only [dops, hg]
  refine ⟨fun _ => H _ fun d h' hd => ?_, fun hne => absurd rfl hne⟩
  simp only [DS.put]; rw [if_pos hi]; exact hd
/-- A guarded operation whose guard does not hold. -/
theorem dops_no {ops : Array Oper} {rest : List Oper} {i j : Nat} {b c : Bool} {op : Op} {ty : TypeId} {pos : String} {after : Array Edge} {n : Nat} {t : Fr} {h : DHeap} {K : DS → Prop} (hi : i < n)
    (hg : ((ops[j]?).bind (·.dst)).map (fun i => look t i) = some (.c (.p (.b c)))) (hne : (c == b) = false)
    (H : dops P T ops rest ⟨n, (i, .tup []) :: t, h⟩ K) : dops P T ops ({ dst := some i, op := op, type := ty, pos := pos, after := after, guard := some (j, b) } :: rest) ⟨n, t, h⟩ K := by
  simp only [dops, hg]
  refine ⟨fun he => by subst he; simp at hne, fun _ => ?_⟩
  simp only [DS.put]; rw [if_pos hi]; exact H
/-- A guarded operation whose guard was itself passed by. -/
theorem dops_pass {ops : Array Oper} {rest : List Oper} {i j : Nat} {b : Bool} {op : Op} {ty : TypeId} {pos : String} {after : Array Edge} {n : Nat} {t : Fr} {h : DHeap} {K : DS → Prop} (hi : i < n)
    (hg : ((ops[j]?).bind (·.dst)).map (fun i => look t i) = some (.tup []))
    (H : dops P T ops rest ⟨n, (i, .tup []) :: t, h⟩ K) : dops P T ops ({ dst := some i, op := op, type := ty, pos := pos, after := after, guard := some (j, b) } :: rest) ⟨n, t, h⟩ K := by
  simp only [dops, hg]
  simp only [DS.put]; rw [if_pos hi]; exact H

/-- A guard that is not decided yet: both ways. -/
theorem dops_split {ops : Array Oper} {rest : List Oper} {dst : Option Tmp} {j : Nat} {b v : Bool} {op : Op} {ty : TypeId} {pos : String} {after : Array Edge} {n : Nat} {t : Fr} {h : DHeap} {K : DS → Prop}
    (_hg : ((ops[j]?).bind (·.dst)).map (fun i => look t i) = some (.c (.p (.b v))))
    (h1 : v = true → dops P T ops ({ dst := dst, op := op, type := ty, pos := pos, after := after, guard := some (j, b) } :: rest) ⟨n, t, h⟩ K)
    (h2 : v = false → dops P T ops ({ dst := dst, op := op, type := ty, pos := pos, after := after, guard := some (j, b) } :: rest) ⟨n, t, h⟩ K) :
    dops P T ops ({ dst := dst, op := op, type := ty, pos := pos, after := after, guard := some (j, b) } :: rest) ⟨n, t, h⟩ K := by
  cases v
  · exact h2 rfl
  · exact h1 rfl

/-- A region, what follows kept under a name. -/
theorem swp_seq_region (hT : TabOK P T) {s : DS} {Q : Exit → DS → Prop} {id : Nat} {l : List Oper} {y : Code} (h : ∀ K : DS → Prop, (∀ s', SWP P X0 y s' Q → K s') → dops P T l.toArray l s K) : SWP P X0 (.seq (.region id l.toArray false) y) s Q :=
  swp_seq (swp_region hT (h _ fun _ h => h))
theorem swp_region_k (hT : TabOK P T) {s : DS} {Q : Exit → DS → Prop} {id : Nat} {l : List Oper} (h : ∀ K : DS → Prop, (∀ s', Q .normal s' → K s') → dops P T l.toArray l s K) : SWP P X0 (.region id l.toArray false) s Q :=
  swp_region hT (h _ fun _ h => h)

end step

theorem look_cons (j : Nat) (d : DV) (t : Fr) (i : Nat) : look ((j, d) :: t) i = if i = j then d else look t i := rfl
theorem evD_tmp (t : Fr) (i : Nat) : evD t (.tmp i) = look t i := rfl
theorem evD_const (t : Fr) (v : Value) : evD t (.const v) = constD v := rfl
theorem evD_func (t : Fr) (f : FuncId) : evD t (.func f) = .c (.clo f []) := rfl
theorem at_zero {α : Type} (x : α) (l : List α) : (x :: l)[0]? = some x := rfl
theorem at_succ {α : Type} (x : α) (l : List α) (n : Nat) : (x :: l)[n + 1]? = l[n]? := rfl

/-! Ways out of a piece of code, one rule each. -/
def qseq (P : Program) (X0 : Ctx) (y : Code) (Q : Exit → DS → Prop) : Exit → DS → Prop := fun e s' => match e with
  | .normal => SWP P X0 y s' Q
  | e => Q e s'
def qblock (id : Nat) (Q : Exit → DS → Prop) : Exit → DS → Prop := fun e s' => match e with
  | .exit id' => if id' = id then Q .normal s' else Q (.exit id') s'
  | e => Q e s'
/-- Behind a round of a loop: less left to do, and the loop's picture again; or out of the loop. -/
def qloop {α : Type} (n0 : Nat) (I : α → DS) (J : α → Prop) (μ : α → Nat) (x : α) (Q : Exit → DS → Prop) : Exit → DS → Prop := fun e s' => match e with
  | .normal => ∃ y, J y ∧ μ y < μ x ∧ Weak n0 s' (I y)
  | e => Q e s'

section ways
variable {P : Program} {T : Tab} {X0 : Ctx} {Q : Exit → DS → Prop} {s : DS}
theorem go_seq {x y : Code} (h : SWP P X0 x s (qseq P X0 y Q)) : SWP P X0 (.seq x y) s Q := swp_seq h
theorem go_block {id : Nat} {c : Code} (h : SWP P X0 c s (qblock id Q)) : SWP P X0 (.block id c) s Q := swp_block h
theorem go_cond_t {c : Operand} {x y : Code} (hc : evD s.t c = .c (.p (.b true))) (h : SWP P X0 x s Q) : SWP P X0 (.cond c x y) s Q := swp_cond hc (fun _ => h) (fun e => by cases e)
theorem go_cond_f {c : Operand} {x y : Code} (hc : evD s.t c = .c (.p (.b false))) (h : SWP P X0 y s Q) : SWP P X0 (.cond c x y) s Q := swp_cond hc (fun e => by cases e) (fun _ => h)
theorem qseq_n {y : Code} (h : SWP P X0 y s Q) : qseq P X0 y Q .normal s := h
theorem qseq_e {y : Code} {id : Nat} (h : Q (.exit id) s) : qseq P X0 y Q (.exit id) s := h
theorem qseq_r {y : Code} (h : Q .ret s) : qseq P X0 y Q .ret s := h
theorem qblock_n {id : Nat} (h : Q .normal s) : qblock id Q .normal s := h
theorem qblock_r {id : Nat} (h : Q .ret s) : qblock id Q .ret s := h
theorem qblock_hit {id : Nat} (h : Q .normal s) : qblock id Q (.exit id) s := by show (if _ then _ else _); rw [if_pos rfl]; exact h
theorem qblock_miss {id id' : Nat} (hn : (id' == id) = false) (h : Q (.exit id') s) : qblock id Q (.exit id') s := by
  show (if _ then _ else _); rw [if_neg (fun e => by subst e; simp at hn)]; exact h
theorem qloop_e {α : Type} {n0 : Nat} {I : α → DS} {J : α → Prop} {μ : α → Nat} {x : α} {id : Nat} (h : Q (.exit id) s) : qloop n0 I J μ x Q (.exit id) s := h
theorem qloop_r {α : Type} {n0 : Nat} {I : α → DS} {J : α → Prop} {μ : α → Nat} {x : α} (h : Q .ret s) : qloop n0 I J μ x Q .ret s := h
theorem qloop_n {α : Type} {n0 : Nat} {I : α → DS} {J : α → Prop} {μ : α → Nat} {x : α} (y : α) (h1 : J y) (h2 : μ y < μ x) (h3 : Weak n0 s (I y)) : qloop n0 I J μ x Q .normal s := ⟨y, h1, h2, h3⟩
theorem go_loop {α : Type} {c : Code} (I : α → DS) (J : α → Prop) (μ : α → Nat) (x0 : α) (hJ : J x0) (hw : Weak X0.h.length s (I x0)) (h : ∀ x, J x → SWP P X0 c (I x) (qloop X0.h.length I J μ x Q)) : SWP P X0 (.loop c) s Q :=
  swp_loop I J μ x0 hJ hw h
end ways

end Go.Dm
