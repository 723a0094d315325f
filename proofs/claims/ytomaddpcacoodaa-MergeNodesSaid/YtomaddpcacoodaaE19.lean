/-
  The engine, part 19: stepping rules for regions whose order is drawn; results told in a weaker way. No condition: consequences of the parts before.
-/
import Derived.Test.YtomaddpcacoodaaE18
set_option linter.unusedSimpArgs false
set_option linter.unusedVariables false
namespace Go.Dm
open Go

section
variable {P : Program} {T : Tab} {X0 : Ctx} {ops : Array Oper} {n : Nat} {chain : List Nat} {K : DS → Prop}

theorem dseq_nil {t : Fr} {h : DHeap} {old : List DHeap} (hk : K ⟨n, t, h⟩) : dseq P T ops n chain K [] t (h :: old) := by
  intro h' old' e
  cases e
  exact hk
theorem dseq_read {i : Nat} {rest : List Nat} {t : Fr} {h : DHeap} {old : List DHeap} {o : Oper} (v : DV) (ho : ops[i]? = some o) (hc : chain.contains i = false) (h1 : One P T ops n o t h v h)
    (h2 : ∀ h0 ∈ old.take (old.length - loOf ops chain i), One P T ops n o t h0 v h0) (h3 : dseq P T ops n chain K rest (putF t o.dst v) (h :: old)) : dseq P T ops n chain K (i :: rest) t (h :: old) := by
  refine ⟨o, h, old, ho, rfl, ?_⟩
  rw [if_neg (by rw [hc]; simp)]
  exact ⟨v, h1, h2, h3⟩
theorem dseq_do {i : Nat} {rest : List Nat} {t : Fr} {h : DHeap} {old : List DHeap} {o : Oper} (v : DV) (h' : DHeap) (ho : ops[i]? = some o) (hc : chain.contains i = true) (h1 : One P T ops n o t h v h')
    (h3 : dseq P T ops n chain K rest (putF t o.dst v) (h' :: h :: old)) : dseq P T ops n chain K (i :: rest) t (h :: old) := by
  refine ⟨o, h, old, ho, rfl, ?_⟩
  rw [if_pos hc]
  exact ⟨v, h', h1, h3⟩

theorem one_k {o : Oper} {t : Fr} {h h' : DHeap} {v : DV} (hk : ∀ K : DS → Prop, (∀ s', (s'.h = h' ∧ res s' o.dst = v) → K s') → dops P T ops [o] ⟨n, keep (o.looksAt ops) t, h⟩ K) : One P T ops n o t h v h' := hk _ fun _ h => h

/-- A drawn region, what follows kept under a name. -/
theorem swp_seq_drawn (hT : TabOK P T) (hm : P.follows .mixedOrders = true) {s : DS} {Q : Exit → DS → Prop} {id : Nat} {ops : Array Oper} {y : Code} (chain order : List Nat) (hp : planOK ops s.n chain order = true)
    (h : ∀ K : DS → Prop, (∀ s', SWP P X0 y s' Q → K s') → dseq P T ops s.n chain K order s.t [s.h]) : SWP P X0 (.seq (.region id ops true) y) s Q :=
  swp_seq (swp_drawn hT hm chain order hp (h _ fun _ h => h))
theorem swp_drawn_k (hT : TabOK P T) (hm : P.follows .mixedOrders = true) {s : DS} {Q : Exit → DS → Prop} {id : Nat} {ops : Array Oper} (chain order : List Nat) (hp : planOK ops s.n chain order = true)
    (h : ∀ K : DS → Prop, (∀ s', Q .normal s' → K s') → dseq P T ops s.n chain K order s.t [s.h]) : SWP P X0 (.region id ops true) s Q :=
  swp_drawn hT hm chain order hp (h _ fun _ h => h)

end
end Go.Dm
