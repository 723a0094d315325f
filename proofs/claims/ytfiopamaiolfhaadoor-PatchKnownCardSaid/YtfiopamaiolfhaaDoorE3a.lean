/-
  Contracts: whether changes are themselves, as the document asks it; an empty node.
-/
import Derived.Test.YtfiopamaiolfhaaDoorD1
import Derived.Test.YtfiopamaiolfhaaDoorSC
set_option linter.unusedSimpArgs false
set_option linter.unusedVariables false
namespace Go.Proofs.YtfiopamaiolfhaaDoor
open Go Go.Dm
set_option maxRecDepth 100000
set_option maxHeartbeats 4000000

theorem zero_c {k m : Int} {t : Nat} {d : List UInt8} : DCalls Tryd.prog 44 [.agg (ndc k m t d)] [] fun r h => r = .c (.p (.b (zeroN ⟨k, m, t, d⟩))) ∧ h = [] := by
  refine ent tabOK hmix Tryd.func44 rfl rfl fun X0 hX => ?_
  simp only [Tryd.ntmps44, Tryd.f44, go_sem]
  repeat' (first | simp (maxSteps := 1000000) only [*, go_sem, Nat.reduceLT, Nat.reduceLeDiff, Nat.reduceEqDiff, ↓reduceIte, Nat.reduceAdd, Nat.reduceSub, Nat.reduceMul, Int.reduceLT, Int.reduceLE, Int.reduceAdd, Int.reduceSub, Int.reduceMul, Int.reduceNeg, Int.reduceToNat, Int.reduceEq, Int.reduceBEq, Int.reduceBNe, Nat.reduceBEq, beq_self_eq_true, bne_self_eq_false] | ((with_reducible refine useF (bits_c _) ?_ ?_ ?_); (focus exact rfl); (focus exact rfl)) | with_reducible refine vcond_split (fun _ => ?_) (fun _ => ?_) | with_reducible refine vg_split (fun _ => ?_) (fun _ => ?_) | ((with_reducible apply DCalls.frz); (focus exact rfl); (focus exact rfl)) | ((with_reducible refine And.intro ?_ ?_); (focus (first | omega | decide | assumption | (simp only [decide_eq_true_eq, decide_eq_false_iff_not] at *; omega)))))
  all_goals first | (simp_all [zeroN]; done) | (simp_all [zeroN]; rw [Bool.eq_iff_iff]; simp)

end Go.Proofs.YtfiopamaiolfhaaDoor
