/-
  Contracts of the functions on nodes.
-/
import Derived.Test.YtomaddpcacoodaaGreatDoorC2
import Derived.Test.YtomaddpcacoodaaGreatDoorSA
set_option linter.unusedSimpArgs false
set_option linter.unusedVariables false
namespace Go.Proofs.YtomaddpcacoodaaGreatDoor
open Go Go.Dm
set_option maxRecDepth 100000
set_option maxHeartbeats 4000000

theorem bytesEqual_c {a b : List UInt8} : DCalls Tryz.prog 169 [.c (.p (.sl 1 (encB a))), .c (.p (.sl 1 (encB b)))] [] fun d h => d = .c (.p (.b (a == b))) ∧ h = [] := by
  refine ent tabOK hmix Tryz.func169 rfl rfl fun X0 hX => ?_
  simp only [Tryz.ntmps169, Tryz.f169, go_sem]
  repeat' (first | simp only [*, go_sem, Nat.reduceLT, Nat.reduceLeDiff, Nat.reduceEqDiff, ↓reduceIte, Nat.reduceAdd, Nat.reduceSub, Nat.reduceMul, Int.reduceLT, Int.reduceLE, Int.reduceAdd, Int.reduceSub, Int.reduceMul, Int.reduceNeg, Int.reduceToNat, Int.reduceEq, Int.reduceBEq, Int.reduceBNe, Nat.reduceBEq, beq_self_eq_true, bne_self_eq_false] | with_reducible refine vcond_split (fun _ => ?_) (fun _ => ?_) | with_reducible refine vg_split (fun _ => ?_) (fun _ => ?_) | ((with_reducible apply DCalls.frz); (focus exact rfl); (focus exact rfl)) | ((with_reducible refine And.intro ?_ ?_); (focus (first | omega | decide | assumption | (simp only [decide_eq_true_eq, decide_eq_false_iff_not] at *; omega)))))
  all_goals (first | (with_reducible rfl) | (simp_all []; done) | (simp_all []; omega) | (simp_all []; (repeat' split) <;> omega))

theorem clone_c {a : List UInt8} (ha : a.length ≤ 140737488355328) : DCalls Tryz.prog 124 [.c (.p (.sl 1 (encB a)))] [] fun d h => d = .c (.p (.sl 1 (encB a))) ∧ h = [] := by
  refine dcalls_wk ?_
  refine ent tabOK hmix Tryz.func124 rfl rfl fun X0 hX => ?_
  simp only [Tryz.ntmps124, Tryz.f124, go_sem]
  cases a with
  | nil =>
    repeat' (first | simp only [*, go_sem, Nat.reduceLT, Nat.reduceLeDiff, Nat.reduceEqDiff, ↓reduceIte, Nat.reduceAdd, Nat.reduceSub, Nat.reduceMul, Int.reduceLT, Int.reduceLE, Int.reduceAdd, Int.reduceSub, Int.reduceMul, Int.reduceNeg, Int.reduceToNat, Int.reduceEq, Int.reduceBEq, Int.reduceBNe, Nat.reduceBEq, beq_self_eq_true, bne_self_eq_false] | with_reducible refine vcond_split (fun _ => ?_) (fun _ => ?_) | with_reducible refine vg_split (fun _ => ?_) (fun _ => ?_) | ((with_reducible apply DCalls.frz); (focus exact rfl); (focus exact rfl)) | ((with_reducible refine And.intro ?_ ?_); (focus (first | omega | decide | assumption | (simp only [decide_eq_true_eq, decide_eq_false_iff_not] at *; omega)))))
    simp [List.range_succ]
  | cons x l =>
    repeat' (first | simp only [*, go_sem, Nat.reduceLT, Nat.reduceLeDiff, Nat.reduceEqDiff, ↓reduceIte, Nat.reduceAdd, Nat.reduceSub, Nat.reduceMul, Int.reduceLT, Int.reduceLE, Int.reduceAdd, Int.reduceSub, Int.reduceMul, Int.reduceNeg, Int.reduceToNat, Int.reduceEq, Int.reduceBEq, Int.reduceBNe, Nat.reduceBEq, beq_self_eq_true, bne_self_eq_false] | with_reducible refine vcond_split (fun _ => ?_) (fun _ => ?_) | with_reducible refine vg_split (fun _ => ?_) (fun _ => ?_) | ((with_reducible apply DCalls.frz); (focus exact rfl); (focus exact rfl)) | ((with_reducible refine And.intro ?_ ?_); (focus (first | omega | decide | assumption | (simp only [decide_eq_true_eq, decide_eq_false_iff_not] at *; omega)))))
    simp only [List.length_cons] at ha
    exact ⟨by omega, by omega⟩

theorem ndSame_c {k m k' m' : Int} {t t' : Nat} {d d' : List UInt8} : DCalls Tryz.prog 113 [.agg (ndc k m t d), .agg (ndc k' m' t' d')] [] fun r h => r = .c (.p (.b (ndSame ⟨k, m, t, d⟩ ⟨k', m', t', d'⟩))) ∧ h = [] := by
  refine ent tabOK hmix Tryz.func113 rfl rfl fun X0 hX => ?_
  simp only [Tryz.ntmps113, Tryz.f113, go_sem]
  repeat' (first | simp only [*, go_sem, Nat.reduceLT, Nat.reduceLeDiff, Nat.reduceEqDiff, ↓reduceIte, Nat.reduceAdd, Nat.reduceSub, Nat.reduceMul, Int.reduceLT, Int.reduceLE, Int.reduceAdd, Int.reduceSub, Int.reduceMul, Int.reduceNeg, Int.reduceToNat, Int.reduceEq, Int.reduceBEq, Int.reduceBNe, Nat.reduceBEq, beq_self_eq_true, bne_self_eq_false] | ((with_reducible refine useF (numSame_c _ _) ?_ ?_ ?_); (focus exact rfl); (focus exact rfl)) | ((with_reducible refine useF (bytesEqual_c) ?_ ?_ ?_); (focus exact rfl); (focus exact rfl)) | with_reducible refine vcond_split (fun _ => ?_) (fun _ => ?_) | with_reducible refine vg_split (fun _ => ?_) (fun _ => ?_) | ((with_reducible apply DCalls.frz); (focus exact rfl); (focus exact rfl)) | ((with_reducible refine And.intro ?_ ?_); (focus (first | omega | decide | assumption | (simp only [decide_eq_true_eq, decide_eq_false_iff_not] at *; omega)))))
  all_goals (first | (with_reducible rfl) | (simp_all [ndSame]; done) | (simp_all [ndSame]; omega) | (simp_all [ndSame]; (repeat' split) <;> omega))

theorem sameNode_c {k m k' m' : Int} {t t' : Nat} {d d' : List UInt8} : DCalls Tryz.prog 17 [.agg (ndc k m t d), .agg (ndc k' m' t' d')] [] fun r h => r = .c (.p (.b (sameNd ⟨k, m, t, d⟩ ⟨k', m', t', d'⟩))) ∧ h = [] := by
  refine ent tabOK hmix Tryz.func17 rfl rfl fun X0 hX => ?_
  simp only [Tryz.ntmps17, Tryz.f17, go_sem]
  repeat' (first | simp only [*, go_sem, Nat.reduceLT, Nat.reduceLeDiff, Nat.reduceEqDiff, ↓reduceIte, Nat.reduceAdd, Nat.reduceSub, Nat.reduceMul, Int.reduceLT, Int.reduceLE, Int.reduceAdd, Int.reduceSub, Int.reduceMul, Int.reduceNeg, Int.reduceToNat, Int.reduceEq, Int.reduceBEq, Int.reduceBNe, Nat.reduceBEq, beq_self_eq_true, bne_self_eq_false] | ((with_reducible refine useF (ref1Same_c _ _) ?_ ?_ ?_); (focus exact rfl); (focus exact rfl)) | with_reducible refine vcond_split (fun _ => ?_) (fun _ => ?_) | with_reducible refine vg_split (fun _ => ?_) (fun _ => ?_) | ((with_reducible apply DCalls.frz); (focus exact rfl); (focus exact rfl)) | ((with_reducible refine And.intro ?_ ?_); (focus (first | omega | decide | assumption | (simp only [decide_eq_true_eq, decide_eq_false_iff_not] at *; omega)))))
  all_goals (first | (with_reducible rfl) | (simp_all [sameNd]; done) | (simp_all [sameNd]; omega) | (simp_all [sameNd]; (repeat' split) <;> omega))

theorem copy_c {k m : Int} {t : Nat} {d : List UInt8} (hd : d.length ≤ 140737488355328) : DCalls Tryz.prog 51 [.agg (ndc k m t d)] [] fun r h => r = .agg (ndc k m t d) ∧ h = [] := by
  refine ent tabOK hmix Tryz.func51 rfl rfl fun X0 hX => ?_
  simp only [Tryz.ntmps51, Tryz.f51, go_sem]
  repeat' (first | simp only [*, go_sem, Nat.reduceLT, Nat.reduceLeDiff, Nat.reduceEqDiff, ↓reduceIte, Nat.reduceAdd, Nat.reduceSub, Nat.reduceMul, Int.reduceLT, Int.reduceLE, Int.reduceAdd, Int.reduceSub, Int.reduceMul, Int.reduceNeg, Int.reduceToNat, Int.reduceEq, Int.reduceBEq, Int.reduceBNe, Nat.reduceBEq, beq_self_eq_true, bne_self_eq_false] | ((with_reducible refine useN (clone_c hd) ?_ ?_ ?_); (focus exact rfl); (focus exact fun _ => rfl)) | with_reducible refine vcond_split (fun _ => ?_) (fun _ => ?_) | with_reducible refine vg_split (fun _ => ?_) (fun _ => ?_) | ((with_reducible apply DCalls.frz); (focus exact rfl); (focus exact rfl)) | ((with_reducible refine And.intro ?_ ?_); (focus (first | omega | decide | assumption | (simp only [decide_eq_true_eq, decide_eq_false_iff_not] at *; omega)))))
  all_goals (first | (with_reducible rfl) | (simp_all []; done) | (simp_all []; omega) | (simp_all []; (repeat' split) <;> omega))

end Go.Proofs.YtomaddpcacoodaaGreatDoor
