/-
  Contracts of the document's functions on trees: which times and nodes may be; what is put.
-/
import Derived.Test.YtomaddpcacoodaaGreatDoorD5
import Derived.Test.YtomaddpcacoodaaGreatDoorC3
set_option linter.unusedSimpArgs false
set_option linter.unusedVariables false
namespace Go.Proofs.YtomaddpcacoodaaGreatDoor
open Go Go.Dm
set_option maxRecDepth 100000
set_option maxHeartbeats 4000000

theorem plainR_c {x : Nat} : DCalls Tryz.prog 152 [.c (.p (.f x))] [] fun r h => r = .c (.p (.b (plainR x))) ∧ h = [] := by
  refine ent tabOK hmix Tryz.func152 rfl rfl fun X0 hX => ?_
  simp only [Tryz.ntmps152, Tryz.f152, go_sem]
  repeat' (first | simp only [*, go_sem, Nat.reduceLT, Nat.reduceLeDiff, Nat.reduceEqDiff, ↓reduceIte, Nat.reduceAdd, Nat.reduceSub, Nat.reduceMul, Int.reduceLT, Int.reduceLE, Int.reduceAdd, Int.reduceSub, Int.reduceMul, Int.reduceNeg, Int.reduceToNat, Int.reduceEq, Int.reduceBEq, Int.reduceBNe, Nat.reduceBEq, beq_self_eq_true, bne_self_eq_false, wrap_i64_lit, wrap_u64_lit, wrap_i64_m1, Nat.min_def, decide_true, decide_false] | ((refine vc_drawn (id := 5) tabOK hmix [] [0,1,2,3,4,5,6,7,8,9,10,11] (by kernel_rfl) ?_); (repeat' (first | (refine ds_nil ?_) | ((refine ds_one ?_ rfl rfl ?_ ?_); (rotate_left 1); (focus ((repeat' (first | simp only [*, go_sem, Nat.reduceLT, Nat.reduceLeDiff, Nat.reduceEqDiff, ↓reduceIte, Nat.reduceAdd, Nat.reduceSub, Nat.reduceMul, Int.reduceLT, Int.reduceLE, Int.reduceAdd, Int.reduceSub, Int.reduceMul, Int.reduceNeg, Int.reduceToNat, Int.reduceEq, Int.reduceBEq, Int.reduceBNe, Nat.reduceBEq, beq_self_eq_true, bne_self_eq_false, wrap_i64_lit, wrap_u64_lit, wrap_i64_m1, Nat.min_def, decide_true, decide_false] | ((with_reducible refine entK tabOK hmix Tryz.func144 rfl rfl fun _ _ => ?_); simp only [Tryz.ntmps144, Tryz.f144, go_sem]) | ((with_reducible refine entK tabOK hmix Tryz.func142 rfl rfl fun _ _ => ?_); simp only [Tryz.ntmps142, Tryz.f142, go_sem]) | ((with_reducible refine useF (bits_c _) ?_ ?_ ?_); (focus exact rfl); (focus exact rfl)) | ((with_reducible refine useF (Plain_c _) ?_ ?_ ?_); (focus exact rfl); (focus exact rfl)) | refine loop_rounds tabOK hmix 9 ?_ | with_reducible refine vcond_split (fun _ => ?_) (fun _ => ?_) | with_reducible refine vg_split (fun _ => ?_) (fun _ => ?_) | ((with_reducible apply DCalls.frz); (focus exact rfl); (focus exact rfl)) | ((with_reducible refine And.intro ?_ ?_); (focus (first | omega | decide | assumption | (simp only [decide_eq_true_eq, decide_eq_false_iff_not] at *; omega)))))); exact rfl)); (simp only [putF_some, putF_none]))))) | ((with_reducible refine entK tabOK hmix Tryz.func144 rfl rfl fun _ _ => ?_); simp only [Tryz.ntmps144, Tryz.f144, go_sem]) | ((with_reducible refine entK tabOK hmix Tryz.func142 rfl rfl fun _ _ => ?_); simp only [Tryz.ntmps142, Tryz.f142, go_sem]) | ((with_reducible refine useF (bits_c _) ?_ ?_ ?_); (focus exact rfl); (focus exact rfl)) | ((with_reducible refine useF (Plain_c _) ?_ ?_ ?_); (focus exact rfl); (focus exact rfl)) | refine loop_rounds tabOK hmix 9 ?_ | with_reducible refine vcond_split (fun _ => ?_) (fun _ => ?_) | with_reducible refine vg_split (fun _ => ?_) (fun _ => ?_) | ((with_reducible apply DCalls.frz); (focus exact rfl); (focus exact rfl)) | ((with_reducible refine And.intro ?_ ?_); (focus (first | omega | decide | assumption | (simp only [decide_eq_true_eq, decide_eq_false_iff_not] at *; omega)))))
  all_goals rfl

end Go.Proofs.YtomaddpcacoodaaGreatDoor
