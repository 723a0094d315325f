/-
  Contracts of the functions on numbers, second part: comparisons.
-/
import Derived.Test.YtomaddpcacoodaaGreatDoorC1
set_option linter.unusedSimpArgs false
set_option linter.unusedVariables false
namespace Go.Proofs.YtomaddpcacoodaaGreatDoor
open Go Go.Dm
set_option maxRecDepth 100000
set_option maxHeartbeats 4000000

theorem isNaNInt_c (x : Int) : DCalls Tryz.prog 233 [.c (.p (.i .i64 x))] [] fun d h => d = .c (.p (.b false)) ∧ h = [] := by
  refine ent tabOK hmix Tryz.func233 rfl rfl fun X0 hX => ?_
  simp only [Tryz.ntmps233, Tryz.f233, go_sem]
  repeat' (first | simp only [*, go_sem, Nat.reduceLT, Nat.reduceLeDiff, Nat.reduceEqDiff, ↓reduceIte, Nat.reduceAdd, Nat.reduceSub, Nat.reduceMul, Int.reduceLT, Int.reduceLE, Int.reduceAdd, Int.reduceSub, Int.reduceMul, Int.reduceNeg, Int.reduceToNat, Int.reduceEq, Int.reduceBEq, Int.reduceBNe, Nat.reduceBEq, beq_self_eq_true, bne_self_eq_false] | with_reducible refine vcond_split (fun _ => ?_) (fun _ => ?_) | with_reducible refine vg_split (fun _ => ?_) (fun _ => ?_) | ((with_reducible apply DCalls.frz); (focus exact rfl); (focus exact rfl)) | ((with_reducible refine And.intro ?_ ?_); (focus (first | omega | decide | assumption | (simp only [decide_eq_true_eq, decide_eq_false_iff_not] at *; omega)))))
  all_goals (first | (with_reducible rfl) | (simp_all []; done) | (simp_all []; omega) | (simp_all []; (repeat' split) <;> omega))

theorem isNaNFlt_c (x : Nat) : DCalls Tryz.prog 234 [.c (.p (.f x))] [] fun d h => d = .c (.p (.b (isNaN x))) ∧ h = [] := by
  refine ent tabOK hmix Tryz.func234 rfl rfl fun X0 hX => ?_
  simp only [Tryz.ntmps234, Tryz.f234, go_sem]
  repeat' (first | simp only [*, go_sem, Nat.reduceLT, Nat.reduceLeDiff, Nat.reduceEqDiff, ↓reduceIte, Nat.reduceAdd, Nat.reduceSub, Nat.reduceMul, Int.reduceLT, Int.reduceLE, Int.reduceAdd, Int.reduceSub, Int.reduceMul, Int.reduceNeg, Int.reduceToNat, Int.reduceEq, Int.reduceBEq, Int.reduceBNe, Nat.reduceBEq, beq_self_eq_true, bne_self_eq_false] | with_reducible refine vcond_split (fun _ => ?_) (fun _ => ?_) | with_reducible refine vg_split (fun _ => ?_) (fun _ => ?_) | ((with_reducible apply DCalls.frz); (focus exact rfl); (focus exact rfl)) | ((with_reducible refine And.intro ?_ ?_); (focus (first | omega | decide | assumption | (simp only [decide_eq_true_eq, decide_eq_false_iff_not] at *; omega)))))
  all_goals (first | (with_reducible rfl) | (simp_all [isNaN]; done) | (simp_all [isNaN]; omega) | (simp_all [isNaN]; (repeat' split) <;> omega))

theorem cmpInt_c (a b : Int) : DCalls Tryz.prog 221 [.c (.p (.i .i64 a)), .c (.p (.i .i64 b))] [] fun d h => d = .c (.p (.i .i64 (cmpI a b))) ∧ h = [] := by
  refine ent tabOK hmix Tryz.func221 rfl rfl fun X0 hX => ?_
  simp only [Tryz.ntmps221, Tryz.f221, go_sem]
  repeat' (first | simp only [*, go_sem, Nat.reduceLT, Nat.reduceLeDiff, Nat.reduceEqDiff, ↓reduceIte, Nat.reduceAdd, Nat.reduceSub, Nat.reduceMul, Int.reduceLT, Int.reduceLE, Int.reduceAdd, Int.reduceSub, Int.reduceMul, Int.reduceNeg, Int.reduceToNat, Int.reduceEq, Int.reduceBEq, Int.reduceBNe, Nat.reduceBEq, beq_self_eq_true, bne_self_eq_false] | ((with_reducible refine useF (isNaNInt_c _) ?_ ?_ ?_); (focus exact rfl); (focus exact rfl)) | with_reducible refine vcond_split (fun _ => ?_) (fun _ => ?_) | with_reducible refine vg_split (fun _ => ?_) (fun _ => ?_) | ((with_reducible apply DCalls.frz); (focus exact rfl); (focus exact rfl)) | ((with_reducible refine And.intro ?_ ?_); (focus (first | omega | decide | assumption | (simp only [decide_eq_true_eq, decide_eq_false_iff_not] at *; omega)))))
  all_goals (first | (with_reducible rfl) | (simp_all [cmpI]; done) | (simp_all [cmpI]; omega) | (simp_all [cmpI]; (repeat' split) <;> omega))

theorem cmpFlt_c (a b : Nat) : DCalls Tryz.prog 223 [.c (.p (.f a)), .c (.p (.f b))] [] fun d h => d = .c (.p (.i .i64 (cmpF a b))) ∧ h = [] := by
  refine ent tabOK hmix Tryz.func223 rfl rfl fun X0 hX => ?_
  simp only [Tryz.ntmps223, Tryz.f223, go_sem]
  repeat' (first | simp only [*, go_sem, Nat.reduceLT, Nat.reduceLeDiff, Nat.reduceEqDiff, ↓reduceIte, Nat.reduceAdd, Nat.reduceSub, Nat.reduceMul, Int.reduceLT, Int.reduceLE, Int.reduceAdd, Int.reduceSub, Int.reduceMul, Int.reduceNeg, Int.reduceToNat, Int.reduceEq, Int.reduceBEq, Int.reduceBNe, Nat.reduceBEq, beq_self_eq_true, bne_self_eq_false] | ((with_reducible refine useF (isNaNFlt_c _) ?_ ?_ ?_); (focus exact rfl); (focus exact rfl)) | with_reducible refine vcond_split (fun _ => ?_) (fun _ => ?_) | with_reducible refine vg_split (fun _ => ?_) (fun _ => ?_) | ((with_reducible apply DCalls.frz); (focus exact rfl); (focus exact rfl)) | ((with_reducible refine And.intro ?_ ?_); (focus (first | omega | decide | assumption | (simp only [decide_eq_true_eq, decide_eq_false_iff_not] at *; omega)))))
  all_goals (first | (with_reducible rfl) | (simp_all [cmpF]; done) | (simp_all [cmpF]; omega) | (simp_all [cmpF]; (repeat' split) <;> omega))

theorem copysign_c : DCalls Tryz.prog 108 [.c (.p (.f 0)), .c (.p (.f 13830554455654793216))] [] fun d h => d = .c (.p (.f 9223372036854775808)) ∧ h = [] := by
  have e : Dm.bits .or .u64 (Dm.bits .andNot .u64 0 9223372036854775808) (Dm.bits .and .u64 13830554455654793216 9223372036854775808) = 9223372036854775808 := by kernel_rfl
  refine ent tabOK hmix Tryz.func108 rfl rfl fun X0 hX => ?_
  simp only [Tryz.ntmps108, Tryz.f108, go_sem]
  repeat' (first | simp only [*, go_sem, Nat.reduceLT, Nat.reduceLeDiff, Nat.reduceEqDiff, ↓reduceIte, Nat.reduceAdd, Nat.reduceSub, Nat.reduceMul, Int.reduceLT, Int.reduceLE, Int.reduceAdd, Int.reduceSub, Int.reduceMul, Int.reduceNeg, Int.reduceToNat, Int.reduceEq, Int.reduceBEq, Int.reduceBNe, Nat.reduceBEq, beq_self_eq_true, bne_self_eq_false] | ((with_reducible refine useF (bits_c _) ?_ ?_ ?_); (focus exact rfl); (focus exact rfl)) | ((with_reducible refine useF (frombits_c _ (by omega)) ?_ ?_ ?_); (focus exact rfl); (focus exact rfl)) | with_reducible refine vcond_split (fun _ => ?_) (fun _ => ?_) | with_reducible refine vg_split (fun _ => ?_) (fun _ => ?_) | ((with_reducible apply DCalls.frz); (focus exact rfl); (focus exact rfl)) | ((with_reducible refine And.intro ?_ ?_); (focus (first | omega | decide | assumption | (simp only [decide_eq_true_eq, decide_eq_false_iff_not] at *; omega)))))
  all_goals (first | (with_reducible rfl) | (simp_all []; done) | (simp_all []; omega) | (simp_all []; (repeat' split) <;> omega))

theorem inf_c (n : Int) : DCalls Tryz.prog 163 [.c (.p (.i .i64 n))] [] fun d h => d = .c (.p (.f (if 0 ≤ n then 9218868437227405312 else 18442240474082181120))) ∧ h = [] := by
  refine ent tabOK hmix Tryz.func163 rfl rfl fun X0 hX => ?_
  simp only [Tryz.ntmps163, Tryz.f163, go_sem]
  repeat' (first | simp only [*, go_sem, Nat.reduceLT, Nat.reduceLeDiff, Nat.reduceEqDiff, ↓reduceIte, Nat.reduceAdd, Nat.reduceSub, Nat.reduceMul, Int.reduceLT, Int.reduceLE, Int.reduceAdd, Int.reduceSub, Int.reduceMul, Int.reduceNeg, Int.reduceToNat, Int.reduceEq, Int.reduceBEq, Int.reduceBNe, Nat.reduceBEq, beq_self_eq_true, bne_self_eq_false] | ((with_reducible refine useF (frombits_c _ (by omega)) ?_ ?_ ?_); (focus exact rfl); (focus exact rfl)) | with_reducible refine vcond_split (fun _ => ?_) (fun _ => ?_) | with_reducible refine vg_split (fun _ => ?_) (fun _ => ?_) | ((with_reducible apply DCalls.frz); (focus exact rfl); (focus exact rfl)) | ((with_reducible refine And.intro ?_ ?_); (focus (first | omega | decide | assumption | (simp only [decide_eq_true_eq, decide_eq_false_iff_not] at *; omega)))))
  all_goals (first | (with_reducible rfl) | (simp_all []; done) | (simp_all []; omega) | (simp_all []; (repeat' split) <;> omega))

theorem NaN_c : DCalls Tryz.prog 164 [] [] fun d h => d = .c (.p (.f theNaN)) ∧ h = [] := by
  refine ent tabOK hmix Tryz.func164 rfl rfl fun X0 hX => ?_
  simp only [Tryz.ntmps164, Tryz.f164, go_sem]
  repeat' (first | simp only [*, go_sem, Nat.reduceLT, Nat.reduceLeDiff, Nat.reduceEqDiff, ↓reduceIte, Nat.reduceAdd, Nat.reduceSub, Nat.reduceMul, Int.reduceLT, Int.reduceLE, Int.reduceAdd, Int.reduceSub, Int.reduceMul, Int.reduceNeg, Int.reduceToNat, Int.reduceEq, Int.reduceBEq, Int.reduceBNe, Nat.reduceBEq, beq_self_eq_true, bne_self_eq_false] | ((with_reducible refine useF (frombits_c _ (by omega)) ?_ ?_ ?_); (focus exact rfl); (focus exact rfl)) | with_reducible refine vcond_split (fun _ => ?_) (fun _ => ?_) | with_reducible refine vg_split (fun _ => ?_) (fun _ => ?_) | ((with_reducible apply DCalls.frz); (focus exact rfl); (focus exact rfl)) | ((with_reducible refine And.intro ?_ ?_); (focus (first | omega | decide | assumption | (simp only [decide_eq_true_eq, decide_eq_false_iff_not] at *; omega)))))
  all_goals (first | (with_reducible rfl) | (simp_all [theNaN]; done) | (simp_all [theNaN]; omega) | (simp_all [theNaN]; (repeat' split) <;> omega))

theorem numPlain_c (x : Nat) : DCalls Tryz.prog 148 [.c (.p (.f x))] [] fun d h => d = .c (.p (.f (bitsF x))) ∧ h = [] := by
  refine ent tabOK hmix Tryz.func148 rfl rfl fun X0 hX => ?_
  simp only [Tryz.ntmps148, Tryz.f148, go_sem]
  repeat' (first | simp only [*, go_sem, Nat.reduceLT, Nat.reduceLeDiff, Nat.reduceEqDiff, ↓reduceIte, Nat.reduceAdd, Nat.reduceSub, Nat.reduceMul, Int.reduceLT, Int.reduceLE, Int.reduceAdd, Int.reduceSub, Int.reduceMul, Int.reduceNeg, Int.reduceToNat, Int.reduceEq, Int.reduceBEq, Int.reduceBNe, Nat.reduceBEq, beq_self_eq_true, bne_self_eq_false] | ((with_reducible refine useF (isNaN_c _) ?_ ?_ ?_); (focus exact rfl); (focus exact rfl)) | ((with_reducible refine useF (frombits_c _ (by omega)) ?_ ?_ ?_); (focus exact rfl); (focus exact rfl)) | with_reducible refine vcond_split (fun _ => ?_) (fun _ => ?_) | with_reducible refine vg_split (fun _ => ?_) (fun _ => ?_) | ((with_reducible apply DCalls.frz); (focus exact rfl); (focus exact rfl)) | ((with_reducible refine And.intro ?_ ?_); (focus (first | omega | decide | assumption | (simp only [decide_eq_true_eq, decide_eq_false_iff_not] at *; omega)))))
  all_goals (first | (with_reducible rfl) | (simp_all [bitsF, theNaN]; done) | (simp_all [bitsF, theNaN]; omega) | (simp_all [bitsF, theNaN]; (repeat' split) <;> omega))

theorem Or_c (a b : Int) : DCalls Tryz.prog 222 [.c (.p (.sl 1 [[.i .i64 a], [.i .i64 b]]))] [] fun d h => d = .c (.p (.i .i64 (if a == 0 then b else a))) ∧ h = [] := by
  refine ent tabOK hmix Tryz.func222 rfl rfl fun X0 hX => ?_
  simp only [Tryz.ntmps222, Tryz.f222, go_sem]
  repeat' (first | simp only [*, go_sem, Nat.reduceLT, Nat.reduceLeDiff, Nat.reduceEqDiff, ↓reduceIte, Nat.reduceAdd, Nat.reduceSub, Nat.reduceMul, Int.reduceLT, Int.reduceLE, Int.reduceAdd, Int.reduceSub, Int.reduceMul, Int.reduceNeg, Int.reduceToNat, Int.reduceEq, Int.reduceBEq, Int.reduceBNe, Nat.reduceBEq, beq_self_eq_true, bne_self_eq_false] | with_reducible refine vcond_split (fun _ => ?_) (fun _ => ?_) | with_reducible refine vg_split (fun _ => ?_) (fun _ => ?_) | ((with_reducible apply DCalls.frz); (focus exact rfl); (focus exact rfl)) | ((with_reducible refine And.intro ?_ ?_); (focus (first | omega | decide | assumption | (simp only [decide_eq_true_eq, decide_eq_false_iff_not] at *; omega)))))
  refine loop_rounds tabOK hmix 3 ?_
  repeat' (first | simp only [*, go_sem, Nat.reduceLT, Nat.reduceLeDiff, Nat.reduceEqDiff, ↓reduceIte, Nat.reduceAdd, Nat.reduceSub, Nat.reduceMul, Int.reduceLT, Int.reduceLE, Int.reduceAdd, Int.reduceSub, Int.reduceMul, Int.reduceNeg, Int.reduceToNat, Int.reduceEq, Int.reduceBEq, Int.reduceBNe, Nat.reduceBEq, beq_self_eq_true, bne_self_eq_false] | with_reducible refine vcond_split (fun _ => ?_) (fun _ => ?_) | with_reducible refine vg_split (fun _ => ?_) (fun _ => ?_) | ((with_reducible apply DCalls.frz); (focus exact rfl); (focus exact rfl)) | ((with_reducible refine And.intro ?_ ?_); (focus (first | omega | decide | assumption | (simp only [decide_eq_true_eq, decide_eq_false_iff_not] at *; omega)))))
  all_goals (first | (with_reducible rfl) | (simp_all []; done) | (simp_all []; omega) | (simp_all []; (repeat' split) <;> omega))

theorem numCompare_c (a b : Nat) : DCalls Tryz.prog 203 [.c (.p (.f a)), .c (.p (.f b))] [] fun d h => d = .c (.p (.i .i64 (numCmp a b))) ∧ h = [] := by
  refine ent tabOK hmix Tryz.func203 rfl rfl fun X0 hX => ?_
  simp only [Tryz.ntmps203, Tryz.f203, go_sem]
  repeat' (first | simp only [*, go_sem, Nat.reduceLT, Nat.reduceLeDiff, Nat.reduceEqDiff, ↓reduceIte, Nat.reduceAdd, Nat.reduceSub, Nat.reduceMul, Int.reduceLT, Int.reduceLE, Int.reduceAdd, Int.reduceSub, Int.reduceMul, Int.reduceNeg, Int.reduceToNat, Int.reduceEq, Int.reduceBEq, Int.reduceBNe, Nat.reduceBEq, beq_self_eq_true, bne_self_eq_false] | ((with_reducible refine useF (sides_c _) ?_ ?_ ?_); (focus exact rfl); (focus exact rfl)) | ((with_reducible refine useF (cmpInt_c _ _) ?_ ?_ ?_); (focus exact rfl); (focus exact rfl)) | ((with_reducible refine useF (cmpFlt_c _ _) ?_ ?_ ?_); (focus exact rfl); (focus exact rfl)) | ((with_reducible refine useF (Or_c _ _) ?_ ?_ ?_); (focus exact rfl); (focus exact rfl)) | with_reducible refine vcond_split (fun _ => ?_) (fun _ => ?_) | with_reducible refine vg_split (fun _ => ?_) (fun _ => ?_) | ((with_reducible apply DCalls.frz); (focus exact rfl); (focus exact rfl)) | ((with_reducible refine And.intro ?_ ?_); (focus (first | omega | decide | assumption | (simp only [decide_eq_true_eq, decide_eq_false_iff_not] at *; omega)))))
  all_goals (first | (with_reducible rfl) | (simp_all [numCmp]; done) | (simp_all [numCmp]; omega) | (simp_all [numCmp]; (repeat' split) <;> omega))

theorem numSame_c (a b : Nat) : DCalls Tryz.prog 171 [.c (.p (.f a)), .c (.p (.f b))] [] fun d h => d = .c (.p (.b (numCmp a b == 0))) ∧ h = [] := by
  refine ent tabOK hmix Tryz.func171 rfl rfl fun X0 hX => ?_
  simp only [Tryz.ntmps171, Tryz.f171, go_sem]
  repeat' (first | simp only [*, go_sem, Nat.reduceLT, Nat.reduceLeDiff, Nat.reduceEqDiff, ↓reduceIte, Nat.reduceAdd, Nat.reduceSub, Nat.reduceMul, Int.reduceLT, Int.reduceLE, Int.reduceAdd, Int.reduceSub, Int.reduceMul, Int.reduceNeg, Int.reduceToNat, Int.reduceEq, Int.reduceBEq, Int.reduceBNe, Nat.reduceBEq, beq_self_eq_true, bne_self_eq_false] | ((with_reducible refine useF (numCompare_c _ _) ?_ ?_ ?_); (focus exact rfl); (focus exact rfl)) | with_reducible refine vcond_split (fun _ => ?_) (fun _ => ?_) | with_reducible refine vg_split (fun _ => ?_) (fun _ => ?_) | ((with_reducible apply DCalls.frz); (focus exact rfl); (focus exact rfl)) | ((with_reducible refine And.intro ?_ ?_); (focus (first | omega | decide | assumption | (simp only [decide_eq_true_eq, decide_eq_false_iff_not] at *; omega)))))
  all_goals (first | (with_reducible rfl) | (simp_all []; done) | (simp_all []; omega) | (simp_all []; (repeat' split) <;> omega))

end Go.Proofs.YtomaddpcacoodaaGreatDoor
