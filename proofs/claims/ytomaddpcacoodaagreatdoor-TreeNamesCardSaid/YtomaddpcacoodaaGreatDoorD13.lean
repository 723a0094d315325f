/-
  Contracts of what the program's diff calls.
-/
import Derived.Test.YtomaddpcacoodaaGreatDoorD12
set_option linter.unusedSimpArgs false
set_option linter.unusedVariables false
namespace Go.Proofs.YtomaddpcacoodaaGreatDoor
open Go Go.Dm
set_option maxRecDepth 100000
set_option maxHeartbeats 4000000

theorem concat_c {a b : List It} (ha : a.length ≤ 1000000) (hb : b.length ≤ 1000000) :
    DCalls Tryz.prog 104 [.c (.p (.sl 1 [[.sl 5 (encT a)], [.sl 5 (encT b)]]))] [] fun r h => r = .c (.p (.sl 5 (encT (a ++ b)))) ∧ h = [] := by
  have w1 : IntKind.i64.wrap (a.length : Int) = a.length := wrap_i64 (by omega) (by omega)
  have w2 : IntKind.i64.wrap ((a.length : Int) + (b.length : Int)) = (a.length + b.length : Nat) := wrap_i64 (by omega) (by omega)
  have z1 : decide ((a.length : Int) < 0) = false := decide_eq_false (by omega)
  have z2 : decide (((a.length + b.length : Nat) : Int) < 0) = false := decide_eq_false (by omega)
  refine ent tabOK hmix Tryz.func104 rfl rfl fun X0 hX => ?_
  simp only [Tryz.ntmps104, Tryz.f104, go_sem]
  repeat' (first | simp only [*, go_sem, Nat.reduceLT, Nat.reduceLeDiff, Nat.reduceEqDiff, ↓reduceIte, Nat.reduceAdd, Nat.reduceSub, Nat.reduceMul, Int.reduceLT, Int.reduceLE, Int.reduceAdd, Int.reduceSub, Int.reduceMul, Int.reduceNeg, Int.reduceToNat, Int.reduceEq, Int.reduceBEq, Int.reduceBNe, Nat.reduceBEq, beq_self_eq_true, bne_self_eq_false, Int.zero_add, wrap_i64_lit, decide_true, decide_false] | refine loop_rounds tabOK hmix 3 ?_ | with_reducible refine vcond_split (fun _ => ?_) (fun _ => ?_) | with_reducible refine vg_split (fun _ => ?_) (fun _ => ?_) | ((with_reducible apply DCalls.frz); (focus exact rfl); (focus exact rfl)) | ((with_reducible refine And.intro ?_ ?_); (focus (first | omega | decide | assumption | (simp only [decide_eq_true_eq, decide_eq_false_iff_not] at *; omega)))))
  refine (grow_c (n := a.length + b.length) (by omega)).mono ?_
  rintro d h' ⟨rfl, rfl⟩
  repeat' (first | simp only [*, go_sem, Nat.reduceLT, Nat.reduceLeDiff, Nat.reduceEqDiff, ↓reduceIte, Nat.reduceAdd, Nat.reduceSub, Nat.reduceMul, Int.reduceLT, Int.reduceLE, Int.reduceAdd, Int.reduceSub, Int.reduceMul, Int.reduceNeg, Int.reduceToNat, Int.reduceEq, Int.reduceBEq, Int.reduceBNe, Nat.reduceBEq, beq_self_eq_true, bne_self_eq_false, Int.zero_add, wrap_i64_lit, decide_true, decide_false] | refine loop_rounds tabOK hmix 3 ?_ | with_reducible refine vcond_split (fun _ => ?_) (fun _ => ?_) | with_reducible refine vg_split (fun _ => ?_) (fun _ => ?_) | ((with_reducible apply DCalls.frz); (focus exact rfl); (focus exact rfl)) | ((with_reducible refine And.intro ?_ ?_); (focus (first | omega | decide | assumption | (simp only [decide_eq_true_eq, decide_eq_false_iff_not] at *; omega)))))
  rw [List.take_of_length_le (by simp)]

theorem kind_c {k m k' m' : Int} {t t' : Nat} {d d' : List UInt8} (p q : Bool) : DCalls Tryz.prog 106 [.agg (ndc k m t d), .agg (ndc k' m' t' d'), .c (.p (.b p)), .c (.p (.b q))] [] fun r h => r = .c (.p (.i .i64 (kindF p q ⟨k, m, t, d⟩ ⟨k', m', t', d'⟩))) ∧ h = [] := by
  cases p <;> cases q
  all_goals
    refine ent tabOK hmix Tryz.func106 rfl rfl fun X0 hX => ?_
    simp only [Tryz.ntmps106, Tryz.f106, go_sem]
  all_goals repeat' (first | simp only [*, go_sem, Nat.reduceLT, Nat.reduceLeDiff, Nat.reduceEqDiff, ↓reduceIte, Nat.reduceAdd, Nat.reduceSub, Nat.reduceMul, Int.reduceLT, Int.reduceLE, Int.reduceAdd, Int.reduceSub, Int.reduceMul, Int.reduceNeg, Int.reduceToNat, Int.reduceEq, Int.reduceBEq, Int.reduceBNe, Nat.reduceBEq, beq_self_eq_true, bne_self_eq_false] | ((with_reducible refine useF (ndSame_c) ?_ ?_ ?_); (focus exact rfl); (focus exact rfl)) | ((with_reducible refine useF (bytesEqual_c) ?_ ?_ ?_); (focus exact rfl); (focus exact rfl)) | with_reducible refine vcond_split (fun _ => ?_) (fun _ => ?_) | with_reducible refine vg_split (fun _ => ?_) (fun _ => ?_) | ((with_reducible apply DCalls.frz); (focus exact rfl); (focus exact rfl)) | ((with_reducible refine And.intro ?_ ?_); (focus (first | omega | decide | assumption | (simp only [decide_eq_true_eq, decide_eq_false_iff_not] at *; omega)))))
  all_goals simp only [kindF, *, ↓reduceIte, Bool.false_eq_true]

end Go.Proofs.YtomaddpcacoodaaGreatDoor
