/-
  Contracts of the functions on numbers.
-/
import Derived.Test.YtomaddpcacoodaaGreatDoorTab
import Derived.Test.YtomaddpcacoodaaGreatDoorSA
set_option linter.unusedSimpArgs false
set_option linter.unusedVariables false
namespace Go.Proofs.YtomaddpcacoodaaGreatDoor
open Go Go.Dm
set_option maxRecDepth 100000
set_option maxHeartbeats 4000000

theorem natCast_beq (a b : Nat) : ((a : Int) == (b : Int)) = (a == b) := by
  rw [Bool.eq_iff_iff]; simp only [beq_iff_eq]; omega

theorem isNaN_c (x : Nat) : DCalls Tryz.prog 192 [.c (.p (.f x))] [] fun d h => d = .c (.p (.b (isNaN x))) ∧ h = [] := by
  refine ent tabOK hmix Tryz.func192 rfl rfl fun X0 hX => ?_
  simp only [Tryz.ntmps192, Tryz.f192, go_sem]
  repeat' (first | simp only [*, go_sem, Nat.reduceLT, Nat.reduceLeDiff, Nat.reduceEqDiff, ↓reduceIte, Nat.reduceAdd, Nat.reduceSub, Nat.reduceMul, Int.reduceLT, Int.reduceLE, Int.reduceAdd, Int.reduceSub, Int.reduceMul, Int.reduceNeg, Int.reduceToNat, Int.reduceEq, Int.reduceBEq, Int.reduceBNe, Nat.reduceBEq, beq_self_eq_true, bne_self_eq_false] | with_reducible refine vcond_split (fun _ => ?_) (fun _ => ?_) | with_reducible refine vg_split (fun _ => ?_) (fun _ => ?_) | ((with_reducible apply DCalls.frz); (focus exact rfl); (focus exact rfl)) | ((with_reducible refine And.intro ?_ ?_); (focus (first | omega | decide | assumption | (simp only [decide_eq_true_eq, decide_eq_false_iff_not] at *; omega)))))
  all_goals (first | (with_reducible rfl) | (simp_all [isNaN]; done) | (simp_all [isNaN]; omega) | (simp_all [isNaN]; (repeat' split) <;> omega))

theorem bits_c (x : Nat) : DCalls Tryz.prog 147 [.c (.p (.f x))] [] fun d h => d = .c (.p (.i .u64 x)) ∧ h = [] := by
  intro X vals hh hi _ hr
  match vals, hr with
  | [v], ⟨h1, _⟩ =>
    simp only [RelD, RelC, RelP] at h1
    subst h1
    refine .inr ⟨.int .u64 x, X.w, ?_, _, X, rfl, hi, Step.refl hi, relC (x := .p (.i .u64 x)) rfl, rfl, hh⟩
    kernel_rfl

theorem frombits_c (z : Int) (hz : 0 ≤ z) : DCalls Tryz.prog 165 [.c (.p (.i .u64 z))] [] fun d h => d = .c (.p (.f z.toNat)) ∧ h = [] := by
  intro X vals hh hi _ hr
  match vals, hr with
  | [v], ⟨h1, _⟩ =>
    simp only [RelD, RelC, RelP] at h1
    obtain ⟨n, rfl⟩ := Int.eq_ofNat_of_zero_le hz
    subst h1
    refine .inr ⟨.float .f64 n, X.w, ?_, _, X, rfl, hi, Step.refl hi, relC (x := .p (.f n)) rfl, rfl, hh⟩
    kernel_rfl

theorem signbit_c (x : Nat) : DCalls Tryz.prog 232 [.c (.p (.f x))] [] fun d h => d = .c (.p (.b (neg64 x))) ∧ h = [] := by
  refine ent tabOK hmix Tryz.func232 rfl rfl fun X0 hX => ?_
  simp only [Tryz.ntmps232, Tryz.f232, go_sem]
  repeat' (first | simp only [*, go_sem, Nat.reduceLT, Nat.reduceLeDiff, Nat.reduceEqDiff, ↓reduceIte, Nat.reduceAdd, Nat.reduceSub, Nat.reduceMul, Int.reduceLT, Int.reduceLE, Int.reduceAdd, Int.reduceSub, Int.reduceMul, Int.reduceNeg, Int.reduceToNat, Int.reduceEq, Int.reduceBEq, Int.reduceBNe, Nat.reduceBEq, beq_self_eq_true, bne_self_eq_false] | ((with_reducible refine useF (bits_c _) ?_ ?_ ?_); (focus exact rfl); (focus exact rfl)) | with_reducible refine vcond_split (fun _ => ?_) (fun _ => ?_) | with_reducible refine vg_split (fun _ => ?_) (fun _ => ?_) | ((with_reducible apply DCalls.frz); (focus exact rfl); (focus exact rfl)) | ((with_reducible refine And.intro ?_ ?_); (focus (first | omega | decide | assumption | (simp only [decide_eq_true_eq, decide_eq_false_iff_not] at *; omega)))))
  all_goals (first | (with_reducible rfl) | (simp_all [neg64]; done) | (simp_all [neg64]; omega) | (simp_all [neg64]; (repeat' split) <;> omega))

theorem sides_c (x : Nat) : DCalls Tryz.prog 220 [.c (.p (.f x))] [] fun d h => d = .tup [.c (.p (.i .i64 (sidesF x).1)), .c (.p (.i .i64 (sidesF x).2))] ∧ h = [] := by
  refine ent tabOK hmix Tryz.func220 rfl rfl fun X0 hX => ?_
  simp only [Tryz.ntmps220, Tryz.f220, go_sem]
  repeat' (first | simp only [*, go_sem, Nat.reduceLT, Nat.reduceLeDiff, Nat.reduceEqDiff, ↓reduceIte, Nat.reduceAdd, Nat.reduceSub, Nat.reduceMul, Int.reduceLT, Int.reduceLE, Int.reduceAdd, Int.reduceSub, Int.reduceMul, Int.reduceNeg, Int.reduceToNat, Int.reduceEq, Int.reduceBEq, Int.reduceBNe, Nat.reduceBEq, beq_self_eq_true, bne_self_eq_false] | ((with_reducible refine useF (isNaN_c _) ?_ ?_ ?_); (focus exact rfl); (focus exact rfl)) | ((with_reducible refine useF (signbit_c _) ?_ ?_ ?_); (focus exact rfl); (focus exact rfl)) | with_reducible refine vcond_split (fun _ => ?_) (fun _ => ?_) | with_reducible refine vg_split (fun _ => ?_) (fun _ => ?_) | ((with_reducible apply DCalls.frz); (focus exact rfl); (focus exact rfl)) | ((with_reducible refine And.intro ?_ ?_); (focus (first | omega | decide | assumption | (simp only [decide_eq_true_eq, decide_eq_false_iff_not] at *; omega)))))
  all_goals (first | (with_reducible rfl) | (simp_all [sidesF]; done) | (simp_all [sidesF]; omega) | (simp_all [sidesF]; (repeat' split) <;> omega))

theorem Bits_c (x : Nat) : DCalls Tryz.prog 125 [.c (.p (.f x))] [] fun d h => d = .c (.p (.i .u64 (bitsF x))) ∧ h = [] := by
  refine ent tabOK hmix Tryz.func125 rfl rfl fun X0 hX => ?_
  simp only [Tryz.ntmps125, Tryz.f125, go_sem]
  repeat' (first | simp only [*, go_sem, Nat.reduceLT, Nat.reduceLeDiff, Nat.reduceEqDiff, ↓reduceIte, Nat.reduceAdd, Nat.reduceSub, Nat.reduceMul, Int.reduceLT, Int.reduceLE, Int.reduceAdd, Int.reduceSub, Int.reduceMul, Int.reduceNeg, Int.reduceToNat, Int.reduceEq, Int.reduceBEq, Int.reduceBNe, Nat.reduceBEq, beq_self_eq_true, bne_self_eq_false] | ((with_reducible refine useF (bits_c _) ?_ ?_ ?_); (focus exact rfl); (focus exact rfl)) | with_reducible refine vcond_split (fun _ => ?_) (fun _ => ?_) | with_reducible refine vg_split (fun _ => ?_) (fun _ => ?_) | ((with_reducible apply DCalls.frz); (focus exact rfl); (focus exact rfl)) | ((with_reducible refine And.intro ?_ ?_); (focus (first | omega | decide | assumption | (simp only [decide_eq_true_eq, decide_eq_false_iff_not] at *; omega)))))
  all_goals (first | (with_reducible rfl) | (simp_all [bitsF, isNaN, theNaN]; done) | (simp_all [bitsF, isNaN, theNaN]; omega) | (simp_all [bitsF, isNaN, theNaN]; (repeat' split) <;> omega))

theorem Plain_c (x : Nat) : DCalls Tryz.prog 162 [.c (.p (.f x))] [] fun d h => d = .c (.p (.f (bitsF x))) ∧ h = [] := by
  refine ent tabOK hmix Tryz.func162 rfl rfl fun X0 hX => ?_
  simp only [Tryz.ntmps162, Tryz.f162, go_sem]
  repeat' (first | simp only [*, go_sem, Nat.reduceLT, Nat.reduceLeDiff, Nat.reduceEqDiff, ↓reduceIte, Nat.reduceAdd, Nat.reduceSub, Nat.reduceMul, Int.reduceLT, Int.reduceLE, Int.reduceAdd, Int.reduceSub, Int.reduceMul, Int.reduceNeg, Int.reduceToNat, Int.reduceEq, Int.reduceBEq, Int.reduceBNe, Nat.reduceBEq, beq_self_eq_true, bne_self_eq_false] | ((with_reducible refine useF (Bits_c _) ?_ ?_ ?_); (focus exact rfl); (focus exact rfl)) | ((with_reducible refine useF (frombits_c _ (by omega)) ?_ ?_ ?_); (focus exact rfl); (focus exact rfl)) | with_reducible refine vcond_split (fun _ => ?_) (fun _ => ?_) | with_reducible refine vg_split (fun _ => ?_) (fun _ => ?_) | ((with_reducible apply DCalls.frz); (focus exact rfl); (focus exact rfl)) | ((with_reducible refine And.intro ?_ ?_); (focus (first | omega | decide | assumption | (simp only [decide_eq_true_eq, decide_eq_false_iff_not] at *; omega)))))
  all_goals (first | (with_reducible rfl) | (simp_all []; done) | (simp_all []; omega) | (simp_all []; (repeat' split) <;> omega))

theorem PlainTime_c (x : Nat) : DCalls Tryz.prog 93 [.c (.p (.f x))] [] fun d h => d = .c (.p (.f (bitsF x))) ∧ h = [] := by
  refine ent tabOK hmix Tryz.func93 rfl rfl fun X0 hX => ?_
  simp only [Tryz.ntmps93, Tryz.f93, go_sem]
  repeat' (first | simp only [*, go_sem, Nat.reduceLT, Nat.reduceLeDiff, Nat.reduceEqDiff, ↓reduceIte, Nat.reduceAdd, Nat.reduceSub, Nat.reduceMul, Int.reduceLT, Int.reduceLE, Int.reduceAdd, Int.reduceSub, Int.reduceMul, Int.reduceNeg, Int.reduceToNat, Int.reduceEq, Int.reduceBEq, Int.reduceBNe, Nat.reduceBEq, beq_self_eq_true, bne_self_eq_false] | ((with_reducible refine useF (Plain_c _) ?_ ?_ ?_); (focus exact rfl); (focus exact rfl)) | with_reducible refine vcond_split (fun _ => ?_) (fun _ => ?_) | with_reducible refine vg_split (fun _ => ?_) (fun _ => ?_) | ((with_reducible apply DCalls.frz); (focus exact rfl); (focus exact rfl)) | ((with_reducible refine And.intro ?_ ?_); (focus (first | omega | decide | assumption | (simp only [decide_eq_true_eq, decide_eq_false_iff_not] at *; omega)))))
  all_goals (first | (with_reducible rfl) | (simp_all []; done) | (simp_all []; omega) | (simp_all []; (repeat' split) <;> omega))

theorem ref1Same_c (x y : Nat) : DCalls Tryz.prog 53 [.c (.p (.f x)), .c (.p (.f y))] [] fun d h => d = .c (.p (.b (bitsF x == bitsF y))) ∧ h = [] := by
  refine ent tabOK hmix Tryz.func53 rfl rfl fun X0 hX => ?_
  simp only [Tryz.ntmps53, Tryz.f53, go_sem]
  repeat' (first | simp only [*, go_sem, Nat.reduceLT, Nat.reduceLeDiff, Nat.reduceEqDiff, ↓reduceIte, Nat.reduceAdd, Nat.reduceSub, Nat.reduceMul, Int.reduceLT, Int.reduceLE, Int.reduceAdd, Int.reduceSub, Int.reduceMul, Int.reduceNeg, Int.reduceToNat, Int.reduceEq, Int.reduceBEq, Int.reduceBNe, Nat.reduceBEq, beq_self_eq_true, bne_self_eq_false] | ((with_reducible refine useF (Bits_c _) ?_ ?_ ?_); (focus exact rfl); (focus exact rfl)) | with_reducible refine vcond_split (fun _ => ?_) (fun _ => ?_) | with_reducible refine vg_split (fun _ => ?_) (fun _ => ?_) | ((with_reducible apply DCalls.frz); (focus exact rfl); (focus exact rfl)) | ((with_reducible refine And.intro ?_ ?_); (focus (first | omega | decide | assumption | (simp only [decide_eq_true_eq, decide_eq_false_iff_not] at *; omega)))))
  all_goals (first | (with_reducible rfl) | (simp_all [natCast_beq]; done) | (simp_all [natCast_beq]; omega) | (simp_all [natCast_beq]; (repeat' split) <;> omega))

end Go.Proofs.YtomaddpcacoodaaGreatDoor
