/-
  Contracts of the functions on numbers.
-/
import Derived.Test.YtomaddpcacoodaaTab
import Derived.Test.YtomaddpcacoodaaSA
set_option linter.unusedSimpArgs false
set_option linter.unusedVariables false
namespace Go.Proofs.Ytomaddpcacoodaa
open Go Go.Dm
set_option maxRecDepth 100000
set_option maxHeartbeats 4000000

theorem natCast_beq (a b : Nat) : ((a : Int) == (b : Int)) = (a == b) := by
  rw [Bool.eq_iff_iff]; simp only [beq_iff_eq]; omega

theorem isNaN_c (x : Nat) : DCalls Try.prog 37 [.c (.p (.f x))] [] fun d h => d = .c (.p (.b (isNaN x))) ∧ h = [] := by
  refine ent tabOK hmix Try.func37 rfl rfl fun X0 hX => ?_
  simp only [Try.ntmps37, Try.f37, go_sem]
  repeat' (first | simp only [*, go_sem, Nat.reduceLT, Nat.reduceLeDiff, Nat.reduceEqDiff, ↓reduceIte, Nat.reduceAdd, Nat.reduceSub, Nat.reduceMul, Int.reduceLT, Int.reduceLE, Int.reduceAdd, Int.reduceSub, Int.reduceMul, Int.reduceNeg, Int.reduceToNat, Int.reduceEq, Int.reduceBEq, Int.reduceBNe, Nat.reduceBEq, beq_self_eq_true, bne_self_eq_false] | with_reducible refine vcond_split (fun _ => ?_) (fun _ => ?_) | with_reducible refine vg_split (fun _ => ?_) (fun _ => ?_) | ((with_reducible apply DCalls.frz); (focus exact rfl); (focus exact rfl)) | ((with_reducible refine And.intro ?_ ?_); (focus (first | omega | decide | assumption | (simp only [decide_eq_true_eq, decide_eq_false_iff_not] at *; omega)))))
  all_goals (first | (with_reducible rfl) | (simp_all [isNaN]; done) | (simp_all [isNaN]; omega) | (simp_all [isNaN]; (repeat' split) <;> omega))

theorem bits_c (x : Nat) : DCalls Try.prog 63 [.c (.p (.f x))] [] fun d h => d = .c (.p (.i .u64 x)) ∧ h = [] := by
  intro X vals hh hi _ hr
  match vals, hr with
  | [v], ⟨h1, _⟩ =>
    simp only [RelD, RelC, RelP] at h1
    subst h1
    refine .inr ⟨.int .u64 x, X.w, ?_, _, X, rfl, hi, Step.refl hi, relC (x := .p (.i .u64 x)) rfl, rfl, hh⟩
    kernel_rfl

theorem frombits_c (z : Int) (hz : 0 ≤ z) : DCalls Try.prog 38 [.c (.p (.i .u64 z))] [] fun d h => d = .c (.p (.f z.toNat)) ∧ h = [] := by
  intro X vals hh hi _ hr
  match vals, hr with
  | [v], ⟨h1, _⟩ =>
    simp only [RelD, RelC, RelP] at h1
    obtain ⟨n, rfl⟩ := Int.eq_ofNat_of_zero_le hz
    subst h1
    refine .inr ⟨.float .f64 n, X.w, ?_, _, X, rfl, hi, Step.refl hi, relC (x := .p (.f n)) rfl, rfl, hh⟩
    kernel_rfl

theorem signbit_c (x : Nat) : DCalls Try.prog 81 [.c (.p (.f x))] [] fun d h => d = .c (.p (.b (neg64 x))) ∧ h = [] := by
  refine ent tabOK hmix Try.func81 rfl rfl fun X0 hX => ?_
  simp only [Try.ntmps81, Try.f81, go_sem]
  repeat' (first | simp only [*, go_sem, Nat.reduceLT, Nat.reduceLeDiff, Nat.reduceEqDiff, ↓reduceIte, Nat.reduceAdd, Nat.reduceSub, Nat.reduceMul, Int.reduceLT, Int.reduceLE, Int.reduceAdd, Int.reduceSub, Int.reduceMul, Int.reduceNeg, Int.reduceToNat, Int.reduceEq, Int.reduceBEq, Int.reduceBNe, Nat.reduceBEq, beq_self_eq_true, bne_self_eq_false] | ((with_reducible refine useF (bits_c _) ?_ ?_ ?_); (focus exact rfl); (focus exact rfl)) | with_reducible refine vcond_split (fun _ => ?_) (fun _ => ?_) | with_reducible refine vg_split (fun _ => ?_) (fun _ => ?_) | ((with_reducible apply DCalls.frz); (focus exact rfl); (focus exact rfl)) | ((with_reducible refine And.intro ?_ ?_); (focus (first | omega | decide | assumption | (simp only [decide_eq_true_eq, decide_eq_false_iff_not] at *; omega)))))
  all_goals (first | (with_reducible rfl) | (simp_all [neg64]; done) | (simp_all [neg64]; omega) | (simp_all [neg64]; (repeat' split) <;> omega))

theorem sides_c (x : Nat) : DCalls Try.prog 64 [.c (.p (.f x))] [] fun d h => d = .tup [.c (.p (.i .i64 (sidesF x).1)), .c (.p (.i .i64 (sidesF x).2))] ∧ h = [] := by
  refine ent tabOK hmix Try.func64 rfl rfl fun X0 hX => ?_
  simp only [Try.ntmps64, Try.f64, go_sem]
  repeat' (first | simp only [*, go_sem, Nat.reduceLT, Nat.reduceLeDiff, Nat.reduceEqDiff, ↓reduceIte, Nat.reduceAdd, Nat.reduceSub, Nat.reduceMul, Int.reduceLT, Int.reduceLE, Int.reduceAdd, Int.reduceSub, Int.reduceMul, Int.reduceNeg, Int.reduceToNat, Int.reduceEq, Int.reduceBEq, Int.reduceBNe, Nat.reduceBEq, beq_self_eq_true, bne_self_eq_false] | ((with_reducible refine useF (isNaN_c _) ?_ ?_ ?_); (focus exact rfl); (focus exact rfl)) | ((with_reducible refine useF (signbit_c _) ?_ ?_ ?_); (focus exact rfl); (focus exact rfl)) | with_reducible refine vcond_split (fun _ => ?_) (fun _ => ?_) | with_reducible refine vg_split (fun _ => ?_) (fun _ => ?_) | ((with_reducible apply DCalls.frz); (focus exact rfl); (focus exact rfl)) | ((with_reducible refine And.intro ?_ ?_); (focus (first | omega | decide | assumption | (simp only [decide_eq_true_eq, decide_eq_false_iff_not] at *; omega)))))
  all_goals (first | (with_reducible rfl) | (simp_all [sidesF]; done) | (simp_all [sidesF]; omega) | (simp_all [sidesF]; (repeat' split) <;> omega))

theorem Bits_c (x : Nat) : DCalls Try.prog 61 [.c (.p (.f x))] [] fun d h => d = .c (.p (.i .u64 (bitsF x))) ∧ h = [] := by
  refine ent tabOK hmix Try.func61 rfl rfl fun X0 hX => ?_
  simp only [Try.ntmps61, Try.f61, go_sem]
  repeat' (first | simp only [*, go_sem, Nat.reduceLT, Nat.reduceLeDiff, Nat.reduceEqDiff, ↓reduceIte, Nat.reduceAdd, Nat.reduceSub, Nat.reduceMul, Int.reduceLT, Int.reduceLE, Int.reduceAdd, Int.reduceSub, Int.reduceMul, Int.reduceNeg, Int.reduceToNat, Int.reduceEq, Int.reduceBEq, Int.reduceBNe, Nat.reduceBEq, beq_self_eq_true, bne_self_eq_false] | ((with_reducible refine useF (bits_c _) ?_ ?_ ?_); (focus exact rfl); (focus exact rfl)) | with_reducible refine vcond_split (fun _ => ?_) (fun _ => ?_) | with_reducible refine vg_split (fun _ => ?_) (fun _ => ?_) | ((with_reducible apply DCalls.frz); (focus exact rfl); (focus exact rfl)) | ((with_reducible refine And.intro ?_ ?_); (focus (first | omega | decide | assumption | (simp only [decide_eq_true_eq, decide_eq_false_iff_not] at *; omega)))))
  all_goals (first | (with_reducible rfl) | (simp_all [bitsF, isNaN, theNaN]; done) | (simp_all [bitsF, isNaN, theNaN]; omega) | (simp_all [bitsF, isNaN, theNaN]; (repeat' split) <;> omega))

theorem Plain_c (x : Nat) : DCalls Try.prog 57 [.c (.p (.f x))] [] fun d h => d = .c (.p (.f (bitsF x))) ∧ h = [] := by
  refine ent tabOK hmix Try.func57 rfl rfl fun X0 hX => ?_
  simp only [Try.ntmps57, Try.f57, go_sem]
  repeat' (first | simp only [*, go_sem, Nat.reduceLT, Nat.reduceLeDiff, Nat.reduceEqDiff, ↓reduceIte, Nat.reduceAdd, Nat.reduceSub, Nat.reduceMul, Int.reduceLT, Int.reduceLE, Int.reduceAdd, Int.reduceSub, Int.reduceMul, Int.reduceNeg, Int.reduceToNat, Int.reduceEq, Int.reduceBEq, Int.reduceBNe, Nat.reduceBEq, beq_self_eq_true, bne_self_eq_false] | ((with_reducible refine useF (Bits_c _) ?_ ?_ ?_); (focus exact rfl); (focus exact rfl)) | ((with_reducible refine useF (frombits_c _ (by omega)) ?_ ?_ ?_); (focus exact rfl); (focus exact rfl)) | with_reducible refine vcond_split (fun _ => ?_) (fun _ => ?_) | with_reducible refine vg_split (fun _ => ?_) (fun _ => ?_) | ((with_reducible apply DCalls.frz); (focus exact rfl); (focus exact rfl)) | ((with_reducible refine And.intro ?_ ?_); (focus (first | omega | decide | assumption | (simp only [decide_eq_true_eq, decide_eq_false_iff_not] at *; omega)))))
  all_goals (first | (with_reducible rfl) | (simp_all []; done) | (simp_all []; omega) | (simp_all []; (repeat' split) <;> omega))

theorem PlainTime_c (x : Nat) : DCalls Try.prog 26 [.c (.p (.f x))] [] fun d h => d = .c (.p (.f (bitsF x))) ∧ h = [] := by
  refine ent tabOK hmix Try.func26 rfl rfl fun X0 hX => ?_
  simp only [Try.ntmps26, Try.f26, go_sem]
  repeat' (first | simp only [*, go_sem, Nat.reduceLT, Nat.reduceLeDiff, Nat.reduceEqDiff, ↓reduceIte, Nat.reduceAdd, Nat.reduceSub, Nat.reduceMul, Int.reduceLT, Int.reduceLE, Int.reduceAdd, Int.reduceSub, Int.reduceMul, Int.reduceNeg, Int.reduceToNat, Int.reduceEq, Int.reduceBEq, Int.reduceBNe, Nat.reduceBEq, beq_self_eq_true, bne_self_eq_false] | ((with_reducible refine useF (Plain_c _) ?_ ?_ ?_); (focus exact rfl); (focus exact rfl)) | with_reducible refine vcond_split (fun _ => ?_) (fun _ => ?_) | with_reducible refine vg_split (fun _ => ?_) (fun _ => ?_) | ((with_reducible apply DCalls.frz); (focus exact rfl); (focus exact rfl)) | ((with_reducible refine And.intro ?_ ?_); (focus (first | omega | decide | assumption | (simp only [decide_eq_true_eq, decide_eq_false_iff_not] at *; omega)))))
  all_goals (first | (with_reducible rfl) | (simp_all []; done) | (simp_all []; omega) | (simp_all []; (repeat' split) <;> omega))

theorem ref1Same_c (x y : Nat) : DCalls Try.prog 33 [.c (.p (.f x)), .c (.p (.f y))] [] fun d h => d = .c (.p (.b (bitsF x == bitsF y))) ∧ h = [] := by
  refine ent tabOK hmix Try.func33 rfl rfl fun X0 hX => ?_
  simp only [Try.ntmps33, Try.f33, go_sem]
  repeat' (first | simp only [*, go_sem, Nat.reduceLT, Nat.reduceLeDiff, Nat.reduceEqDiff, ↓reduceIte, Nat.reduceAdd, Nat.reduceSub, Nat.reduceMul, Int.reduceLT, Int.reduceLE, Int.reduceAdd, Int.reduceSub, Int.reduceMul, Int.reduceNeg, Int.reduceToNat, Int.reduceEq, Int.reduceBEq, Int.reduceBNe, Nat.reduceBEq, beq_self_eq_true, bne_self_eq_false] | ((with_reducible refine useF (Bits_c _) ?_ ?_ ?_); (focus exact rfl); (focus exact rfl)) | with_reducible refine vcond_split (fun _ => ?_) (fun _ => ?_) | with_reducible refine vg_split (fun _ => ?_) (fun _ => ?_) | ((with_reducible apply DCalls.frz); (focus exact rfl); (focus exact rfl)) | ((with_reducible refine And.intro ?_ ?_); (focus (first | omega | decide | assumption | (simp only [decide_eq_true_eq, decide_eq_false_iff_not] at *; omega)))))
  all_goals (first | (with_reducible rfl) | (simp_all [natCast_beq]; done) | (simp_all [natCast_beq]; omega) | (simp_all [natCast_beq]; (repeat' split) <;> omega))

theorem rank_c (x : Nat) : DCalls Try.prog 80 [.c (.p (.f x))] [] fun d h => d = .c (.p (.i .u64 (rankI x))) ∧ h = [] := by
  refine ent tabOK hmix Try.func80 rfl rfl fun X0 hX => ?_
  simp only [Try.ntmps80, Try.f80, go_sem]
  repeat' (first | simp only [*, go_sem, Nat.reduceLT, Nat.reduceLeDiff, Nat.reduceEqDiff, ↓reduceIte, Nat.reduceAdd, Nat.reduceSub, Nat.reduceMul, Int.reduceLT, Int.reduceLE, Int.reduceAdd, Int.reduceSub, Int.reduceMul, Int.reduceNeg, Int.reduceToNat, Int.reduceEq, Int.reduceBEq, Int.reduceBNe, Nat.reduceBEq, beq_self_eq_true, bne_self_eq_false] | ((with_reducible refine useF (Bits_c _) ?_ ?_ ?_); (focus exact rfl); (focus exact rfl)) | with_reducible refine vcond_split (fun _ => ?_) (fun _ => ?_) | with_reducible refine vg_split (fun _ => ?_) (fun _ => ?_) | ((with_reducible apply DCalls.frz); (focus exact rfl); (focus exact rfl)) | ((with_reducible refine And.intro ?_ ?_); (focus (first | omega | decide | assumption | (simp only [decide_eq_true_eq, decide_eq_false_iff_not] at *; omega)))))
  all_goals (first | (with_reducible rfl) | (simp_all [rankI, IntKind.bits]; done) | (simp_all [rankI, IntKind.bits]; omega) | (simp_all [rankI, IntKind.bits]; (repeat' split) <;> omega))

theorem ref1Compare_c (x y : Nat) : DCalls Try.prog 62 [.c (.p (.f x)), .c (.p (.f y))] [] fun d h => d = .c (.p (.i .i64 (cmp1 x y))) ∧ h = [] := by
  refine ent tabOK hmix Try.func62 rfl rfl fun X0 hX => ?_
  simp only [Try.ntmps62, Try.f62, go_sem]
  repeat' (first | simp only [*, go_sem, Nat.reduceLT, Nat.reduceLeDiff, Nat.reduceEqDiff, ↓reduceIte, Nat.reduceAdd, Nat.reduceSub, Nat.reduceMul, Int.reduceLT, Int.reduceLE, Int.reduceAdd, Int.reduceSub, Int.reduceMul, Int.reduceNeg, Int.reduceToNat, Int.reduceEq, Int.reduceBEq, Int.reduceBNe, Nat.reduceBEq, beq_self_eq_true, bne_self_eq_false] | ((with_reducible refine useF (rank_c _) ?_ ?_ ?_); (focus exact rfl); (focus exact rfl)) | with_reducible refine vcond_split (fun _ => ?_) (fun _ => ?_) | with_reducible refine vg_split (fun _ => ?_) (fun _ => ?_) | ((with_reducible apply DCalls.frz); (focus exact rfl); (focus exact rfl)) | ((with_reducible refine And.intro ?_ ?_); (focus (first | omega | decide | assumption | (simp only [decide_eq_true_eq, decide_eq_false_iff_not] at *; omega)))))
  all_goals (first | (with_reducible rfl) | (simp_all [cmp1]; done) | (simp_all [cmp1]; omega) | (simp_all [cmp1]; (repeat' split) <;> omega))

end Go.Proofs.Ytomaddpcacoodaa
