/-
  Contracts of functions on numbers and nodes.
-/
import Derived.Test.YtfiopamaiolfhaaDoorTab
import Derived.Test.YtfiopamaiolfhaaDoorSA
set_option linter.unusedSimpArgs false
set_option linter.unusedVariables false
namespace Go.Proofs.YtfiopamaiolfhaaDoor
open Go Go.Dm
set_option maxRecDepth 100000
set_option maxHeartbeats 4000000

theorem natCast_beq (a b : Nat) : ((a : Int) == (b : Int)) = (a == b) := by
  rw [Bool.eq_iff_iff]; simp only [beq_iff_eq]; omega

theorem isNaN_c (x : Nat) : DCalls Tryd.prog 92 [.c (.p (.f x))] [] fun d h => d = .c (.p (.b (isNaN x))) ∧ h = [] := by
  refine ent tabOK hmix Tryd.func92 rfl rfl fun X0 hX => ?_
  simp only [Tryd.ntmps92, Tryd.f92, go_sem]
  repeat' (first | simp (maxSteps := 1000000) only [*, go_sem, Nat.reduceLT, Nat.reduceLeDiff, Nat.reduceEqDiff, ↓reduceIte, Nat.reduceAdd, Nat.reduceSub, Nat.reduceMul, Int.reduceLT, Int.reduceLE, Int.reduceAdd, Int.reduceSub, Int.reduceMul, Int.reduceNeg, Int.reduceToNat, Int.reduceEq, Int.reduceBEq, Int.reduceBNe, Nat.reduceBEq, beq_self_eq_true, bne_self_eq_false] | with_reducible refine vcond_split (fun _ => ?_) (fun _ => ?_) | with_reducible refine vg_split (fun _ => ?_) (fun _ => ?_) | ((with_reducible apply DCalls.frz); (focus exact rfl); (focus exact rfl)) | ((with_reducible refine And.intro ?_ ?_); (focus (first | omega | decide | assumption | (simp only [decide_eq_true_eq, decide_eq_false_iff_not] at *; omega)))))
  all_goals (first | (with_reducible rfl) | (simp_all [isNaN]; done) | (simp_all [isNaN]; omega) | (simp_all [isNaN]; (repeat' split) <;> omega))

theorem bits_c (x : Nat) : DCalls Tryd.prog 62 [.c (.p (.f x))] [] fun d h => d = .c (.p (.i .u64 x)) ∧ h = [] := by
  intro X vals hh hi _ hr
  match vals, hr with
  | [v], ⟨h1, _⟩ =>
    simp only [RelD, RelC, RelP] at h1
    subst h1
    refine .inr ⟨.int .u64 x, X.w, ?_, _, X, rfl, hi, Step.refl hi, relC (x := .p (.i .u64 x)) rfl, rfl, hh⟩
    kernel_rfl

theorem frombits_c (z : Int) (hz : 0 ≤ z) : DCalls Tryd.prog 93 [.c (.p (.i .u64 z))] [] fun d h => d = .c (.p (.f z.toNat)) ∧ h = [] := by
  intro X vals hh hi _ hr
  match vals, hr with
  | [v], ⟨h1, _⟩ =>
    simp only [RelD, RelC, RelP] at h1
    obtain ⟨n, rfl⟩ := Int.eq_ofNat_of_zero_le hz
    subst h1
    refine .inr ⟨.float .f64 n, X.w, ?_, _, X, rfl, hi, Step.refl hi, relC (x := .p (.f n)) rfl, rfl, hh⟩
    kernel_rfl

theorem signbit_c (x : Nat) : DCalls Tryd.prog 117 [.c (.p (.f x))] [] fun d h => d = .c (.p (.b (neg64 x))) ∧ h = [] := by
  refine ent tabOK hmix Tryd.func117 rfl rfl fun X0 hX => ?_
  simp only [Tryd.ntmps117, Tryd.f117, go_sem]
  repeat' (first | simp (maxSteps := 1000000) only [*, go_sem, Nat.reduceLT, Nat.reduceLeDiff, Nat.reduceEqDiff, ↓reduceIte, Nat.reduceAdd, Nat.reduceSub, Nat.reduceMul, Int.reduceLT, Int.reduceLE, Int.reduceAdd, Int.reduceSub, Int.reduceMul, Int.reduceNeg, Int.reduceToNat, Int.reduceEq, Int.reduceBEq, Int.reduceBNe, Nat.reduceBEq, beq_self_eq_true, bne_self_eq_false] | ((with_reducible refine useF (bits_c _) ?_ ?_ ?_); (focus exact rfl); (focus exact rfl)) | with_reducible refine vcond_split (fun _ => ?_) (fun _ => ?_) | with_reducible refine vg_split (fun _ => ?_) (fun _ => ?_) | ((with_reducible apply DCalls.frz); (focus exact rfl); (focus exact rfl)) | ((with_reducible refine And.intro ?_ ?_); (focus (first | omega | decide | assumption | (simp only [decide_eq_true_eq, decide_eq_false_iff_not] at *; omega)))))
  all_goals (first | (with_reducible rfl) | (simp_all [neg64]; done) | (simp_all [neg64]; omega) | (simp_all [neg64]; (repeat' split) <;> omega))

theorem sides_c (x : Nat) : DCalls Tryd.prog 104 [.c (.p (.f x))] [] fun d h => d = .tup [.c (.p (.i .i64 (sidesF x).1)), .c (.p (.i .i64 (sidesF x).2))] ∧ h = [] := by
  refine ent tabOK hmix Tryd.func104 rfl rfl fun X0 hX => ?_
  simp only [Tryd.ntmps104, Tryd.f104, go_sem]
  repeat' (first | simp (maxSteps := 1000000) only [*, go_sem, Nat.reduceLT, Nat.reduceLeDiff, Nat.reduceEqDiff, ↓reduceIte, Nat.reduceAdd, Nat.reduceSub, Nat.reduceMul, Int.reduceLT, Int.reduceLE, Int.reduceAdd, Int.reduceSub, Int.reduceMul, Int.reduceNeg, Int.reduceToNat, Int.reduceEq, Int.reduceBEq, Int.reduceBNe, Nat.reduceBEq, beq_self_eq_true, bne_self_eq_false] | ((with_reducible refine useF (isNaN_c _) ?_ ?_ ?_); (focus exact rfl); (focus exact rfl)) | ((with_reducible refine useF (signbit_c _) ?_ ?_ ?_); (focus exact rfl); (focus exact rfl)) | with_reducible refine vcond_split (fun _ => ?_) (fun _ => ?_) | with_reducible refine vg_split (fun _ => ?_) (fun _ => ?_) | ((with_reducible apply DCalls.frz); (focus exact rfl); (focus exact rfl)) | ((with_reducible refine And.intro ?_ ?_); (focus (first | omega | decide | assumption | (simp only [decide_eq_true_eq, decide_eq_false_iff_not] at *; omega)))))
  all_goals (first | (with_reducible rfl) | (simp_all [sidesF]; done) | (simp_all [sidesF]; omega) | (simp_all [sidesF]; (repeat' split) <;> omega))

theorem isNaNInt_c (x : Int) : DCalls Tryd.prog 118 [.c (.p (.i .i64 x))] [] fun d h => d = .c (.p (.b false)) ∧ h = [] := by
  refine ent tabOK hmix Tryd.func118 rfl rfl fun X0 hX => ?_
  simp only [Tryd.ntmps118, Tryd.f118, go_sem]
  repeat' (first | simp (maxSteps := 1000000) only [*, go_sem, Nat.reduceLT, Nat.reduceLeDiff, Nat.reduceEqDiff, ↓reduceIte, Nat.reduceAdd, Nat.reduceSub, Nat.reduceMul, Int.reduceLT, Int.reduceLE, Int.reduceAdd, Int.reduceSub, Int.reduceMul, Int.reduceNeg, Int.reduceToNat, Int.reduceEq, Int.reduceBEq, Int.reduceBNe, Nat.reduceBEq, beq_self_eq_true, bne_self_eq_false] | with_reducible refine vcond_split (fun _ => ?_) (fun _ => ?_) | with_reducible refine vg_split (fun _ => ?_) (fun _ => ?_) | ((with_reducible apply DCalls.frz); (focus exact rfl); (focus exact rfl)) | ((with_reducible refine And.intro ?_ ?_); (focus (first | omega | decide | assumption | (simp only [decide_eq_true_eq, decide_eq_false_iff_not] at *; omega)))))
  all_goals (first | (with_reducible rfl) | (simp_all []; done) | (simp_all []; omega) | (simp_all []; (repeat' split) <;> omega))

theorem isNaNFlt_c (x : Nat) : DCalls Tryd.prog 119 [.c (.p (.f x))] [] fun d h => d = .c (.p (.b (isNaN x))) ∧ h = [] := by
  refine ent tabOK hmix Tryd.func119 rfl rfl fun X0 hX => ?_
  simp only [Tryd.ntmps119, Tryd.f119, go_sem]
  repeat' (first | simp (maxSteps := 1000000) only [*, go_sem, Nat.reduceLT, Nat.reduceLeDiff, Nat.reduceEqDiff, ↓reduceIte, Nat.reduceAdd, Nat.reduceSub, Nat.reduceMul, Int.reduceLT, Int.reduceLE, Int.reduceAdd, Int.reduceSub, Int.reduceMul, Int.reduceNeg, Int.reduceToNat, Int.reduceEq, Int.reduceBEq, Int.reduceBNe, Nat.reduceBEq, beq_self_eq_true, bne_self_eq_false] | with_reducible refine vcond_split (fun _ => ?_) (fun _ => ?_) | with_reducible refine vg_split (fun _ => ?_) (fun _ => ?_) | ((with_reducible apply DCalls.frz); (focus exact rfl); (focus exact rfl)) | ((with_reducible refine And.intro ?_ ?_); (focus (first | omega | decide | assumption | (simp only [decide_eq_true_eq, decide_eq_false_iff_not] at *; omega)))))
  all_goals (first | (with_reducible rfl) | (simp_all [isNaN]; done) | (simp_all [isNaN]; omega) | (simp_all [isNaN]; (repeat' split) <;> omega))

theorem cmpInt_c (a b : Int) : DCalls Tryd.prog 105 [.c (.p (.i .i64 a)), .c (.p (.i .i64 b))] [] fun d h => d = .c (.p (.i .i64 (cmpI a b))) ∧ h = [] := by
  refine ent tabOK hmix Tryd.func105 rfl rfl fun X0 hX => ?_
  simp only [Tryd.ntmps105, Tryd.f105, go_sem]
  repeat' (first | simp (maxSteps := 1000000) only [*, go_sem, Nat.reduceLT, Nat.reduceLeDiff, Nat.reduceEqDiff, ↓reduceIte, Nat.reduceAdd, Nat.reduceSub, Nat.reduceMul, Int.reduceLT, Int.reduceLE, Int.reduceAdd, Int.reduceSub, Int.reduceMul, Int.reduceNeg, Int.reduceToNat, Int.reduceEq, Int.reduceBEq, Int.reduceBNe, Nat.reduceBEq, beq_self_eq_true, bne_self_eq_false] | ((with_reducible refine useF (isNaNInt_c _) ?_ ?_ ?_); (focus exact rfl); (focus exact rfl)) | with_reducible refine vcond_split (fun _ => ?_) (fun _ => ?_) | with_reducible refine vg_split (fun _ => ?_) (fun _ => ?_) | ((with_reducible apply DCalls.frz); (focus exact rfl); (focus exact rfl)) | ((with_reducible refine And.intro ?_ ?_); (focus (first | omega | decide | assumption | (simp only [decide_eq_true_eq, decide_eq_false_iff_not] at *; omega)))))
  all_goals (first | (with_reducible rfl) | (simp_all [cmpI]; done) | (simp_all [cmpI]; omega) | (simp_all [cmpI]; (repeat' split) <;> omega))

theorem cmpFlt_c (a b : Nat) : DCalls Tryd.prog 107 [.c (.p (.f a)), .c (.p (.f b))] [] fun d h => d = .c (.p (.i .i64 (cmpF a b))) ∧ h = [] := by
  refine ent tabOK hmix Tryd.func107 rfl rfl fun X0 hX => ?_
  simp only [Tryd.ntmps107, Tryd.f107, go_sem]
  repeat' (first | simp (maxSteps := 1000000) only [*, go_sem, Nat.reduceLT, Nat.reduceLeDiff, Nat.reduceEqDiff, ↓reduceIte, Nat.reduceAdd, Nat.reduceSub, Nat.reduceMul, Int.reduceLT, Int.reduceLE, Int.reduceAdd, Int.reduceSub, Int.reduceMul, Int.reduceNeg, Int.reduceToNat, Int.reduceEq, Int.reduceBEq, Int.reduceBNe, Nat.reduceBEq, beq_self_eq_true, bne_self_eq_false] | ((with_reducible refine useF (isNaNFlt_c _) ?_ ?_ ?_); (focus exact rfl); (focus exact rfl)) | with_reducible refine vcond_split (fun _ => ?_) (fun _ => ?_) | with_reducible refine vg_split (fun _ => ?_) (fun _ => ?_) | ((with_reducible apply DCalls.frz); (focus exact rfl); (focus exact rfl)) | ((with_reducible refine And.intro ?_ ?_); (focus (first | omega | decide | assumption | (simp only [decide_eq_true_eq, decide_eq_false_iff_not] at *; omega)))))
  all_goals (first | (with_reducible rfl) | (simp_all [cmpF]; done) | (simp_all [cmpF]; omega) | (simp_all [cmpF]; (repeat' split) <;> omega))

theorem numPlain_c (x : Nat) : DCalls Tryd.prog 63 [.c (.p (.f x))] [] fun d h => d = .c (.p (.f (bitsF x))) ∧ h = [] := by
  refine ent tabOK hmix Tryd.func63 rfl rfl fun X0 hX => ?_
  simp only [Tryd.ntmps63, Tryd.f63, go_sem]
  repeat' (first | simp (maxSteps := 1000000) only [*, go_sem, Nat.reduceLT, Nat.reduceLeDiff, Nat.reduceEqDiff, ↓reduceIte, Nat.reduceAdd, Nat.reduceSub, Nat.reduceMul, Int.reduceLT, Int.reduceLE, Int.reduceAdd, Int.reduceSub, Int.reduceMul, Int.reduceNeg, Int.reduceToNat, Int.reduceEq, Int.reduceBEq, Int.reduceBNe, Nat.reduceBEq, beq_self_eq_true, bne_self_eq_false] | ((with_reducible refine useF (isNaN_c _) ?_ ?_ ?_); (focus exact rfl); (focus exact rfl)) | ((with_reducible refine useF (frombits_c _ (by omega)) ?_ ?_ ?_); (focus exact rfl); (focus exact rfl)) | with_reducible refine vcond_split (fun _ => ?_) (fun _ => ?_) | with_reducible refine vg_split (fun _ => ?_) (fun _ => ?_) | ((with_reducible apply DCalls.frz); (focus exact rfl); (focus exact rfl)) | ((with_reducible refine And.intro ?_ ?_); (focus (first | omega | decide | assumption | (simp only [decide_eq_true_eq, decide_eq_false_iff_not] at *; omega)))))
  all_goals (first | (with_reducible rfl) | (simp_all [bitsF, theNaN]; done) | (simp_all [bitsF, theNaN]; omega) | (simp_all [bitsF, theNaN]; (repeat' split) <;> omega))

theorem Or_c (a b : Int) : DCalls Tryd.prog 106 [.c (.p (.sl 1 [[.i .i64 a], [.i .i64 b]]))] [] fun d h => d = .c (.p (.i .i64 (if a == 0 then b else a))) ∧ h = [] := by
  refine ent tabOK hmix Tryd.func106 rfl rfl fun X0 hX => ?_
  simp only [Tryd.ntmps106, Tryd.f106, go_sem]
  repeat' (first | simp (maxSteps := 1000000) only [*, go_sem, Nat.reduceLT, Nat.reduceLeDiff, Nat.reduceEqDiff, ↓reduceIte, Nat.reduceAdd, Nat.reduceSub, Nat.reduceMul, Int.reduceLT, Int.reduceLE, Int.reduceAdd, Int.reduceSub, Int.reduceMul, Int.reduceNeg, Int.reduceToNat, Int.reduceEq, Int.reduceBEq, Int.reduceBNe, Nat.reduceBEq, beq_self_eq_true, bne_self_eq_false] | with_reducible refine vcond_split (fun _ => ?_) (fun _ => ?_) | with_reducible refine vg_split (fun _ => ?_) (fun _ => ?_) | ((with_reducible apply DCalls.frz); (focus exact rfl); (focus exact rfl)) | ((with_reducible refine And.intro ?_ ?_); (focus (first | omega | decide | assumption | (simp only [decide_eq_true_eq, decide_eq_false_iff_not] at *; omega)))))
  refine loop_rounds tabOK hmix 3 ?_
  repeat' (first | simp (maxSteps := 1000000) only [*, go_sem, Nat.reduceLT, Nat.reduceLeDiff, Nat.reduceEqDiff, ↓reduceIte, Nat.reduceAdd, Nat.reduceSub, Nat.reduceMul, Int.reduceLT, Int.reduceLE, Int.reduceAdd, Int.reduceSub, Int.reduceMul, Int.reduceNeg, Int.reduceToNat, Int.reduceEq, Int.reduceBEq, Int.reduceBNe, Nat.reduceBEq, beq_self_eq_true, bne_self_eq_false] | with_reducible refine vcond_split (fun _ => ?_) (fun _ => ?_) | with_reducible refine vg_split (fun _ => ?_) (fun _ => ?_) | ((with_reducible apply DCalls.frz); (focus exact rfl); (focus exact rfl)) | ((with_reducible refine And.intro ?_ ?_); (focus (first | omega | decide | assumption | (simp only [decide_eq_true_eq, decide_eq_false_iff_not] at *; omega)))))
  all_goals (first | (with_reducible rfl) | (simp_all []; done) | (simp_all []; omega) | (simp_all []; (repeat' split) <;> omega))

theorem numCompare_c (a b : Nat) : DCalls Tryd.prog 84 [.c (.p (.f a)), .c (.p (.f b))] [] fun d h => d = .c (.p (.i .i64 (numCmp a b))) ∧ h = [] := by
  refine ent tabOK hmix Tryd.func84 rfl rfl fun X0 hX => ?_
  simp only [Tryd.ntmps84, Tryd.f84, go_sem]
  repeat' (first | simp (maxSteps := 1000000) only [*, go_sem, Nat.reduceLT, Nat.reduceLeDiff, Nat.reduceEqDiff, ↓reduceIte, Nat.reduceAdd, Nat.reduceSub, Nat.reduceMul, Int.reduceLT, Int.reduceLE, Int.reduceAdd, Int.reduceSub, Int.reduceMul, Int.reduceNeg, Int.reduceToNat, Int.reduceEq, Int.reduceBEq, Int.reduceBNe, Nat.reduceBEq, beq_self_eq_true, bne_self_eq_false] | ((with_reducible refine useF (sides_c _) ?_ ?_ ?_); (focus exact rfl); (focus exact rfl)) | ((with_reducible refine useF (cmpInt_c _ _) ?_ ?_ ?_); (focus exact rfl); (focus exact rfl)) | ((with_reducible refine useF (cmpFlt_c _ _) ?_ ?_ ?_); (focus exact rfl); (focus exact rfl)) | ((with_reducible refine useF (Or_c _ _) ?_ ?_ ?_); (focus exact rfl); (focus exact rfl)) | with_reducible refine vcond_split (fun _ => ?_) (fun _ => ?_) | with_reducible refine vg_split (fun _ => ?_) (fun _ => ?_) | ((with_reducible apply DCalls.frz); (focus exact rfl); (focus exact rfl)) | ((with_reducible refine And.intro ?_ ?_); (focus (first | omega | decide | assumption | (simp only [decide_eq_true_eq, decide_eq_false_iff_not] at *; omega)))))
  all_goals (first | (with_reducible rfl) | (simp_all [numCmp]; done) | (simp_all [numCmp]; omega) | (simp_all [numCmp]; (repeat' split) <;> omega))

theorem numSame_c (a b : Nat) : DCalls Tryd.prog 47 [.c (.p (.f a)), .c (.p (.f b))] [] fun d h => d = .c (.p (.b (numCmp a b == 0))) ∧ h = [] := by
  refine ent tabOK hmix Tryd.func47 rfl rfl fun X0 hX => ?_
  simp only [Tryd.ntmps47, Tryd.f47, go_sem]
  repeat' (first | simp (maxSteps := 1000000) only [*, go_sem, Nat.reduceLT, Nat.reduceLeDiff, Nat.reduceEqDiff, ↓reduceIte, Nat.reduceAdd, Nat.reduceSub, Nat.reduceMul, Int.reduceLT, Int.reduceLE, Int.reduceAdd, Int.reduceSub, Int.reduceMul, Int.reduceNeg, Int.reduceToNat, Int.reduceEq, Int.reduceBEq, Int.reduceBNe, Nat.reduceBEq, beq_self_eq_true, bne_self_eq_false] | ((with_reducible refine useF (numCompare_c _ _) ?_ ?_ ?_); (focus exact rfl); (focus exact rfl)) | with_reducible refine vcond_split (fun _ => ?_) (fun _ => ?_) | with_reducible refine vg_split (fun _ => ?_) (fun _ => ?_) | ((with_reducible apply DCalls.frz); (focus exact rfl); (focus exact rfl)) | ((with_reducible refine And.intro ?_ ?_); (focus (first | omega | decide | assumption | (simp only [decide_eq_true_eq, decide_eq_false_iff_not] at *; omega)))))
  all_goals (first | (with_reducible rfl) | (simp_all []; done) | (simp_all []; omega) | (simp_all []; (repeat' split) <;> omega))

theorem bytesEqual_c {a b : List UInt8} : DCalls Tryd.prog 48 [.c (.p (.sl 1 (encB a))), .c (.p (.sl 1 (encB b)))] [] fun d h => d = .c (.p (.b (a == b))) ∧ h = [] := by
  refine ent tabOK hmix Tryd.func48 rfl rfl fun X0 hX => ?_
  simp only [Tryd.ntmps48, Tryd.f48, go_sem]
  repeat' (first | simp (maxSteps := 1000000) only [*, go_sem, Nat.reduceLT, Nat.reduceLeDiff, Nat.reduceEqDiff, ↓reduceIte, Nat.reduceAdd, Nat.reduceSub, Nat.reduceMul, Int.reduceLT, Int.reduceLE, Int.reduceAdd, Int.reduceSub, Int.reduceMul, Int.reduceNeg, Int.reduceToNat, Int.reduceEq, Int.reduceBEq, Int.reduceBNe, Nat.reduceBEq, beq_self_eq_true, bne_self_eq_false] | with_reducible refine vcond_split (fun _ => ?_) (fun _ => ?_) | with_reducible refine vg_split (fun _ => ?_) (fun _ => ?_) | ((with_reducible apply DCalls.frz); (focus exact rfl); (focus exact rfl)) | ((with_reducible refine And.intro ?_ ?_); (focus (first | omega | decide | assumption | (simp only [decide_eq_true_eq, decide_eq_false_iff_not] at *; omega)))))
  all_goals (first | (with_reducible rfl) | (simp_all []; done) | (simp_all []; omega) | (simp_all []; (repeat' split) <;> omega))

theorem clone_c {a : List UInt8} (ha : a.length ≤ 140737488355328) : DCalls Tryd.prog 31 [.c (.p (.sl 1 (encB a)))] [] fun d h => d = .c (.p (.sl 1 (encB a))) ∧ h = [] := by
  refine dcalls_wk ?_
  refine ent tabOK hmix Tryd.func31 rfl rfl fun X0 hX => ?_
  simp only [Tryd.ntmps31, Tryd.f31, go_sem]
  cases a with
  | nil =>
    repeat' (first | simp (maxSteps := 1000000) only [*, go_sem, Nat.reduceLT, Nat.reduceLeDiff, Nat.reduceEqDiff, ↓reduceIte, Nat.reduceAdd, Nat.reduceSub, Nat.reduceMul, Int.reduceLT, Int.reduceLE, Int.reduceAdd, Int.reduceSub, Int.reduceMul, Int.reduceNeg, Int.reduceToNat, Int.reduceEq, Int.reduceBEq, Int.reduceBNe, Nat.reduceBEq, beq_self_eq_true, bne_self_eq_false] | with_reducible refine vcond_split (fun _ => ?_) (fun _ => ?_) | with_reducible refine vg_split (fun _ => ?_) (fun _ => ?_) | ((with_reducible apply DCalls.frz); (focus exact rfl); (focus exact rfl)) | ((with_reducible refine And.intro ?_ ?_); (focus (first | omega | decide | assumption | (simp only [decide_eq_true_eq, decide_eq_false_iff_not] at *; omega)))))
    simp [List.range_succ]
  | cons x l =>
    repeat' (first | simp (maxSteps := 1000000) only [*, go_sem, Nat.reduceLT, Nat.reduceLeDiff, Nat.reduceEqDiff, ↓reduceIte, Nat.reduceAdd, Nat.reduceSub, Nat.reduceMul, Int.reduceLT, Int.reduceLE, Int.reduceAdd, Int.reduceSub, Int.reduceMul, Int.reduceNeg, Int.reduceToNat, Int.reduceEq, Int.reduceBEq, Int.reduceBNe, Nat.reduceBEq, beq_self_eq_true, bne_self_eq_false] | with_reducible refine vcond_split (fun _ => ?_) (fun _ => ?_) | with_reducible refine vg_split (fun _ => ?_) (fun _ => ?_) | ((with_reducible apply DCalls.frz); (focus exact rfl); (focus exact rfl)) | ((with_reducible refine And.intro ?_ ?_); (focus (first | omega | decide | assumption | (simp only [decide_eq_true_eq, decide_eq_false_iff_not] at *; omega)))))
    simp only [List.length_cons] at ha
    exact ⟨by omega, by omega⟩

theorem ndSame_c {k m k' m' : Int} {t t' : Nat} {d d' : List UInt8} : DCalls Tryd.prog 30 [.agg (ndc k m t d), .agg (ndc k' m' t' d')] [] fun r h => r = .c (.p (.b (ndSame ⟨k, m, t, d⟩ ⟨k', m', t', d'⟩))) ∧ h = [] := by
  refine ent tabOK hmix Tryd.func30 rfl rfl fun X0 hX => ?_
  simp only [Tryd.ntmps30, Tryd.f30, go_sem]
  repeat' (first | simp (maxSteps := 1000000) only [*, go_sem, Nat.reduceLT, Nat.reduceLeDiff, Nat.reduceEqDiff, ↓reduceIte, Nat.reduceAdd, Nat.reduceSub, Nat.reduceMul, Int.reduceLT, Int.reduceLE, Int.reduceAdd, Int.reduceSub, Int.reduceMul, Int.reduceNeg, Int.reduceToNat, Int.reduceEq, Int.reduceBEq, Int.reduceBNe, Nat.reduceBEq, beq_self_eq_true, bne_self_eq_false] | ((with_reducible refine useF (numSame_c _ _) ?_ ?_ ?_); (focus exact rfl); (focus exact rfl)) | ((with_reducible refine useF (bytesEqual_c) ?_ ?_ ?_); (focus exact rfl); (focus exact rfl)) | with_reducible refine vcond_split (fun _ => ?_) (fun _ => ?_) | with_reducible refine vg_split (fun _ => ?_) (fun _ => ?_) | ((with_reducible apply DCalls.frz); (focus exact rfl); (focus exact rfl)) | ((with_reducible refine And.intro ?_ ?_); (focus (first | omega | decide | assumption | (simp only [decide_eq_true_eq, decide_eq_false_iff_not] at *; omega)))))
  all_goals (first | (with_reducible rfl) | (simp_all [ndSame]; done) | (simp_all [ndSame]; omega) | (simp_all [ndSame]; (repeat' split) <;> omega))

theorem copy_c {k m : Int} {t : Nat} {d : List UInt8} (hd : d.length ≤ 140737488355328) : DCalls Tryd.prog 15 [.agg (ndc k m t d)] [] fun r h => r = .agg (ndc k m t d) ∧ h = [] := by
  refine ent tabOK hmix Tryd.func15 rfl rfl fun X0 hX => ?_
  simp only [Tryd.ntmps15, Tryd.f15, go_sem]
  repeat' (first | simp (maxSteps := 1000000) only [*, go_sem, Nat.reduceLT, Nat.reduceLeDiff, Nat.reduceEqDiff, ↓reduceIte, Nat.reduceAdd, Nat.reduceSub, Nat.reduceMul, Int.reduceLT, Int.reduceLE, Int.reduceAdd, Int.reduceSub, Int.reduceMul, Int.reduceNeg, Int.reduceToNat, Int.reduceEq, Int.reduceBEq, Int.reduceBNe, Nat.reduceBEq, beq_self_eq_true, bne_self_eq_false] | ((with_reducible refine useN (clone_c hd) ?_ ?_ ?_); (focus exact rfl); (focus exact fun _ => rfl)) | with_reducible refine vcond_split (fun _ => ?_) (fun _ => ?_) | with_reducible refine vg_split (fun _ => ?_) (fun _ => ?_) | ((with_reducible apply DCalls.frz); (focus exact rfl); (focus exact rfl)) | ((with_reducible refine And.intro ?_ ?_); (focus (first | omega | decide | assumption | (simp only [decide_eq_true_eq, decide_eq_false_iff_not] at *; omega)))))
  all_goals (first | (with_reducible rfl) | (simp_all []; done) | (simp_all []; omega) | (simp_all []; (repeat' split) <;> omega))

end Go.Proofs.YtfiopamaiolfhaaDoor
