import Derived.Test.YtcoedlaifhfnnaaDoorTab
import Derived.Test.YtcoedlaifhfnnaaDoorSA

section
/-
  Contracts of functions on numbers and nodes.
-/

set_option linter.unusedSimpArgs false
set_option linter.unusedVariables false
namespace Go.Proofs.YtcoedlaifhfnnaaDoor
open Go Go.Dm
set_option maxRecDepth 100000
set_option maxHeartbeats 4000000

theorem natCast_beq (a b : Nat) : ((a : Int) == (b : Int)) = (a == b) := by
  rw [Bool.eq_iff_iff]; simp only [beq_iff_eq]; omega

theorem isNaN_c (x : Nat) : DCalls Tryd.prog 77 [.c (.p (.f x))] [] fun d h => d = .c (.p (.b (isNaN x))) ∧ h = [] := by
  refine ent tabOK hmix Tryd.func77 rfl rfl fun X0 hX => ?_
  simp only [Tryd.ntmps77, Tryd.f77, go_sem]
  repeat' (first | simp (maxSteps := 1000000) only [*, go_sem, Nat.reduceLT, Nat.reduceLeDiff, Nat.reduceEqDiff, ↓reduceIte, Nat.reduceAdd, Nat.reduceSub, Nat.reduceMul, Int.reduceLT, Int.reduceLE, Int.reduceAdd, Int.reduceSub, Int.reduceMul, Int.reduceNeg, Int.reduceToNat, Int.reduceEq, Int.reduceBEq, Int.reduceBNe, Nat.reduceBEq, beq_self_eq_true, bne_self_eq_false] | with_reducible refine vcond_split (fun _ => ?_) (fun _ => ?_) | with_reducible refine vg_split (fun _ => ?_) (fun _ => ?_) | ((with_reducible apply DCalls.frz); (focus exact rfl); (focus exact rfl)) | ((with_reducible refine And.intro ?_ ?_); (focus (first | omega | decide | assumption | (simp only [decide_eq_true_eq, decide_eq_false_iff_not] at *; omega)))))
  all_goals (first | (with_reducible rfl) | (simp_all [isNaN]; done) | (simp_all [isNaN]; omega) | (simp_all [isNaN]; (repeat' split) <;> omega))

theorem bits_c (x : Nat) : DCalls Tryd.prog 68 [.c (.p (.f x))] [] fun d h => d = .c (.p (.i .u64 x)) ∧ h = [] := by
  intro X vals hh hi _ hr
  match vals, hr with
  | [v], ⟨h1, _⟩ =>
    simp only [RelD, RelC, RelP] at h1
    subst h1
    refine .inr ⟨.int .u64 x, X.w, ?_, _, X, rfl, hi, Step.refl hi, relC (x := .p (.i .u64 x)) rfl, rfl, hh⟩
    kernel_rfl

theorem frombits_c (z : Int) (hz : 0 ≤ z) : DCalls Tryd.prog 78 [.c (.p (.i .u64 z))] [] fun d h => d = .c (.p (.f z.toNat)) ∧ h = [] := by
  intro X vals hh hi _ hr
  match vals, hr with
  | [v], ⟨h1, _⟩ =>
    simp only [RelD, RelC, RelP] at h1
    obtain ⟨n, rfl⟩ := Int.eq_ofNat_of_zero_le hz
    subst h1
    refine .inr ⟨.float .f64 n, X.w, ?_, _, X, rfl, hi, Step.refl hi, relC (x := .p (.f n)) rfl, rfl, hh⟩
    kernel_rfl

theorem numPlain_c (x : Nat) : DCalls Tryd.prog 69 [.c (.p (.f x))] [] fun d h => d = .c (.p (.f (bitsF x))) ∧ h = [] := by
  refine ent tabOK hmix Tryd.func69 rfl rfl fun X0 hX => ?_
  simp only [Tryd.ntmps69, Tryd.f69, go_sem]
  repeat' (first | simp (maxSteps := 1000000) only [*, go_sem, Nat.reduceLT, Nat.reduceLeDiff, Nat.reduceEqDiff, ↓reduceIte, Nat.reduceAdd, Nat.reduceSub, Nat.reduceMul, Int.reduceLT, Int.reduceLE, Int.reduceAdd, Int.reduceSub, Int.reduceMul, Int.reduceNeg, Int.reduceToNat, Int.reduceEq, Int.reduceBEq, Int.reduceBNe, Nat.reduceBEq, beq_self_eq_true, bne_self_eq_false] | ((with_reducible refine useF (isNaN_c _) ?_ ?_ ?_); (focus exact rfl); (focus exact rfl)) | ((with_reducible refine useF (frombits_c _ (by omega)) ?_ ?_ ?_); (focus exact rfl); (focus exact rfl)) | with_reducible refine vcond_split (fun _ => ?_) (fun _ => ?_) | with_reducible refine vg_split (fun _ => ?_) (fun _ => ?_) | ((with_reducible apply DCalls.frz); (focus exact rfl); (focus exact rfl)) | ((with_reducible refine And.intro ?_ ?_); (focus (first | omega | decide | assumption | (simp only [decide_eq_true_eq, decide_eq_false_iff_not] at *; omega)))))
  all_goals (first | (with_reducible rfl) | (simp_all [bitsF, theNaN]; done) | (simp_all [bitsF, theNaN]; omega) | (simp_all [bitsF, theNaN]; (repeat' split) <;> omega))

theorem clone_c {a : List UInt8} (ha : a.length ≤ 140737488355328) : DCalls Tryd.prog 25 [.c (.p (.sl 1 (encB a)))] [] fun d h => d = .c (.p (.sl 1 (encB a))) ∧ h = [] := by
  refine dcalls_wk ?_
  refine ent tabOK hmix Tryd.func25 rfl rfl fun X0 hX => ?_
  simp only [Tryd.ntmps25, Tryd.f25, go_sem]
  cases a with
  | nil =>
    repeat' (first | simp (maxSteps := 1000000) only [*, go_sem, Nat.reduceLT, Nat.reduceLeDiff, Nat.reduceEqDiff, ↓reduceIte, Nat.reduceAdd, Nat.reduceSub, Nat.reduceMul, Int.reduceLT, Int.reduceLE, Int.reduceAdd, Int.reduceSub, Int.reduceMul, Int.reduceNeg, Int.reduceToNat, Int.reduceEq, Int.reduceBEq, Int.reduceBNe, Nat.reduceBEq, beq_self_eq_true, bne_self_eq_false] | with_reducible refine vcond_split (fun _ => ?_) (fun _ => ?_) | with_reducible refine vg_split (fun _ => ?_) (fun _ => ?_) | ((with_reducible apply DCalls.frz); (focus exact rfl); (focus exact rfl)) | ((with_reducible refine And.intro ?_ ?_); (focus (first | omega | decide | assumption | (simp only [decide_eq_true_eq, decide_eq_false_iff_not] at *; omega)))))
    simp [List.range_succ]
  | cons x l =>
    repeat' (first | simp (maxSteps := 1000000) only [*, go_sem, Nat.reduceLT, Nat.reduceLeDiff, Nat.reduceEqDiff, ↓reduceIte, Nat.reduceAdd, Nat.reduceSub, Nat.reduceMul, Int.reduceLT, Int.reduceLE, Int.reduceAdd, Int.reduceSub, Int.reduceMul, Int.reduceNeg, Int.reduceToNat, Int.reduceEq, Int.reduceBEq, Int.reduceBNe, Nat.reduceBEq, beq_self_eq_true, bne_self_eq_false] | with_reducible refine vcond_split (fun _ => ?_) (fun _ => ?_) | with_reducible refine vg_split (fun _ => ?_) (fun _ => ?_) | ((with_reducible apply DCalls.frz); (focus exact rfl); (focus exact rfl)) | ((with_reducible refine And.intro ?_ ?_); (focus (first | omega | decide | assumption | (simp only [decide_eq_true_eq, decide_eq_false_iff_not] at *; omega)))))
    simp only [List.length_cons] at ha
    exact ⟨by omega, by omega⟩

theorem copy_c {k m : Int} {t : Nat} {d : List UInt8} (hd : d.length ≤ 140737488355328) : DCalls Tryd.prog 15 [.agg (ndc k m t d)] [] fun r h => r = .agg (ndc k m t d) ∧ h = [] := by
  refine ent tabOK hmix Tryd.func15 rfl rfl fun X0 hX => ?_
  simp only [Tryd.ntmps15, Tryd.f15, go_sem]
  repeat' (first | simp (maxSteps := 1000000) only [*, go_sem, Nat.reduceLT, Nat.reduceLeDiff, Nat.reduceEqDiff, ↓reduceIte, Nat.reduceAdd, Nat.reduceSub, Nat.reduceMul, Int.reduceLT, Int.reduceLE, Int.reduceAdd, Int.reduceSub, Int.reduceMul, Int.reduceNeg, Int.reduceToNat, Int.reduceEq, Int.reduceBEq, Int.reduceBNe, Nat.reduceBEq, beq_self_eq_true, bne_self_eq_false] | ((with_reducible refine useN (clone_c hd) ?_ ?_ ?_); (focus exact rfl); (focus exact fun _ => rfl)) | with_reducible refine vcond_split (fun _ => ?_) (fun _ => ?_) | with_reducible refine vg_split (fun _ => ?_) (fun _ => ?_) | ((with_reducible apply DCalls.frz); (focus exact rfl); (focus exact rfl)) | ((with_reducible refine And.intro ?_ ?_); (focus (first | omega | decide | assumption | (simp only [decide_eq_true_eq, decide_eq_false_iff_not] at *; omega)))))
  all_goals (first | (with_reducible rfl) | (simp_all []; done) | (simp_all []; omega) | (simp_all []; (repeat' split) <;> omega))

end Go.Proofs.YtcoedlaifhfnnaaDoor

end

section
/-
  Contracts of the merge of nodes.
-/

set_option linter.unusedSimpArgs false
set_option linter.unusedVariables false
namespace Go.Proofs.YtcoedlaifhfnnaaDoor
open Go Go.Dm
set_option maxRecDepth 100000
set_option maxHeartbeats 4000000

end Go.Proofs.YtcoedlaifhfnnaaDoor

end

section
/-
  Contracts of the merge of nodes: the program's, the document's.
-/

set_option linter.unusedSimpArgs false
set_option linter.unusedVariables false
namespace Go.Proofs.YtcoedlaifhfnnaaDoor
open Go Go.Dm
set_option maxRecDepth 100000
set_option maxHeartbeats 4000000

end Go.Proofs.YtcoedlaifhfnnaaDoor

end

section
/-
  Contracts of the functions that draw nodes.
-/

set_option linter.unusedSimpArgs false
set_option linter.unusedVariables false
namespace Go.Proofs.YtcoedlaifhfnnaaDoor
open Go Go.Dm
set_option maxRecDepth 100000
set_option maxHeartbeats 4000000

end Go.Proofs.YtcoedlaifhfnnaaDoor

end

section
/-
  Contracts of the functions that draw nodes, second part.
-/

set_option linter.unusedSimpArgs false
set_option linter.unusedVariables false
namespace Go.Proofs.YtcoedlaifhfnnaaDoor
open Go Go.Dm
set_option maxRecDepth 100000
set_option maxHeartbeats 4000000

end Go.Proofs.YtcoedlaifhfnnaaDoor

end
