/-
  Contracts of the document on trees: which may be, what is put.
-/
import Derived.Test.YtnbgaphhhjnjlaaGreatDoorD1
import Derived.Test.YtnbgaphhhjnjlaaGreatDoorC1
import Derived.Test.YtnbgaphhhjnjlaaGreatDoorSD
set_option linter.unusedSimpArgs false
set_option linter.unusedVariables false
namespace Go.Proofs.YtnbgaphhhjnjlaaGreatDoor
open Go Go.Dm
set_option maxRecDepth 100000
set_option maxHeartbeats 4000000

theorem plainR_c {x : Nat} : DCalls Tryz.prog 111 [.c (.p (.f x))] [] fun r h => r = .c (.p (.b (plainR x))) ∧ h = [] := by
  refine ent tabOK hmix Tryz.func111 rfl rfl fun X0 hX => ?_
  simp only [Tryz.f111, go_sem]
  repeat' (first | simp (maxSteps := 1000000) only [*, go_sem, Nat.reduceLT, Nat.reduceLeDiff, Nat.reduceEqDiff, ↓reduceIte, Nat.reduceAdd, Int.reduceLE, Int.reduceSub, Int.reduceMul, Int.reduceNeg, Int.reduceToNat, Nat.reduceBEq, wrap_i64_lit, wrap_u64_lit, wrap_i64_m1, Nat.min_def, decide_true, decide_false, encB_one1, encB_app] | ((refine vc_drawn (id := 5) tabOK hmix [] [0,1,2,3,4,5,6,7,8,9,10,11] (by decide +kernel) ?_); (repeat' (first | (refine ds_nil ?_) | ((refine ds_one ?_ rfl rfl ?_ ?_); (rotate_left 1); (focus ((repeat' (simp (maxSteps := 1000000) only [*, go_sem, Nat.reduceLT, Nat.reduceEqDiff, ↓reduceIte, ])); exact rfl)); (simp only [putF_some]))))) | ((with_reducible refine entK tabOK hmix Tryz.func136 rfl rfl fun _ _ => ?_); simp only [Tryz.f136, go_sem]) | ((with_reducible refine entK tabOK hmix Tryz.func162 rfl rfl fun _ _ => ?_); simp only [Tryz.f162, go_sem]) | ((with_reducible refine useF (bits_c _) ?_ ?_ ?_); (focus exact rfl); (focus exact rfl)) | ((with_reducible refine useF (Plain_c _) ?_ ?_ ?_); (focus exact rfl); (focus exact rfl)) | refine loop_rounds tabOK hmix 9 ?_ | ((with_reducible refine And.intro ?_ ?_); (focus (decide))))
  all_goals rfl

theorem rightNodeR_c {k m : Int} {t : Nat} {d : List UInt8} (hd : d.length ≤ 1000000000) : DCalls Tryz.prog 77 [.agg (ndc k m t d)] [] fun r h => r = .c (.p (.b (rightNodeR ⟨k, m, t, d⟩))) ∧ h = [] := by
  refine ent tabOK hmix Tryz.func77 rfl rfl fun X0 hX => ?_
  simp only [Tryz.f77, go_sem]
  repeat' (first | simp (maxSteps := 1000000) only [*, go_sem, Nat.reduceLT, Nat.reduceEqDiff, ↓reduceIte, ] | ((with_reducible refine useF (plainR_c) ?_ ?_ ?_); (focus exact rfl); (focus exact rfl)) | ((with_reducible refine useN (targetR_c hd) ?_ ?_ ?_); (focus exact rfl); (focus exact fun _ => rfl)) | with_reducible refine vcond_split (fun _ => ?_) (fun _ => ?_) | with_reducible refine vg_split (fun _ => ?_) (fun _ => ?_))
  all_goals simp only [rightNodeR, *, Bool.not_true, Bool.not_false, Bool.or_false, Bool.or_true, Bool.true_or, Bool.true_and, Bool.false_and, ↓reduceIte, Bool.false_eq_true]

theorem putR_c {t : List It} {p : List UInt8} {k m : Int} {tt : Nat} {d : List UInt8} (ht : t.length ≤ 1000000 - 1) (hp : p.length ≤ 1000000000) (hq : ∀ x ∈ t, x.p.length ≤ 9223372036854775807) (hd : d.length ≤ 1000000000) :
    DCalls Tryz.prog 38 [.c (.p (.sl 5 (encT t))), .c (.p (.s p)), .agg (ndc k m tt d)] [] fun r h =>
      r = .tup [.c (.p (.sl 5 (encT (putR t p ⟨k, m, tt, d⟩).1))), .c (.p (.i .i64 (putR t p ⟨k, m, tt, d⟩).2))] ∧ h = [] := by
  have h1 := noneBelow_len t p
  have h2 := setR_len t p ⟨k, m, tt, d⟩
  have h3 := setR_len (noneBelow t p) p ⟨k, m, tt, d⟩
  have hp2 : p.length ≤ 4611686018427387904 := by omega
  refine dcalls_wk ?_
  refine ent tabOK hmix Tryz.func38 rfl rfl fun X0 hX => ?_
  simp only [Tryz.f38, go_sem]
  repeat' (first | simp (maxSteps := 1000000) only [*, go_sem, Nat.reduceLT, Nat.reduceLeDiff, Nat.reduceEqDiff, ↓reduceIte, Nat.reduceAdd, ] | ((with_reducible refine useF (isPathR_c hp) ?_ ?_ ?_); (focus exact rfl); (focus exact rfl)) | ((with_reducible refine useF (rightNodeR_c hd) ?_ ?_ ?_); (focus exact rfl); (focus exact rfl)) | ((with_reducible refine useF (dirOfR_c hp2) ?_ ?_ ?_); (focus exact rfl); (focus exact rfl)) | ((with_reducible refine useF (isDirR_c (t := t) (by omega)) ?_ ?_ ?_); (focus exact rfl); (focus exact rfl)) | ((with_reducible refine useN (noneBelow_c (t := t) (by omega) hp2 hq) ?_ ?_ ?_); (focus exact rfl); (focus exact fun _ => rfl)) | ((with_reducible refine useN (setR_c (t := t) (by omega)) ?_ ?_ ?_); (focus exact rfl); (focus exact fun _ => rfl)) | ((with_reducible refine useN (setR_c (t := noneBelow t p) (by omega)) ?_ ?_ ?_); (focus exact rfl); (focus exact fun _ => rfl)) | with_reducible refine vcond_split (fun _ => ?_) (fun _ => ?_) | with_reducible refine vg_split (fun _ => ?_) (fun _ => ?_))
  all_goals simp only [putR, *, Bool.or_false, Bool.or_true, Bool.true_or, ↓reduceIte, Bool.false_eq_true, encT_nil]
  all_goals simp

end Go.Proofs.YtnbgaphhhjnjlaaGreatDoor
