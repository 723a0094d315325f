/-
  Contracts of the merge of nodes: the program's, the document's.
-/
import Derived.Test.YtomaddpcacoodaaC4
set_option linter.unusedSimpArgs false
set_option linter.unusedVariables false
namespace Go.Proofs.Ytomaddpcacoodaa
open Go Go.Dm
set_option maxRecDepth 100000
set_option maxHeartbeats 4000000

theorem nodeM_c {k m k1 m1 k2 m2 : Int} {t t1 t2 : Nat} {d d1 d2 : List UInt8} (h1 : d1.length ≤ 140737488355328) (h2 : d2.length ≤ 140737488355328) (b o' t' : Bool) :
    DCalls Try.prog 9 [.agg (ndc k m t d), .agg (ndc k1 m1 t1 d1), .agg (ndc k2 m2 t2 d2), .c (.p (.b b)), .c (.p (.b o')), .c (.p (.b t'))] [] fun r h =>
    r = .tup [.agg (nodeM ⟨k, m, t, d⟩ ⟨k1, m1, t1, d1⟩ ⟨k2, m2, t2, d2⟩ b o' t').1.cv, .c (.p (.b (nodeM ⟨k, m, t, d⟩ ⟨k1, m1, t1, d1⟩ ⟨k2, m2, t2, d2⟩ b o' t').2.1)), .c (.p (.i .i64 (nodeM ⟨k, m, t, d⟩ ⟨k1, m1, t1, d1⟩ ⟨k2, m2, t2, d2⟩ b o' t').2.2))] ∧ h = [] := by
  refine dcalls_wk ?_
  refine ent tabOK hmix Try.func9 rfl rfl fun X0 hX => ?_
  simp only [Try.ntmps9, Try.f9, go_sem]
  repeat' (first | simp only [*, go_sem, Nat.reduceLT, Nat.reduceLeDiff, Nat.reduceEqDiff, ↓reduceIte, Nat.reduceAdd, Nat.reduceSub, Nat.reduceMul, Int.reduceLT, Int.reduceLE, Int.reduceAdd, Int.reduceSub, Int.reduceMul, Int.reduceNeg, Int.reduceToNat, Int.reduceEq, Int.reduceBEq, Int.reduceBNe, Nat.reduceBEq, beq_self_eq_true] | ((with_reducible refine useF (same_c _ _) ?_ ?_ ?_); (focus exact rfl); (focus exact rfl)) | ((with_reducible refine useN (kept_c h1 _) ?_ ?_ ?_); (focus exact rfl); (focus exact fun _ => rfl)) | ((with_reducible refine useN (kept_c h2 _) ?_ ?_ ?_); (focus exact rfl); (focus exact fun _ => rfl)) | ((with_reducible refine useN (parts_c h1 h2 _) ?_ ?_ ?_); (focus exact rfl); (focus exact fun _ => rfl)) | with_reducible refine vcond_split (fun _ => ?_) (fun _ => ?_) | with_reducible refine vg_split (fun _ => ?_) (fun _ => ?_) | ((with_reducible apply DCalls.frz); (focus exact rfl); (focus exact rfl)) | ((with_reducible refine And.intro ?_ ?_); (focus (first | omega | decide | assumption))))
  all_goals (first | (with_reducible rfl) | (simp_all [nodeM, nd0, encB_nil]; done) | (simp_all [nodeM, nd0, encB_nil]; omega) | (simp_all [nodeM, nd0, encB_nil]; (repeat' split) <;> omega))

end Go.Proofs.Ytomaddpcacoodaa
