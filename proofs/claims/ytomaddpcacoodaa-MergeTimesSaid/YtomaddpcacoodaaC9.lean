/-
  The law MergeTimes, over data.
-/
import Derived.Test.YtomaddpcacoodaaC7
import Derived.Test.YtomaddpcacoodaaS4
set_option linter.unusedSimpArgs false
set_option linter.unusedVariables false
namespace Go.Proofs.Ytomaddpcacoodaa
open Go Go.Dm
set_option maxRecDepth 100000
set_option maxHeartbeats 4000000

theorem mergeTimes_c {k1 m1 t1 : Int} {x1 : Nat} {d1 : List UInt8} {b o t : Int} {p q r : Nat} (w1 : x1 < 18446744073709551616) (wp : p < 18446744073709551616) (wq : q < 18446744073709551616) (wr : r < 18446744073709551616) (h1 : d1.length ≤ 9223372036854775807) :
    DCalls Try.prog 4 [.agg (rnc k1 m1 t1 x1 d1), .c (.p (.i .i64 b)), .c (.p (.i .i64 o)), .c (.p (.i .i64 t)), .c (.p (.f p)), .c (.p (.f q)), .c (.p (.f r))] [] fun r h => r = .c (.p (.b true)) ∧ h = [] := by
  have hb := bitsF_lt (timeF_lt (n := b) wp)
  have ho := bitsF_lt (timeF_lt (n := o) wq)
  have ht := bitsF_lt (timeF_lt (n := t) wr)
  have hl : (nodeF ⟨k1, m1, t1, x1, d1⟩).d.length ≤ 140737488355328 := Nat.le_trans (nodeD_len _) (by decide)
  have n1 := times_node (k := (nodeF ⟨k1, m1, t1, x1, d1⟩).k) (m := (nodeF ⟨k1, m1, t1, x1, d1⟩).m) (d := (nodeF ⟨k1, m1, t1, x1, d1⟩).d) hb ho ht
  have n2 := times_node (k := (nodeF ⟨k1, m1, t1, x1, d1⟩).k) (m := (nodeF ⟨k1, m1, t1, x1, d1⟩).m) (d := (nodeF ⟨k1, m1, t1, x1, d1⟩).d) hb ht ho
  have s1 := times_same (k := (nodeF ⟨k1, m1, t1, x1, d1⟩).k) (m := (nodeF ⟨k1, m1, t1, x1, d1⟩).m) (d := (nodeF ⟨k1, m1, t1, x1, d1⟩).d) hb ho ht
  obtain ⟨z1, z2, z3⟩ := times_want hb ho ht
  refine ent tabOK hmix Try.func4 rfl rfl fun X0 hX => ?_
  simp only [Try.ntmps4, Try.f4, go_sem]
  repeat' (first | simp only [*, go_sem, Nat.reduceLT, Nat.reduceLeDiff, Nat.reduceEqDiff, ↓reduceIte, Nat.reduceAdd, Nat.reduceSub, Nat.reduceMul, Int.reduceLT, Int.reduceLE, Int.reduceAdd, Int.reduceSub, Int.reduceMul, Int.reduceNeg, Int.reduceToNat, Int.reduceEq, Int.reduceBEq, Int.reduceBNe, Nat.reduceBEq, beq_self_eq_true] | ((with_reducible refine useN (nodeF_c h1) ?_ ?_ ?_); (focus exact rfl); (focus exact fun _ => rfl)) | ((with_reducible refine useF (Time_c) ?_ ?_ ?_); (focus exact rfl); (focus exact rfl)) | ((with_reducible refine useF (numPlain_c _) ?_ ?_ ?_); (focus exact rfl); (focus exact rfl)) | ((with_reducible refine useF (known20_c) ?_ ?_ ?_); (focus exact rfl); (focus exact rfl)) | ((with_reducible refine useN (nodeM_c hl hl _ _ _) ?_ ?_ ?_); (focus exact rfl); (focus exact fun _ => rfl)) | ((with_reducible refine useF (sameNode_c) ?_ ?_ ?_); (focus exact rfl); (focus exact rfl)) | ((with_reducible refine useF (numLater_c _ _) ?_ ?_ ?_); (focus exact rfl); (focus exact rfl)) | ((with_reducible refine useF (numSame_c _ _) ?_ ?_ ?_); (focus exact rfl); (focus exact rfl)) | with_reducible refine vcond_split (fun _ => ?_) (fun _ => ?_) | with_reducible refine vg_split (fun _ => ?_) (fun _ => ?_) | ((with_reducible apply DCalls.frz); (focus exact rfl); (focus exact rfl)) | ((with_reducible refine And.intro ?_ ?_); (focus (first | omega | decide | assumption))))

end Go.Proofs.Ytomaddpcacoodaa
