/-
  The law of changes of two steps, walked.
-/
import Derived.Test.YtjanmkknbijecaaGreatDoorU3
import Derived.Test.YtjanmkknbijecaaGreatDoorD10
import Derived.Test.YtjanmkknbijecaaGreatDoorD14
import Derived.Test.YtjanmkknbijecaaGreatDoorG5
set_option linter.unusedSimpArgs false
set_option linter.unusedVariables false
namespace Go.Proofs.YtjanmkknbijecaaGreatDoor
open Go Go.Dm
set_option maxRecDepth 100000
set_option maxHeartbeats 8000000

theorem diffB {a b : List It} (ha : OkT a) (hb : OkT b) : (diffF a b).length ≤ 100000 ∧ (∀ x ∈ diffF a b, x.p.length ≤ 1000000000 ∧ x.o.t < 18446744073709551616 ∧ x.n.t < 18446744073709551616) ∧ ∀ x ∈ diffF a b, x.n.d.length ≤ 140737488355328 := by
  have h1 := ha.len
  have h2 := hb.len
  have h3 := diffF_len a b
  refine ⟨by omega, fun x hx => ⟨?_, diffF_wf ha hb hx⟩, fun x hx => by rw [(diffF_nodes hx).2]; exact Nat.le_trans (hb.getd _) (by decide)⟩
  have := diffF_may ha hb x hx
  unfold mayC at this
  simp only [Bool.and_eq_true] at this
  exact Nat.le_trans (isPathR_len this.1.1.1.1.1.1.2) (by decide)
theorem applyD_c {a b : List It} (ha : OkT a) (hb : OkT b) : DCalls Tryz.prog 16 [.c (.p (.sl 5 (encT a))), .c (.p (.sl 10 (encC (diffF a b))))] [] fun r h => r = .tup [.c (.p (.sl 5 (encT b))), .c (.p (.i .i64 0))] ∧ h = [] := by
  obtain ⟨h1, h2, h3⟩ := diffB ha hb
  have := applyG_c ha h1 h2 h3
  rw [apply_diff ha hb] at this
  exact this

theorem patchJoins_c {l : List RI} {ts us : List RU} (hl : l.length ≤ 9223372036854775807) (hd : ∀ x ∈ l, x.n.d.length ≤ 9223372036854775807) (hdx : ∀ x ∈ l, x.n.x < 18446744073709551616)
    (hl2 : ts.length ≤ 9223372036854775807) (hd2 : ∀ x ∈ ts, x.n.d.length ≤ 9223372036854775807) (hdx2 : ∀ x ∈ ts, x.n.x < 18446744073709551616)
    (hl3 : us.length ≤ 9223372036854775807) (hd3 : ∀ x ∈ us, x.n.d.length ≤ 9223372036854775807) (hdx3 : ∀ x ∈ us, x.n.x < 18446744073709551616) :
    DCalls Tryz.prog 4 [.c (.p (.sl 6 (Go.Dm.encI l))), .c (.p (.sl 8 (Go.Dm.encU ts))), .c (.p (.sl 8 (Go.Dm.encU us)))] [] fun r h => r = .c (.p (.b true)) ∧ h = [] := by
  refine ent tabOK hmix Tryz.func4 rfl rfl fun X0 hX => ?_
  simp only [Tryz.ntmps4, Tryz.f4, go_sem]
  repeat' (first | simp (maxSteps := 1000000) only [*, go_sem, Nat.reduceLT, Nat.reduceLeDiff, Nat.reduceEqDiff, ↓reduceIte, Nat.reduceAdd, Nat.reduceSub, Nat.reduceMul, Int.reduceLT, Int.reduceLE, Int.reduceAdd, Int.reduceSub, Int.reduceMul, Int.reduceNeg, Int.reduceToNat, Int.reduceEq, Int.reduceBEq, Int.reduceBNe, Nat.reduceBEq, beq_self_eq_true, bne_self_eq_false] | with_reducible refine vcond_split (fun _ => ?_) (fun _ => ?_) | with_reducible refine vg_split (fun _ => ?_) (fun _ => ?_) | ((with_reducible apply DCalls.frz); (focus exact rfl); (focus exact rfl)) | ((with_reducible refine And.intro ?_ ?_); (focus (first | omega | decide | assumption | (simp only [decide_eq_true_eq, decide_eq_false_iff_not] at *; omega)))))
  refine useNE (C := OkT) (e := fun t => .c (.p (.sl 5 (encT t)))) (tree_c hl hd hdx) rfl (fun _ _ _ => rfl) fun a ha => ?_
  repeat' (first | simp (maxSteps := 1000000) only [*, go_sem, Nat.reduceLT, Nat.reduceLeDiff, Nat.reduceEqDiff, ↓reduceIte, Nat.reduceAdd, Nat.reduceSub, Nat.reduceMul, Int.reduceLT, Int.reduceLE, Int.reduceAdd, Int.reduceSub, Int.reduceMul, Int.reduceNeg, Int.reduceToNat, Int.reduceEq, Int.reduceBEq, Int.reduceBNe, Nat.reduceBEq, beq_self_eq_true, bne_self_eq_false] | with_reducible refine vcond_split (fun _ => ?_) (fun _ => ?_) | with_reducible refine vg_split (fun _ => ?_) (fun _ => ?_) | ((with_reducible apply DCalls.frz); (focus exact rfl); (focus exact rfl)) | ((with_reducible refine And.intro ?_ ?_); (focus (first | omega | decide | assumption | (simp only [decide_eq_true_eq, decide_eq_false_iff_not] at *; omega)))))
  refine useNE (C := OkT) (e := fun t => .c (.p (.sl 5 (encT t)))) (turned_c ha hl2 hd2 hdx2) rfl (fun _ _ _ => rfl) fun b hb => ?_
  repeat' (first | simp (maxSteps := 1000000) only [*, go_sem, Nat.reduceLT, Nat.reduceLeDiff, Nat.reduceEqDiff, ↓reduceIte, Nat.reduceAdd, Nat.reduceSub, Nat.reduceMul, Int.reduceLT, Int.reduceLE, Int.reduceAdd, Int.reduceSub, Int.reduceMul, Int.reduceNeg, Int.reduceToNat, Int.reduceEq, Int.reduceBEq, Int.reduceBNe, Nat.reduceBEq, beq_self_eq_true, bne_self_eq_false] | with_reducible refine vcond_split (fun _ => ?_) (fun _ => ?_) | with_reducible refine vg_split (fun _ => ?_) (fun _ => ?_) | ((with_reducible apply DCalls.frz); (focus exact rfl); (focus exact rfl)) | ((with_reducible refine And.intro ?_ ?_); (focus (first | omega | decide | assumption | (simp only [decide_eq_true_eq, decide_eq_false_iff_not] at *; omega)))))
  refine useNE (C := OkT) (e := fun t => .c (.p (.sl 5 (encT t)))) (turned_c hb hl3 hd3 hdx3) rfl (fun _ _ _ => rfl) fun c hc => ?_
  have d1 := diff_c ha hb
  have d2 := diff_c hb hc
  have d3 := diff_c ha hc
  have p1 := applyD_c ha hb
  have p2 := applyD_c hb hc
  have p3 := applyD_c ha hc
  have s1 := sameT_c (a := c) (Nat.le_trans hc.len (by decide))
  clear hl hd hdx hl2 hd2 hdx2 hl3 hd3 hdx3 ha hb hc
  generalize diffF a b = x1 at *
  generalize diffF b c = x2 at *
  generalize diffF a c = x3 at *
  repeat' (first | simp (maxSteps := 1000000) only [*, go_sem, Nat.reduceLT, Nat.reduceLeDiff, Nat.reduceEqDiff, ↓reduceIte, Nat.reduceAdd, Nat.reduceSub, Nat.reduceMul, Int.reduceLT, Int.reduceLE, Int.reduceAdd, Int.reduceSub, Int.reduceMul, Int.reduceNeg, Int.reduceToNat, Int.reduceEq, Int.reduceBEq, Int.reduceBNe, Nat.reduceBEq, beq_self_eq_true, bne_self_eq_false, Bool.and_self, Bool.not_true, Bool.not_false] | ((with_reducible refine useN (d1) ?_ ?_ ?_); (focus exact rfl); (focus exact fun _ => rfl)) | ((with_reducible refine useN (d2) ?_ ?_ ?_); (focus exact rfl); (focus exact fun _ => rfl)) | ((with_reducible refine useN (d3) ?_ ?_ ?_); (focus exact rfl); (focus exact fun _ => rfl)) | ((with_reducible refine useN (p1) ?_ ?_ ?_); (focus exact rfl); (focus exact fun _ => rfl)) | ((with_reducible refine useN (p2) ?_ ?_ ?_); (focus exact rfl); (focus exact fun _ => rfl)) | ((with_reducible refine useN (p3) ?_ ?_ ?_); (focus exact rfl); (focus exact fun _ => rfl)) | ((with_reducible refine useF (s1) ?_ ?_ ?_); (focus exact rfl); (focus exact rfl)) | ((with_reducible refine useF (known19_c) ?_ ?_ ?_); (focus exact rfl); (focus exact rfl)) | with_reducible refine vcond_split (fun _ => ?_) (fun _ => ?_) | with_reducible refine vg_split (fun _ => ?_) (fun _ => ?_) | ((with_reducible apply DCalls.frz); (focus exact rfl); (focus exact rfl)) | ((with_reducible refine And.intro ?_ ?_); (focus (first | omega | decide | assumption | (simp only [decide_eq_true_eq, decide_eq_false_iff_not] at *; omega)))))
  all_goals first | rfl | simp | skip

end Go.Proofs.YtjanmkknbijecaaGreatDoor
