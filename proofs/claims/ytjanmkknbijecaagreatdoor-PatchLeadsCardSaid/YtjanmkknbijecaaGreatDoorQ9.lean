/-
  The law of changes that lead from one tree to another, walked.
-/
import Derived.Test.YtjanmkknbijecaaGreatDoorQ8
import Derived.Test.YtjanmkknbijecaaGreatDoorD17
set_option linter.unusedSimpArgs false
set_option linter.unusedVariables false
namespace Go.Proofs.YtjanmkknbijecaaGreatDoor
open Go Go.Dm
set_option maxRecDepth 100000
set_option maxHeartbeats 8000000

theorem backD_c {a b : List It} (ha : OkT a) (hb : OkT b) : DCalls Tryz.prog 21 [.c (.p (.sl 10 (encC (diffF a b))))] [] fun r h => r = .c (.p (.sl 10 (encC (diffF b a)))) ∧ h = [] := by
  obtain ⟨h1, _, h3⟩ := diffB ha hb
  have := back_c (l := diffF a b) (by omega) (fun x hx => ⟨by rw [(diffF_nodes hx).1]; exact Nat.le_trans (ha.getd _) (by decide), h3 x hx⟩)
  rw [diffF_back ha hb] at this
  exact this

/-- What the law does with two trees. -/
theorem again_c {a b : List It} (ha : OkT a) (hb : OkT b) : ∃ (u : List It) (e : Int), (((e == 0) = true ∧ (((diffF a b).length : Int) == 0) = true) ∨ ((e == 0) = false ∧ (e == 17) = true ∧ (((diffF a b).length : Int) == 0) = false)) ∧
    DCalls Tryz.prog 16 [.c (.p (.sl 5 (encT b))), .c (.p (.sl 10 (encC (diffF a b))))] [] fun r h => r = .tup [.c (.p (.sl 5 (encT u))), .c (.p (.i .i64 e))] ∧ h = [] := by
  obtain ⟨h1, h2, h3⟩ := diffB ha hb
  have hg := applyG_c hb h1 h2 h3
  by_cases hn : diffF a b = []
  · refine ⟨b, 0, .inl ⟨rfl, by rw [hn]; rfl⟩, ?_⟩
    have h0 := apply_diff hb hb
    rw [diffF_self hb] at h0
    rw [hn, h0] at hg
    rw [hn]
    exact hg
  · refine ⟨[], 17, .inr ⟨rfl, rfl, ?_⟩, ?_⟩
    · cases hl : diffF a b with
      | nil => exact absurd hl hn
      | cons c l => simp; omega
    · rw [apply_twice ha hb hn] at hg
      exact hg

theorem patchLeads_c {l l' : List RI} {ts : List RU} (hl : l.length ≤ 9223372036854775807) (hd : ∀ x ∈ l, x.n.d.length ≤ 9223372036854775807) (hdx : ∀ x ∈ l, x.n.x < 18446744073709551616)
    (hl2 : ts.length ≤ 9223372036854775807) (hd2 : ∀ x ∈ ts, x.n.d.length ≤ 9223372036854775807) (hdx2 : ∀ x ∈ ts, x.n.x < 18446744073709551616)
    (hl3 : l'.length ≤ 9223372036854775807) (hd3 : ∀ x ∈ l', x.n.d.length ≤ 9223372036854775807) (hdx3 : ∀ x ∈ l', x.n.x < 18446744073709551616) (near : Bool) :
    DCalls Tryz.prog 5 [.c (.p (.sl 6 (Go.Dm.encI l))), .c (.p (.sl 8 (Go.Dm.encU ts))), .c (.p (.sl 6 (Go.Dm.encI l'))), .c (.p (.b near))] [] fun r h => r = .c (.p (.b true)) ∧ h = [] := by
  cases near
  · have h00 := hl
    clear h00
    refine ent tabOK hmix Tryz.func5 rfl rfl fun X0 hX => ?_
    simp only [Tryz.ntmps5, Tryz.f5, go_sem]
    repeat' (first | simp (maxSteps := 1000000) only [*, go_sem, Nat.reduceLT, Nat.reduceLeDiff, Nat.reduceEqDiff, ↓reduceIte, Nat.reduceAdd, Nat.reduceSub, Nat.reduceMul, Int.reduceLT, Int.reduceLE, Int.reduceAdd, Int.reduceSub, Int.reduceMul, Int.reduceNeg, Int.reduceToNat, Int.reduceEq, Int.reduceBEq, Int.reduceBNe, Nat.reduceBEq, beq_self_eq_true, bne_self_eq_false] | with_reducible refine vcond_split (fun _ => ?_) (fun _ => ?_) | with_reducible refine vg_split (fun _ => ?_) (fun _ => ?_) | ((with_reducible apply DCalls.frz); (focus exact rfl); (focus exact rfl)) | ((with_reducible refine And.intro ?_ ?_); (focus (first | omega | decide | assumption | (simp only [decide_eq_true_eq, decide_eq_false_iff_not] at *; omega)))))
    refine useNE (C := OkT) (e := fun t => .c (.p (.sl 5 (encT t)))) (tree_c hl hd hdx) rfl (fun _ _ _ => rfl) fun a ha => ?_
    repeat' (first | simp (maxSteps := 1000000) only [*, go_sem, Nat.reduceLT, Nat.reduceLeDiff, Nat.reduceEqDiff, ↓reduceIte, Nat.reduceAdd, Nat.reduceSub, Nat.reduceMul, Int.reduceLT, Int.reduceLE, Int.reduceAdd, Int.reduceSub, Int.reduceMul, Int.reduceNeg, Int.reduceToNat, Int.reduceEq, Int.reduceBEq, Int.reduceBNe, Nat.reduceBEq, beq_self_eq_true, bne_self_eq_false] | with_reducible refine vcond_split (fun _ => ?_) (fun _ => ?_) | with_reducible refine vg_split (fun _ => ?_) (fun _ => ?_) | ((with_reducible apply DCalls.frz); (focus exact rfl); (focus exact rfl)) | ((with_reducible refine And.intro ?_ ?_); (focus (first | omega | decide | assumption | (simp only [decide_eq_true_eq, decide_eq_false_iff_not] at *; omega)))))
    refine useNE (C := OkT) (e := fun t => .c (.p (.sl 5 (encT t)))) (tree_c hl3 hd3 hdx3) rfl (fun _ _ _ => rfl) fun b hb => ?_
    have d1 := diff_c ha hb
    have p1 := applyD_c ha hb
    have k1 := backD_c ha hb
    have p2 := applyD_c hb ha
    obtain ⟨u, e, he, p3⟩ := again_c ha hb
    have s1 := sameT_c (a := a) (Nat.le_trans ha.len (by decide))
    have s2 := sameT_c (a := b) (Nat.le_trans hb.len (by decide))
    have hlx : ((diffF a b).length : Int) ≤ 100000 := by have := (diffB ha hb).1; omega
    clear hl hd hdx hl2 hd2 hdx2 hl3 hd3 hdx3 ha hb
    generalize diffF a b = x1 at *
    generalize diffF b a = x2 at *
    rcases he with ⟨e1, e2⟩ | ⟨e1, e2, e3⟩
    all_goals repeat' (first | simp (maxSteps := 1000000) only [*, go_sem, Nat.reduceLT, Nat.reduceLeDiff, Nat.reduceEqDiff, ↓reduceIte, Nat.reduceAdd, Nat.reduceSub, Nat.reduceMul, Int.reduceLT, Int.reduceLE, Int.reduceAdd, Int.reduceSub, Int.reduceMul, Int.reduceNeg, Int.reduceToNat, Int.reduceEq, Int.reduceBEq, Int.reduceBNe, Nat.reduceBEq, beq_self_eq_true, bne_self_eq_false, Bool.and_self, Bool.not_true, Bool.not_false] | ((with_reducible refine useN (d1) ?_ ?_ ?_); (focus exact rfl); (focus exact fun _ => rfl)) | ((with_reducible refine useN (k1) ?_ ?_ ?_); (focus exact rfl); (focus exact fun _ => rfl)) | ((with_reducible refine useN (p1) ?_ ?_ ?_); (focus exact rfl); (focus exact fun _ => rfl)) | ((with_reducible refine useN (p2) ?_ ?_ ?_); (focus exact rfl); (focus exact fun _ => rfl)) | ((with_reducible refine useN (p3) ?_ ?_ ?_); (focus exact rfl); (focus exact fun _ => rfl)) | ((with_reducible refine useF (s1) ?_ ?_ ?_); (focus exact rfl); (focus exact rfl)) | ((with_reducible refine useF (s2) ?_ ?_ ?_); (focus exact rfl); (focus exact rfl)) | ((with_reducible refine useF (known19_c) ?_ ?_ ?_); (focus exact rfl); (focus exact rfl)) | with_reducible refine vcond_split (fun _ => ?_) (fun _ => ?_) | with_reducible refine vg_split (fun _ => ?_) (fun _ => ?_) | ((with_reducible apply DCalls.frz); (focus exact rfl); (focus exact rfl)) | ((with_reducible refine And.intro ?_ ?_); (focus (first | omega | decide | assumption | (simp only [decide_eq_true_eq, decide_eq_false_iff_not] at *; omega)))))
    all_goals first | rfl | simp | skip
  · have h00 := hl
    clear h00
    refine ent tabOK hmix Tryz.func5 rfl rfl fun X0 hX => ?_
    simp only [Tryz.ntmps5, Tryz.f5, go_sem]
    repeat' (first | simp (maxSteps := 1000000) only [*, go_sem, Nat.reduceLT, Nat.reduceLeDiff, Nat.reduceEqDiff, ↓reduceIte, Nat.reduceAdd, Nat.reduceSub, Nat.reduceMul, Int.reduceLT, Int.reduceLE, Int.reduceAdd, Int.reduceSub, Int.reduceMul, Int.reduceNeg, Int.reduceToNat, Int.reduceEq, Int.reduceBEq, Int.reduceBNe, Nat.reduceBEq, beq_self_eq_true, bne_self_eq_false] | with_reducible refine vcond_split (fun _ => ?_) (fun _ => ?_) | with_reducible refine vg_split (fun _ => ?_) (fun _ => ?_) | ((with_reducible apply DCalls.frz); (focus exact rfl); (focus exact rfl)) | ((with_reducible refine And.intro ?_ ?_); (focus (first | omega | decide | assumption | (simp only [decide_eq_true_eq, decide_eq_false_iff_not] at *; omega)))))
    refine useNE (C := OkT) (e := fun t => .c (.p (.sl 5 (encT t)))) (tree_c hl hd hdx) rfl (fun _ _ _ => rfl) fun a ha => ?_
    repeat' (first | simp (maxSteps := 1000000) only [*, go_sem, Nat.reduceLT, Nat.reduceLeDiff, Nat.reduceEqDiff, ↓reduceIte, Nat.reduceAdd, Nat.reduceSub, Nat.reduceMul, Int.reduceLT, Int.reduceLE, Int.reduceAdd, Int.reduceSub, Int.reduceMul, Int.reduceNeg, Int.reduceToNat, Int.reduceEq, Int.reduceBEq, Int.reduceBNe, Nat.reduceBEq, beq_self_eq_true, bne_self_eq_false] | with_reducible refine vcond_split (fun _ => ?_) (fun _ => ?_) | with_reducible refine vg_split (fun _ => ?_) (fun _ => ?_) | ((with_reducible apply DCalls.frz); (focus exact rfl); (focus exact rfl)) | ((with_reducible refine And.intro ?_ ?_); (focus (first | omega | decide | assumption | (simp only [decide_eq_true_eq, decide_eq_false_iff_not] at *; omega)))))
    refine useNE (C := OkT) (e := fun t => .c (.p (.sl 5 (encT t)))) (tree_c hl3 hd3 hdx3) rfl (fun _ _ _ => rfl) fun b0 hb0 => ?_
    repeat' (first | simp (maxSteps := 1000000) only [*, go_sem, Nat.reduceLT, Nat.reduceLeDiff, Nat.reduceEqDiff, ↓reduceIte, Nat.reduceAdd, Nat.reduceSub, Nat.reduceMul, Int.reduceLT, Int.reduceLE, Int.reduceAdd, Int.reduceSub, Int.reduceMul, Int.reduceNeg, Int.reduceToNat, Int.reduceEq, Int.reduceBEq, Int.reduceBNe, Nat.reduceBEq, beq_self_eq_true, bne_self_eq_false] | with_reducible refine vcond_split (fun _ => ?_) (fun _ => ?_) | with_reducible refine vg_split (fun _ => ?_) (fun _ => ?_) | ((with_reducible apply DCalls.frz); (focus exact rfl); (focus exact rfl)) | ((with_reducible refine And.intro ?_ ?_); (focus (first | omega | decide | assumption | (simp only [decide_eq_true_eq, decide_eq_false_iff_not] at *; omega)))))
    refine useNE (C := OkT) (e := fun t => .c (.p (.sl 5 (encT t)))) (turned_c ha hl2 hd2 hdx2) rfl (fun _ _ _ => rfl) fun b hb => ?_
    clear hb0
    have d1 := diff_c ha hb
    have p1 := applyD_c ha hb
    have k1 := backD_c ha hb
    have p2 := applyD_c hb ha
    obtain ⟨u, e, he, p3⟩ := again_c ha hb
    have s1 := sameT_c (a := a) (Nat.le_trans ha.len (by decide))
    have s2 := sameT_c (a := b) (Nat.le_trans hb.len (by decide))
    have hlx : ((diffF a b).length : Int) ≤ 100000 := by have := (diffB ha hb).1; omega
    clear hl hd hdx hl2 hd2 hdx2 hl3 hd3 hdx3 ha hb
    generalize diffF a b = x1 at *
    generalize diffF b a = x2 at *
    rcases he with ⟨e1, e2⟩ | ⟨e1, e2, e3⟩
    all_goals repeat' (first | simp (maxSteps := 1000000) only [*, go_sem, Nat.reduceLT, Nat.reduceLeDiff, Nat.reduceEqDiff, ↓reduceIte, Nat.reduceAdd, Nat.reduceSub, Nat.reduceMul, Int.reduceLT, Int.reduceLE, Int.reduceAdd, Int.reduceSub, Int.reduceMul, Int.reduceNeg, Int.reduceToNat, Int.reduceEq, Int.reduceBEq, Int.reduceBNe, Nat.reduceBEq, beq_self_eq_true, bne_self_eq_false, Bool.and_self, Bool.not_true, Bool.not_false] | ((with_reducible refine useN (d1) ?_ ?_ ?_); (focus exact rfl); (focus exact fun _ => rfl)) | ((with_reducible refine useN (k1) ?_ ?_ ?_); (focus exact rfl); (focus exact fun _ => rfl)) | ((with_reducible refine useN (p1) ?_ ?_ ?_); (focus exact rfl); (focus exact fun _ => rfl)) | ((with_reducible refine useN (p2) ?_ ?_ ?_); (focus exact rfl); (focus exact fun _ => rfl)) | ((with_reducible refine useN (p3) ?_ ?_ ?_); (focus exact rfl); (focus exact fun _ => rfl)) | ((with_reducible refine useF (s1) ?_ ?_ ?_); (focus exact rfl); (focus exact rfl)) | ((with_reducible refine useF (s2) ?_ ?_ ?_); (focus exact rfl); (focus exact rfl)) | ((with_reducible refine useF (known19_c) ?_ ?_ ?_); (focus exact rfl); (focus exact rfl)) | with_reducible refine vcond_split (fun _ => ?_) (fun _ => ?_) | with_reducible refine vg_split (fun _ => ?_) (fun _ => ?_) | ((with_reducible apply DCalls.frz); (focus exact rfl); (focus exact rfl)) | ((with_reducible refine And.intro ?_ ?_); (focus (first | omega | decide | assumption | (simp only [decide_eq_true_eq, decide_eq_false_iff_not] at *; omega)))))
    all_goals first | rfl | simp | skip

end Go.Proofs.YtjanmkknbijecaaGreatDoor
