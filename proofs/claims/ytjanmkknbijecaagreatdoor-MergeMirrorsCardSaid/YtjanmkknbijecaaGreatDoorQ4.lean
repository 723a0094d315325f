/-
  The law of merges' mirrors, walked.
-/
import Derived.Test.YtjanmkknbijecaaGreatDoorM6
import Derived.Test.YtjanmkknbijecaaGreatDoorC4
import Derived.Test.YtjanmkknbijecaaGreatDoorD10
set_option linter.unusedSimpArgs false
set_option linter.unusedVariables false
namespace Go.Proofs.YtjanmkknbijecaaGreatDoor
open Go Go.Dm
set_option maxRecDepth 100000
set_option maxHeartbeats 8000000

theorem mergeMirrors_c {l : List RI} {ts us : List RU} (hl : l.length ≤ 9223372036854775807) (hd : ∀ x ∈ l, x.n.d.length ≤ 9223372036854775807) (hdx : ∀ x ∈ l, x.n.x < 18446744073709551616)
    (hl2 : ts.length ≤ 9223372036854775807) (hd2 : ∀ x ∈ ts, x.n.d.length ≤ 9223372036854775807) (hdx2 : ∀ x ∈ ts, x.n.x < 18446744073709551616)
    (hl3 : us.length ≤ 9223372036854775807) (hd3 : ∀ x ∈ us, x.n.d.length ≤ 9223372036854775807) (hdx3 : ∀ x ∈ us, x.n.x < 18446744073709551616) :
    DCalls Tryz.prog 11 [.c (.p (.sl 6 (Go.Dm.encI l))), .c (.p (.sl 8 (Go.Dm.encU ts))), .c (.p (.sl 8 (Go.Dm.encU us)))] [] fun r h => r = .c (.p (.b true)) ∧ h = [] := by
  refine ent tabOK hmix Tryz.func11 rfl rfl fun X0 hX => ?_
  simp only [Tryz.ntmps11, Tryz.f11, go_sem]
  repeat' (first | simp (maxSteps := 1000000) only [*, go_sem, Nat.reduceLT, Nat.reduceLeDiff, Nat.reduceEqDiff, ↓reduceIte, Nat.reduceAdd, Nat.reduceSub, Nat.reduceMul, Int.reduceLT, Int.reduceLE, Int.reduceAdd, Int.reduceSub, Int.reduceMul, Int.reduceNeg, Int.reduceToNat, Int.reduceEq, Int.reduceBEq, Int.reduceBNe, Nat.reduceBEq, beq_self_eq_true, bne_self_eq_false] | with_reducible refine vcond_split (fun _ => ?_) (fun _ => ?_) | with_reducible refine vg_split (fun _ => ?_) (fun _ => ?_) | ((with_reducible apply DCalls.frz); (focus exact rfl); (focus exact rfl)) | ((with_reducible refine And.intro ?_ ?_); (focus (first | omega | decide | assumption | (simp only [decide_eq_true_eq, decide_eq_false_iff_not] at *; omega)))))
  refine useNE (C := OkT) (e := fun t => .c (.p (.sl 5 (encT t)))) (tree_c hl hd hdx) rfl (fun _ _ _ => rfl) fun b hb => ?_
  repeat' (first | simp (maxSteps := 1000000) only [*, go_sem, Nat.reduceLT, Nat.reduceLeDiff, Nat.reduceEqDiff, ↓reduceIte, Nat.reduceAdd, Nat.reduceSub, Nat.reduceMul, Int.reduceLT, Int.reduceLE, Int.reduceAdd, Int.reduceSub, Int.reduceMul, Int.reduceNeg, Int.reduceToNat, Int.reduceEq, Int.reduceBEq, Int.reduceBNe, Nat.reduceBEq, beq_self_eq_true, bne_self_eq_false] | with_reducible refine vcond_split (fun _ => ?_) (fun _ => ?_) | with_reducible refine vg_split (fun _ => ?_) (fun _ => ?_) | ((with_reducible apply DCalls.frz); (focus exact rfl); (focus exact rfl)) | ((with_reducible refine And.intro ?_ ?_); (focus (first | omega | decide | assumption | (simp only [decide_eq_true_eq, decide_eq_false_iff_not] at *; omega)))))
  refine useNE (C := OkT) (e := fun t => .c (.p (.sl 5 (encT t)))) (turned_c hb hl2 hd2 hdx2) rfl (fun _ _ _ => rfl) fun o ho => ?_
  repeat' (first | simp (maxSteps := 1000000) only [*, go_sem, Nat.reduceLT, Nat.reduceLeDiff, Nat.reduceEqDiff, ↓reduceIte, Nat.reduceAdd, Nat.reduceSub, Nat.reduceMul, Int.reduceLT, Int.reduceLE, Int.reduceAdd, Int.reduceSub, Int.reduceMul, Int.reduceNeg, Int.reduceToNat, Int.reduceEq, Int.reduceBEq, Int.reduceBNe, Nat.reduceBEq, beq_self_eq_true, bne_self_eq_false] | with_reducible refine vcond_split (fun _ => ?_) (fun _ => ?_) | with_reducible refine vg_split (fun _ => ?_) (fun _ => ?_) | ((with_reducible apply DCalls.frz); (focus exact rfl); (focus exact rfl)) | ((with_reducible refine And.intro ?_ ?_); (focus (first | omega | decide | assumption | (simp only [decide_eq_true_eq, decide_eq_false_iff_not] at *; omega)))))
  refine useNE (C := OkT) (e := fun t => .c (.p (.sl 5 (encT t)))) (turned_c hb hl3 hd3 hdx3) rfl (fun _ _ _ => rfl) fun t ht => ?_
  have e1 := hb.len
  have e2 := ho.len
  have e3 := ht.len
  have m1 := merge_c hb.s ho.s hb.s
  rw [merge_ours hb ho] at m1
  have m2 := merge_c hb.s hb.s ht.s
  rw [merge_theirs hb ht] at m2
  have m3 := merge_c hb.s ho.s ho.s
  rw [merge_both hb ho] at m3
  have m4 := merge_c hb.s ho.s ht.s
  have m5 := merge_c hb.s ht.s ho.s
  rw [(mergeF_swap hb ho ht).1, (mergeF_swap hb ho ht).2] at m5
  simp only at m1 m2 m3
  have hbl := badF_len b o t
  have hol := outF_len b o t
  obtain ⟨hxl, hfl, hz⟩ : (mergeF b o t).1.length ≤ 1000 ∧ (mergeF b o t).2.length ≤ 2000 ∧ ((((mergeF b o t).2.length : Int) == 0) = true ∨ ((((mergeF b o t).2.length : Int) == 0) = false ∧ (((mergeF b o t).1.length : Int) == 0) = true)) := by
    unfold mergeF
    split
    · exact ⟨by simp only; omega, by simp, .inl rfl⟩
    · rename_i hne
      exact ⟨by simp, by simp only; omega, .inr ⟨by simpa using hne, rfl⟩⟩
  have hmi := mirror_c (l := (mergeF b o t).2) (by omega)
  have hml : (mirrorF (mergeF b o t).2).length ≤ 1000000 := by unfold mirrorF; rw [sortC_len, List.length_map]; omega
  have s1 := sameT_c (a := o) (by omega)
  have s2 := sameT_c (a := t) (by omega)
  have s4 := sameT_c (a := (mergeF b o t).1) (by omega)
  have s5 := sameF_c (a := mirrorF (mergeF b o t).2) hml
  clear hbl hol hl hd hdx hl2 hd2 hdx2 hl3 hd3 hdx3 e1 e2 e3
  generalize mirrorF (mergeF b o t).2 = g at *
  generalize (mergeF b o t).2 = f at *
  generalize (mergeF b o t).1 = x at *
  rcases hz with z1 | ⟨z1, z2⟩
  all_goals repeat' (first | simp (maxSteps := 1000000) only [*, go_sem, Nat.reduceLT, Nat.reduceLeDiff, Nat.reduceEqDiff, ↓reduceIte, Nat.reduceAdd, Nat.reduceSub, Nat.reduceMul, Int.reduceLT, Int.reduceLE, Int.reduceAdd, Int.reduceSub, Int.reduceMul, Int.reduceNeg, Int.reduceToNat, Int.reduceEq, Int.reduceBEq, Int.reduceBNe, Nat.reduceBEq, beq_self_eq_true, bne_self_eq_false, encF_nil, encT_nil, List.length_nil] | ((with_reducible refine useN (m1) ?_ ?_ ?_); (focus exact rfl); (focus exact fun _ => rfl)) | ((with_reducible refine useN (m2) ?_ ?_ ?_); (focus exact rfl); (focus exact fun _ => rfl)) | ((with_reducible refine useN (m3) ?_ ?_ ?_); (focus exact rfl); (focus exact fun _ => rfl)) | ((with_reducible refine useN (m4) ?_ ?_ ?_); (focus exact rfl); (focus exact fun _ => rfl)) | ((with_reducible refine useN (m5) ?_ ?_ ?_); (focus exact rfl); (focus exact fun _ => rfl)) | ((with_reducible refine useN (hmi) ?_ ?_ ?_); (focus exact rfl); (focus exact fun _ => rfl)) | ((with_reducible refine useF (s1) ?_ ?_ ?_); (focus exact rfl); (focus exact rfl)) | ((with_reducible refine useF (s2) ?_ ?_ ?_); (focus exact rfl); (focus exact rfl)) | ((with_reducible refine useF (s4) ?_ ?_ ?_); (focus exact rfl); (focus exact rfl)) | ((with_reducible refine useF (s5) ?_ ?_ ?_); (focus exact rfl); (focus exact rfl)) | ((with_reducible refine useF (known20_c) ?_ ?_ ?_); (focus exact rfl); (focus exact rfl)) | with_reducible refine vcond_split (fun _ => ?_) (fun _ => ?_) | with_reducible refine vg_split (fun _ => ?_) (fun _ => ?_) | ((with_reducible apply DCalls.frz); (focus exact rfl); (focus exact rfl)) | ((with_reducible refine And.intro ?_ ?_); (focus (first | omega | decide | assumption | (simp only [decide_eq_true_eq, decide_eq_false_iff_not] at *; omega)))))
  all_goals first | rfl | simp | skip

end Go.Proofs.YtjanmkknbijecaaGreatDoor
