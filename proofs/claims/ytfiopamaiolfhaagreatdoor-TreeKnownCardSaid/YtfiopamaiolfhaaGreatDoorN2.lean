/-
  Contracts of the program's trees: a node put.
-/
import Derived.Test.YtfiopamaiolfhaaGreatDoorN0
set_option linter.unusedSimpArgs false
set_option linter.unusedVariables false
namespace Go.Proofs.YtfiopamaiolfhaaGreatDoor
open Go Go.Dm Go.Proofs
set_option maxRecDepth 100000
set_option maxHeartbeats 8000000

theorem insAt_enc (t : List It) (i : Nat) (p : List UInt8) (k m : Int) (tt : Nat) (d : List UInt8) : insAt i [.s p, .i .i64 k, .i .i64 m, .f tt, .sl 1 (encB d)] (encT t) = encT (t.take i ++ ⟨p, ⟨k, m, tt, d⟩⟩ :: t.drop i) := by
  simp [insAt, encT, It.cs, List.map_take, List.map_drop]

/-- What comes of a row that is set, or longer by one. -/
theorem put_c {t : List It} {p : List UInt8} {k m : Int} {tt : Nat} {d : List UInt8} (h : OkT t) (hp : p.length ≤ 1000000000) (hd : d.length ≤ 140737488355328) (htt : tt < 18446744073709551616) :
    DCalls Tryz.prog 41 [.c (.p (.sl 5 (encT t))), .c (.p (.s p)), .agg (ndc k m tt d)] [] fun r h =>
      r = .tup [.c (.p (.sl 5 (encT (putR t p ⟨k, m, tt, d⟩).1))), .c (.p (.i .i64 (putR t p ⟨k, m, tt, d⟩).2))] ∧ h = [] := by
  have htl := h.len
  have hdl : ∀ x ∈ t, x.n.d.length ≤ 140737488355328 := fun x hx => Nat.le_trans (h.dlen x hx) (by decide)
  have hdir := treeIsDir_c (t := t) (p := dirOfR p) (by omega) h.srt
  have hpath := isPath_c hp
  have hnode := nodeRight_c (k := k) (m := m) (d := d) htt
  refine dcalls_wk ?_
  unfold putR
  cases q0 : (p == [])
  case true =>
    refine ent tabOK hmix Tryz.func41 rfl rfl fun X0 hX => ?_
    simp only [Tryz.ntmps41, Tryz.f41, go_sem]
    repeat' (first | simp (maxSteps := 1000000) only [*, go_sem, Nat.reduceLT, Nat.reduceLeDiff, Nat.reduceEqDiff, ↓reduceIte, Nat.reduceAdd, Nat.reduceSub, Nat.reduceMul, Int.reduceLT, Int.reduceLE, Int.reduceAdd, Int.reduceSub, Int.reduceMul, Int.reduceNeg, Int.reduceToNat, Int.reduceEq, Int.reduceBEq, Int.reduceBNe, Nat.reduceBEq, beq_self_eq_true, bne_self_eq_false, Bool.not_true, Bool.not_false] | ((with_reducible refine useF (hpath) ?_ ?_ ?_); (focus exact rfl); (focus exact rfl)) | ((with_reducible refine useF (hnode) ?_ ?_ ?_); (focus exact rfl); (focus exact rfl)) | ((with_reducible refine useF (hdir) ?_ ?_ ?_); (focus exact rfl); (focus exact rfl)) | with_reducible refine vcond_split (fun _ => ?_) (fun _ => ?_) | with_reducible refine vg_split (fun _ => ?_) (fun _ => ?_) | ((with_reducible apply DCalls.frz); (focus exact rfl); (focus exact rfl)) | ((with_reducible refine And.intro ?_ ?_); (focus (first | omega | decide | assumption | (simp only [decide_eq_true_eq, decide_eq_false_iff_not] at *; omega)))))
    all_goals simp
  cases q1 : isPathR p
  case false =>
    rw [q1] at hpath
    refine ent tabOK hmix Tryz.func41 rfl rfl fun X0 hX => ?_
    simp only [Tryz.ntmps41, Tryz.f41, go_sem]
    repeat' (first | simp (maxSteps := 1000000) only [*, go_sem, Nat.reduceLT, Nat.reduceLeDiff, Nat.reduceEqDiff, ↓reduceIte, Nat.reduceAdd, Nat.reduceSub, Nat.reduceMul, Int.reduceLT, Int.reduceLE, Int.reduceAdd, Int.reduceSub, Int.reduceMul, Int.reduceNeg, Int.reduceToNat, Int.reduceEq, Int.reduceBEq, Int.reduceBNe, Nat.reduceBEq, beq_self_eq_true, bne_self_eq_false, Bool.not_true, Bool.not_false] | ((with_reducible refine useF (hpath) ?_ ?_ ?_); (focus exact rfl); (focus exact rfl)) | ((with_reducible refine useF (hnode) ?_ ?_ ?_); (focus exact rfl); (focus exact rfl)) | ((with_reducible refine useF (hdir) ?_ ?_ ?_); (focus exact rfl); (focus exact rfl)) | with_reducible refine vcond_split (fun _ => ?_) (fun _ => ?_) | with_reducible refine vg_split (fun _ => ?_) (fun _ => ?_) | ((with_reducible apply DCalls.frz); (focus exact rfl); (focus exact rfl)) | ((with_reducible refine And.intro ?_ ?_); (focus (first | omega | decide | assumption | (simp only [decide_eq_true_eq, decide_eq_false_iff_not] at *; omega)))))
    all_goals simp
  cases q2 : rightNodeR ⟨k, m, tt, d⟩
  case false =>
    rw [q1] at hpath
    rw [q2] at hnode
    refine ent tabOK hmix Tryz.func41 rfl rfl fun X0 hX => ?_
    simp only [Tryz.ntmps41, Tryz.f41, go_sem]
    repeat' (first | simp (maxSteps := 1000000) only [*, go_sem, Nat.reduceLT, Nat.reduceLeDiff, Nat.reduceEqDiff, ↓reduceIte, Nat.reduceAdd, Nat.reduceSub, Nat.reduceMul, Int.reduceLT, Int.reduceLE, Int.reduceAdd, Int.reduceSub, Int.reduceMul, Int.reduceNeg, Int.reduceToNat, Int.reduceEq, Int.reduceBEq, Int.reduceBNe, Nat.reduceBEq, beq_self_eq_true, bne_self_eq_false, Bool.not_true, Bool.not_false] | ((with_reducible refine useF (hpath) ?_ ?_ ?_); (focus exact rfl); (focus exact rfl)) | ((with_reducible refine useF (hnode) ?_ ?_ ?_); (focus exact rfl); (focus exact rfl)) | ((with_reducible refine useF (hdir) ?_ ?_ ?_); (focus exact rfl); (focus exact rfl)) | with_reducible refine vcond_split (fun _ => ?_) (fun _ => ?_) | with_reducible refine vg_split (fun _ => ?_) (fun _ => ?_) | ((with_reducible apply DCalls.frz); (focus exact rfl); (focus exact rfl)) | ((with_reducible refine And.intro ?_ ?_); (focus (first | omega | decide | assumption | (simp only [decide_eq_true_eq, decide_eq_false_iff_not] at *; omega)))))
    all_goals simp
  cases q3 : isDirR t (dirOfR p)
  case false =>
    rw [q1] at hpath
    rw [q2] at hnode
    rw [q3] at hdir
    refine ent tabOK hmix Tryz.func41 rfl rfl fun X0 hX => ?_
    simp only [Tryz.ntmps41, Tryz.f41, go_sem]
    repeat' (first | simp (maxSteps := 1000000) only [*, go_sem, Nat.reduceLT, Nat.reduceLeDiff, Nat.reduceEqDiff, ↓reduceIte, Nat.reduceAdd, Nat.reduceSub, Nat.reduceMul, Int.reduceLT, Int.reduceLE, Int.reduceAdd, Int.reduceSub, Int.reduceMul, Int.reduceNeg, Int.reduceToNat, Int.reduceEq, Int.reduceBEq, Int.reduceBNe, Nat.reduceBEq, beq_self_eq_true, bne_self_eq_false, Bool.not_true, Bool.not_false] | ((with_reducible refine useF (hpath) ?_ ?_ ?_); (focus exact rfl); (focus exact rfl)) | ((with_reducible refine useF (hnode) ?_ ?_ ?_); (focus exact rfl); (focus exact rfl)) | ((with_reducible refine useF (nameDir_c hp) ?_ ?_ ?_); (focus exact rfl); (focus exact rfl)) | ((with_reducible refine useF (hdir) ?_ ?_ ?_); (focus exact rfl); (focus exact rfl)) | with_reducible refine vcond_split (fun _ => ?_) (fun _ => ?_) | with_reducible refine vg_split (fun _ => ?_) (fun _ => ?_) | ((with_reducible apply DCalls.frz); (focus exact rfl); (focus exact rfl)) | ((with_reducible refine And.intro ?_ ?_); (focus (first | omega | decide | assumption | (simp only [decide_eq_true_eq, decide_eq_false_iff_not] at *; omega)))))
    all_goals simp
  rw [q1] at hpath
  rw [q2] at hnode
  rw [q3] at hdir
  have e0 : (false || !true || !true) = false := rfl
  rw [e0, if_neg (by decide), if_neg (by decide)]
  clear e0 q1 q2 q3
  have hcp := copy_c (k := k) (m := m) (t := tt) (d := d) hd
  have hgo : (t.filter fun x => !goF p false x) = noneBelow t p := by
    unfold noneBelow
    congr 1
    funext x
    simp [goF]
  have hub := h.toOkT0.filter (fun x => !belowR p x.p)
  change OkT0 (noneBelow t p) at hub
  cases q4 : (k != 2)
  · simp only [Bool.false_eq_true, if_false]
    have hs := h.srt
    have hle0 : t.length ≤ (encT t).length := Nat.le_of_eq (encT_len t).symm
    have hes0 : (encT t).take t.length = encT t := List.take_of_length_le (Nat.le_of_eq (encT_len t))
    have hsl := setR_len t p ⟨k, m, tt, d⟩
    refine ent tabOK hmix Tryz.func41 rfl rfl fun X0 hX => ?_
    simp only [Tryz.ntmps41, Tryz.f41, go_sem]
    repeat' (first | simp (maxSteps := 1000000) only [*, go_sem, Nat.reduceLT, Nat.reduceLeDiff, Nat.reduceEqDiff, ↓reduceIte, Nat.reduceAdd, Nat.reduceSub, Nat.reduceMul, Int.reduceLT, Int.reduceLE, Int.reduceAdd, Int.reduceSub, Int.reduceMul, Int.reduceNeg, Int.reduceToNat, Int.reduceEq, Int.reduceBEq, Int.reduceBNe, Nat.reduceBEq, beq_self_eq_true, bne_self_eq_false, Bool.not_true, Bool.not_false] | ((with_reducible refine useF (hpath) ?_ ?_ ?_); (focus exact rfl); (focus exact rfl)) | ((with_reducible refine useF (hnode) ?_ ?_ ?_); (focus exact rfl); (focus exact rfl)) | ((with_reducible refine useF (nameDir_c hp) ?_ ?_ ?_); (focus exact rfl); (focus exact rfl)) | ((with_reducible refine useF (hdir) ?_ ?_ ?_); (focus exact rfl); (focus exact rfl)) | refine copyT_k (by omega) hdl ?_ | refine findO_k (i := 1) (t := t) rfl hes0 (by omega) hs ?_ | with_reducible refine vcond_split (fun _ => ?_) (fun _ => ?_) | with_reducible refine vg_split (fun _ => ?_) (fun _ => ?_) | ((with_reducible apply DCalls.frz); (focus exact rfl); (focus exact rfl)) | ((with_reducible refine And.intro ?_ ?_); (focus (first | omega | decide | assumption | (simp only [decide_eq_true_eq, decide_eq_false_iff_not] at *; omega)))))
    intro j hj
    unfold findE
    have hj1 := hj.1
    have hat : At t p j := hj
    cases hf : foundF t p j
    · have hnew := setR_new (n := ⟨k, m, tt, d⟩) hs hat (fun x hx => by unfold foundF at hf; rw [hx] at hf; exact hf)
      rw [hnew]
      have hln : (t.take j ++ (⟨p, ⟨k, m, tt, d⟩⟩ : It) :: t.drop j).length = t.length + 1 := by
        rw [List.length_append, List.length_cons, List.length_take, List.length_drop]; omega
      rw [hln]
      repeat' (first | simp (maxSteps := 1000000) only [*, go_sem, Nat.reduceLT, Nat.reduceLeDiff, Nat.reduceEqDiff, ↓reduceIte, Nat.reduceAdd, Nat.reduceSub, Nat.reduceMul, Int.reduceLT, Int.reduceLE, Int.reduceAdd, Int.reduceSub, Int.reduceMul, Int.reduceNeg, Int.reduceToNat, Int.reduceEq, Int.reduceBEq, Int.reduceBNe, Nat.reduceBEq, beq_self_eq_true, bne_self_eq_false, Bool.not_true, Bool.not_false] | ((with_reducible refine useN (hcp) ?_ ?_ ?_); (focus exact rfl); (focus exact fun _ => rfl)) | refine insert_k (x := [.s p, .i .i64 k, .i .i64 m, .f tt, .sl 1 (encB d)]) rfl rfl (by decide) hle0 hj1 (by omega) ?_ | with_reducible refine vcond_split (fun _ => ?_) (fun _ => ?_) | with_reducible refine vg_split (fun _ => ?_) (fun _ => ?_) | ((with_reducible apply DCalls.frz); (focus exact rfl); (focus exact rfl)) | ((with_reducible refine And.intro ?_ ?_); (focus (first | omega | decide | assumption | (simp only [decide_eq_true_eq, decide_eq_false_iff_not] at *; omega)))))
      all_goals first | exact .inr ⟨_, rfl⟩ | (rw [insAt_enc, List.take_of_length_le (by rw [encT_len, hln]; exact Nat.le_refl _)])
    · unfold foundF at hf
      have hlt : j < t.length := by
        rcases Nat.lt_or_ge j t.length with h | h
        · exact h
        · rw [List.getElem?_eq_none h] at hf; cases hf
      have hx : t[j]? = some t[j] := List.getElem?_eq_getElem hlt
      rw [hx] at hf
      have hset := setR_found (n := ⟨k, m, tt, d⟩) hs hat hx hf
      rw [hset]
      have hln : (t.set j ⟨p, ⟨k, m, tt, d⟩⟩).length = t.length := List.length_set
      rw [hln]
      have hjl : (j : Int) < (t.length : Int) := by omega
      have hgj := encT_at (t := t) (k := j) hx
      have hse := encT_set t j ⟨p, ⟨k, m, tt, d⟩⟩
      clear hx hf hset hat hj
      generalize t[j] = y at hgj
      repeat' (first | simp (maxSteps := 1000000) only [*, go_sem, Nat.reduceLT, Nat.reduceLeDiff, Nat.reduceEqDiff, ↓reduceIte, Nat.reduceAdd, Nat.reduceSub, Nat.reduceMul, Int.reduceLT, Int.reduceLE, Int.reduceAdd, Int.reduceSub, Int.reduceMul, Int.reduceNeg, Int.reduceToNat, Int.reduceEq, Int.reduceBEq, Int.reduceBNe, Nat.reduceBEq, beq_self_eq_true, bne_self_eq_false, Bool.not_true, Bool.not_false] | ((with_reducible refine useN (hcp) ?_ ?_ ?_); (focus exact rfl); (focus exact fun _ => rfl)) | with_reducible refine vcond_split (fun _ => ?_) (fun _ => ?_) | with_reducible refine vg_split (fun _ => ?_) (fun _ => ?_) | ((with_reducible apply DCalls.frz); (focus exact rfl); (focus exact rfl)) | ((with_reducible refine And.intro ?_ ?_); (focus (first | omega | decide | assumption | (simp only [decide_eq_true_eq, decide_eq_false_iff_not] at *; omega)))))
      all_goals first | exact .inr ⟨_, rfl⟩ | (rw [List.take_of_length_le (by rw [hln]; exact Nat.le_refl _)])
  · simp only [if_true]
    have hs := hub.srt
    have hul := noneBelow_len t p
    have hsl := setR_len (noneBelow t p) p ⟨k, m, tt, d⟩
    have hw : ∀ (h : DHeap) (K : DV → DHeap → Prop), (∀ es : List (List PV), es.take (noneBelow t p).length = encT (noneBelow t p) → K (.c (.own (2 + h.length) 0 (noneBelow t p).length)) (h ++ [.box [.p (.s p)], .box [.p (.b false)], .arr 5 es false])) →
        DCalls Tryz.prog 111 [.c (.p (.sl 5 (encT t))), .c (.p (.s p)), .c (.p (.b false))] h K := fun h K hk => by
      refine without_k hp (by omega) hdl ?_
      rw [hgo]; exact hk
    refine ent tabOK hmix Tryz.func41 rfl rfl fun X0 hX => ?_
    simp only [Tryz.ntmps41, Tryz.f41, go_sem]
    repeat' (first | simp (maxSteps := 1000000) only [*, go_sem, Nat.reduceLT, Nat.reduceLeDiff, Nat.reduceEqDiff, ↓reduceIte, Nat.reduceAdd, Nat.reduceSub, Nat.reduceMul, Int.reduceLT, Int.reduceLE, Int.reduceAdd, Int.reduceSub, Int.reduceMul, Int.reduceNeg, Int.reduceToNat, Int.reduceEq, Int.reduceBEq, Int.reduceBNe, Nat.reduceBEq, beq_self_eq_true, bne_self_eq_false, Bool.not_true, Bool.not_false] | ((with_reducible refine useF (hpath) ?_ ?_ ?_); (focus exact rfl); (focus exact rfl)) | ((with_reducible refine useF (hnode) ?_ ?_ ?_); (focus exact rfl); (focus exact rfl)) | ((with_reducible refine useF (nameDir_c hp) ?_ ?_ ?_); (focus exact rfl); (focus exact rfl)) | ((with_reducible refine useF (hdir) ?_ ?_ ?_); (focus exact rfl); (focus exact rfl)) | refine copyT_k (by omega) hdl ?_ | refine hw _ _ ?_ | with_reducible refine vcond_split (fun _ => ?_) (fun _ => ?_) | with_reducible refine vg_split (fun _ => ?_) (fun _ => ?_) | ((with_reducible apply DCalls.frz); (focus exact rfl); (focus exact rfl)) | ((with_reducible refine And.intro ?_ ?_); (focus (first | omega | decide | assumption | (simp only [decide_eq_true_eq, decide_eq_false_iff_not] at *; omega)))))
    intro es hes
    clear hw hgo
    generalize noneBelow t p = u at hub hs hul hsl hes ⊢
    have hle0 : u.length ≤ es.length := by
      have := congrArg List.length hes
      rw [List.length_take, encT_len] at this; omega
    repeat' (first | simp (maxSteps := 1000000) only [*, go_sem, Nat.reduceLT, Nat.reduceLeDiff, Nat.reduceEqDiff, ↓reduceIte, Nat.reduceAdd, Nat.reduceSub, Nat.reduceMul, Int.reduceLT, Int.reduceLE, Int.reduceAdd, Int.reduceSub, Int.reduceMul, Int.reduceNeg, Int.reduceToNat, Int.reduceEq, Int.reduceBEq, Int.reduceBNe, Nat.reduceBEq, beq_self_eq_true, bne_self_eq_false, Bool.not_true, Bool.not_false] | refine findO_k (i := 4) (t := u) rfl hes (by omega) hs ?_ | with_reducible refine vcond_split (fun _ => ?_) (fun _ => ?_) | with_reducible refine vg_split (fun _ => ?_) (fun _ => ?_) | ((with_reducible apply DCalls.frz); (focus exact rfl); (focus exact rfl)) | ((with_reducible refine And.intro ?_ ?_); (focus (first | omega | decide | assumption | (simp only [decide_eq_true_eq, decide_eq_false_iff_not] at *; omega)))))
    intro j hj
    unfold findE
    have hj1 := hj.1
    have hat : At u p j := hj
    cases hf : foundF u p j
    · have hnew := setR_new (n := ⟨k, m, tt, d⟩) hs hat (fun x hx => by unfold foundF at hf; rw [hx] at hf; exact hf)
      rw [hnew]
      have hln : (u.take j ++ (⟨p, ⟨k, m, tt, d⟩⟩ : It) :: u.drop j).length = u.length + 1 := by
        rw [List.length_append, List.length_cons, List.length_take, List.length_drop]; omega
      rw [hln]
      repeat' (first | simp (maxSteps := 1000000) only [*, go_sem, Nat.reduceLT, Nat.reduceLeDiff, Nat.reduceEqDiff, ↓reduceIte, Nat.reduceAdd, Nat.reduceSub, Nat.reduceMul, Int.reduceLT, Int.reduceLE, Int.reduceAdd, Int.reduceSub, Int.reduceMul, Int.reduceNeg, Int.reduceToNat, Int.reduceEq, Int.reduceBEq, Int.reduceBNe, Nat.reduceBEq, beq_self_eq_true, bne_self_eq_false, Bool.not_true, Bool.not_false] | ((with_reducible refine useN (hcp) ?_ ?_ ?_); (focus exact rfl); (focus exact fun _ => rfl)) | refine insert_k (x := [.s p, .i .i64 k, .i .i64 m, .f tt, .sl 1 (encB d)]) rfl rfl (by decide) hle0 hj1 (by omega) ?_ | with_reducible refine vcond_split (fun _ => ?_) (fun _ => ?_) | with_reducible refine vg_split (fun _ => ?_) (fun _ => ?_) | ((with_reducible apply DCalls.frz); (focus exact rfl); (focus exact rfl)) | ((with_reducible refine And.intro ?_ ?_); (focus (first | omega | decide | assumption | (simp only [decide_eq_true_eq, decide_eq_false_iff_not] at *; omega)))))
      all_goals first | exact .inr ⟨_, rfl⟩ | (rw [insAt_enc, List.take_of_length_le (by rw [encT_len, hln]; exact Nat.le_refl _)])
    · unfold foundF at hf
      have hlt : j < u.length := by
        rcases Nat.lt_or_ge j u.length with h | h
        · exact h
        · rw [List.getElem?_eq_none h] at hf; cases hf
      have hx : u[j]? = some u[j] := List.getElem?_eq_getElem hlt
      rw [hx] at hf
      have hset := setR_found (n := ⟨k, m, tt, d⟩) hs hat hx hf
      rw [hset]
      have hln : (u.set j ⟨p, ⟨k, m, tt, d⟩⟩).length = u.length := List.length_set
      rw [hln]
      have hjl : (j : Int) < (u.length : Int) := by omega
      have hgj : es.getD j [] = u[j].cs := by
        have h1 := encT_at (t := u) (k := j) hx
        rw [← hes, List.getD_eq_getElem?_getD, List.getElem?_take, if_pos hlt, ← List.getD_eq_getElem?_getD] at h1
        exact h1
      have hse : (es.set j [.s p, .i .i64 k, .i .i64 m, .f tt, .sl 1 (encB d)]).take u.length = encT (u.set j ⟨p, ⟨k, m, tt, d⟩⟩) := by
        rw [List.take_set, hes]
        exact encT_set u j ⟨p, ⟨k, m, tt, d⟩⟩
      have hje : (j : Int) < (es.length : Int) := by omega
      clear hx hf hset hat hj
      generalize u[j] = y at hgj
      unfold It.cs at hgj
      repeat' (first | simp (maxSteps := 1000000) only [*, go_sem, Nat.reduceLT, Nat.reduceLeDiff, Nat.reduceEqDiff, ↓reduceIte, Nat.reduceAdd, Nat.reduceSub, Nat.reduceMul, Int.reduceLT, Int.reduceLE, Int.reduceAdd, Int.reduceSub, Int.reduceMul, Int.reduceNeg, Int.reduceToNat, Int.reduceEq, Int.reduceBEq, Int.reduceBNe, Nat.reduceBEq, beq_self_eq_true, bne_self_eq_false, Bool.not_true, Bool.not_false] | ((with_reducible refine useN (hcp) ?_ ?_ ?_); (focus exact rfl); (focus exact fun _ => rfl)) | with_reducible refine vcond_split (fun _ => ?_) (fun _ => ?_) | with_reducible refine vg_split (fun _ => ?_) (fun _ => ?_) | ((with_reducible apply DCalls.frz); (focus exact rfl); (focus exact rfl)) | ((with_reducible refine And.intro ?_ ?_); (focus (first | omega | decide | assumption | (simp only [decide_eq_true_eq, decide_eq_false_iff_not] at *; omega)))))
      all_goals first | exact .inr ⟨_, rfl⟩ | rw [hse]
end Go.Proofs.YtfiopamaiolfhaaGreatDoor
