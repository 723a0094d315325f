/-
  Contracts: conflicts the other way round.
-/
import Derived.Test.YtjanmkknbijecaaGreatDoorM4
set_option linter.unusedSimpArgs false
set_option linter.unusedVariables false
namespace Go.Proofs.YtjanmkknbijecaaGreatDoor
open Go Go.Dm
set_option maxRecDepth 100000
set_option maxHeartbeats 4000000

theorem cloneF_nil : DCalls Tryz.prog 70 [.c (.p (.sl 2 []))] [] fun r h => r = .c (.p (.sl 2 [])) ∧ h = [] := by
  refine dcalls_wk ?_
  refine ent tabOK hmix Tryz.func70 rfl rfl fun X0 hX => ?_
  simp only [Tryz.ntmps70, Tryz.f70, go_sem]
  repeat' (first | simp (maxSteps := 1000000) only [*, go_sem, Nat.reduceLT, Nat.reduceLeDiff, Nat.reduceEqDiff, ↓reduceIte, Nat.reduceAdd, Nat.reduceSub, Nat.reduceMul, Int.reduceLT, Int.reduceLE, Int.reduceAdd, Int.reduceSub, Int.reduceMul, Int.reduceNeg, Int.reduceToNat, Int.reduceEq, Int.reduceBEq, Int.reduceBNe, Nat.reduceBEq, beq_self_eq_true, bne_self_eq_false] | with_reducible refine vcond_split (fun _ => ?_) (fun _ => ?_) | with_reducible refine vg_split (fun _ => ?_) (fun _ => ?_) | ((with_reducible apply DCalls.frz); (focus exact rfl); (focus exact rfl)) | ((with_reducible refine And.intro ?_ ?_); (focus (first | omega | decide | assumption | (simp only [decide_eq_true_eq, decide_eq_false_iff_not] at *; omega)))))
  exact ⟨.inr ⟨2, rfl⟩, rfl⟩

theorem cloneF_c {x : Cf} {l : List Cf} (hl : l.length ≤ 1000000) : DCalls Tryz.prog 70 [.c (.p (.sl 2 (encF (x :: l))))] [] fun r h => r = .c (.own 0 0 (x :: l).length) ∧ h = [.arr 2 (encF (x :: l)) false] := by
  rw [show encF (x :: l) = Cf.cs x :: encF l from rfl]
  refine entO tabOK hmix Tryz.func70 rfl rfl fun X0 hX => ?_
  simp only [Tryz.ntmps70, Tryz.f70, go_sem]
  repeat' (first | simp (maxSteps := 1000000) only [*, go_sem, Nat.reduceLT, Nat.reduceLeDiff, Nat.reduceEqDiff, ↓reduceIte, Nat.reduceAdd, Nat.reduceSub, Nat.reduceMul, Int.reduceLT, Int.reduceLE, Int.reduceAdd, Int.reduceSub, Int.reduceMul, Int.reduceNeg, Int.reduceToNat, Int.reduceEq, Int.reduceBEq, Int.reduceBNe, Nat.reduceBEq, beq_self_eq_true, bne_self_eq_false] | with_reducible refine vcond_split (fun _ => ?_) (fun _ => ?_) | with_reducible refine vg_split (fun _ => ?_) (fun _ => ?_) | ((with_reducible apply DCalls.frz); (focus exact rfl); (focus exact rfl)) | ((with_reducible refine And.intro ?_ ?_); (focus (first | omega | decide | assumption | (simp only [decide_eq_true_eq, decide_eq_false_iff_not] at *; omega)))))
  exact ⟨rfl, by omega, by omega, rfl, by omega, rfl, _, _, rfl, rfl, rfl⟩

theorem mirror_row {l : List Cf} {k : Nat} {x : Cf} (hx : l[k]? = some x) {kk : Int} (hk : mirK x.k = kk) : encF ((l.take (k + 1)).map mirC ++ l.drop (k + 1)) =
    (encF ((l.take k).map mirC ++ l.drop k)).set k [.s x.p, .i .i64 kk] := by
  obtain ⟨h1, rfl⟩ := List.getElem?_eq_some_iff.1 hx
  subst hk
  have e1 : l.drop k = l[k] :: l.drop (k + 1) := List.drop_eq_getElem_cons h1
  have e2 : l.take (k + 1) = l.take k ++ [l[k]] := by rw [List.take_add_one, List.getElem?_eq_getElem h1]; rfl
  have e3 : ((l.take k).map mirC).length = k := by simp; omega
  rw [e1, e2, List.map_append, List.append_assoc]
  generalize (l.take k).map mirC = A at e3
  generalize l.drop (k + 1) = B
  generalize l[k] = y
  unfold encF
  rw [List.map_append, List.map_append, List.map_append (l₂ := y :: B), List.set_append_right _ _ (by simp; omega)]
  simp [e3, Cf.cs, mirC]
theorem mirror_same {l : List Cf} {k : Nat} {x : Cf} (hx : l[k]? = some x) (hk : mirK x.k = x.k) : (l.take (k + 1)).map mirC ++ l.drop (k + 1) = (l.take k).map mirC ++ l.drop k := by
  obtain ⟨h1, rfl⟩ := List.getElem?_eq_some_iff.1 hx
  have e1 : l.drop k = l[k] :: l.drop (k + 1) := List.drop_eq_getElem_cons h1
  have e2 : l.take (k + 1) = l.take k ++ [l[k]] := by rw [List.take_add_one, List.getElem?_eq_getElem h1]; rfl
  have e3 : mirC l[k] = l[k] := by unfold mirC; rw [hk]
  rw [e1, e2, List.map_append, List.append_assoc, List.map_singleton, e3]
  rfl

theorem mirror_c {l : List Cf} (hl : l.length ≤ 1000000) : DCalls Tryz.prog 25 [.c (.p (.sl 2 (encF l)))] [] fun r h => r = .c (.p (.sl 2 (encF (mirrorF l)))) ∧ h = [] := by
  cases l with
  | nil =>
    have hm : mirrorF [] = [] := by simp [mirrorF, sortC]
    rw [hm]
    refine dcalls_wk ?_
    refine ent tabOK hmix Tryz.func25 rfl rfl fun X0 hX => ?_
    simp only [Tryz.ntmps25, Tryz.f25, go_sem]
    repeat' (first | simp (maxSteps := 1000000) only [*, go_sem, Nat.reduceLT, Nat.reduceLeDiff, Nat.reduceEqDiff, ↓reduceIte, Nat.reduceAdd, Nat.reduceSub, Nat.reduceMul, Int.reduceLT, Int.reduceLE, Int.reduceAdd, Int.reduceSub, Int.reduceMul, Int.reduceNeg, Int.reduceToNat, Int.reduceEq, Int.reduceBEq, Int.reduceBNe, Nat.reduceBEq, beq_self_eq_true, bne_self_eq_false] | ((with_reducible refine useN (cloneF_nil) ?_ ?_ ?_); (focus exact rfl); (focus exact fun _ => rfl)) | refine loop_rounds tabOK hmix 1 ?_ | refine sorted0_k ?_ | with_reducible refine vcond_split (fun _ => ?_) (fun _ => ?_) | with_reducible refine vg_split (fun _ => ?_) (fun _ => ?_) | ((with_reducible apply DCalls.frz); (focus exact rfl); (focus exact rfl)) | ((with_reducible refine And.intro ?_ ?_); (focus (first | omega | decide | assumption | (simp only [decide_eq_true_eq, decide_eq_false_iff_not] at *; omega)))))
    all_goals simp
  | cons x0 l0 =>
    have hc := cloneF_c (x := x0) (l := l0) (by rw [List.length_cons] at hl; omega)
    generalize x0 :: l0 = l at hl hc
    refine ent tabOK hmix Tryz.func25 rfl rfl fun X0 hX => ?_
    simp only [Tryz.ntmps25, Tryz.f25, go_sem]
    repeat' (first | simp (maxSteps := 1000000) only [*, go_sem, Nat.reduceLT, Nat.reduceLeDiff, Nat.reduceEqDiff, ↓reduceIte, Nat.reduceAdd, Nat.reduceSub, Nat.reduceMul, Int.reduceLT, Int.reduceLE, Int.reduceAdd, Int.reduceSub, Int.reduceMul, Int.reduceNeg, Int.reduceToNat, Int.reduceEq, Int.reduceBEq, Int.reduceBNe, Nat.reduceBEq, beq_self_eq_true, bne_self_eq_false] | refine useO hc rfl ?_ | with_reducible refine vcond_split (fun _ => ?_) (fun _ => ?_) | with_reducible refine vg_split (fun _ => ?_) (fun _ => ?_) | ((with_reducible apply DCalls.frz); (focus exact rfl); (focus exact rfl)) | ((with_reducible refine And.intro ?_ ?_); (focus (first | omega | decide | assumption | (simp only [decide_eq_true_eq, decide_eq_false_iff_not] at *; omega)))))
    refine loop_ren tabOK hmix (α := Nat) (fun k => ⟨32, [(3, .c (.own 0 0 l.length)), (8, .c (.own 0 0 l.length)), (9, .c (.p (.i .i64 l.length))), (10, .c (.p (.i .i64 k)))], [.arr 2 (encF ((l.take k).map mirC ++ l.drop k)) false]⟩)
      (fun k => k ≤ l.length) (fun k => l.length - k) 0 (Nat.zero_le _) (.inl (weak_mk (by rw [hX]; rfl) rfl rfl (by simp [wk_cons, wk_nil, look_cons, closedD, closedC, encT_nil, encS_nil, encC_nil]))) ?_
    intro k hk
    have hln : ((l.take k).map mirC ++ l.drop k).length = l.length := by simp; omega
    by_cases hlt : k < l.length
    · have hx : l[k]? = some l[k] := List.getElem?_eq_getElem hlt
      have h1 : decide ((k : Int) < (l.length : Int)) = true := decide_eq_true (by omega)
      have hli : (k : Int) < (l.length : Int) := by omega
      have hk0 : (0 : Int) ≤ k := by omega
      have w1 : IntKind.i64.wrap ((k : Int) + 1) = k + 1 := wrap_i64 (by omega) (by omega)
      have hxr : ((l.take k).map mirC ++ l.drop k)[k]? = some l[k] := by
        rw [List.getElem?_append_right (by simp; omega)]
        simp [Nat.min_eq_left hk]
      have hg := encF_at hxr
      generalize l[k] = x at hx hxr hg
      have hnx := fun kk => mirror_row (l := l) (x := x) hx (kk := kk)
      have hsm := mirror_same (l := l) (x := x) hx
      have hrl : k < (encF ((l.take k).map mirC ++ l.drop k)).length := by rw [encF_len, hln]; exact hlt
      generalize hrow : (l.take k).map mirC ++ l.drop k = row at hln hnx hsm hg hrl
      clear hx hrow hxr
      by_cases q1 : (x.k == 2) = true
      · have hb : mirK x.k = 3 := by rw [eq_of_beq q1]; rfl
        have hn := hnx 3 hb
        clear hnx hsm hb
        repeat' (first | simp (maxSteps := 1000000) only [*, go_sem, Nat.reduceLT, Nat.reduceLeDiff, Nat.reduceEqDiff, ↓reduceIte, Nat.reduceAdd, Nat.reduceSub, Nat.reduceMul, Int.reduceLT, Int.reduceLE, Int.reduceAdd, Int.reduceSub, Int.reduceMul, Int.reduceNeg, Int.reduceToNat, Int.reduceEq, Int.reduceBEq, Int.reduceBNe, Nat.reduceBEq, beq_self_eq_true, bne_self_eq_false] | with_reducible refine vcond_split (fun _ => ?_) (fun _ => ?_) | with_reducible refine vg_split (fun _ => ?_) (fun _ => ?_) | ((with_reducible apply DCalls.frz); (focus exact rfl); (focus exact rfl)) | ((with_reducible refine And.intro ?_ ?_); (focus (first | omega | decide | assumption | (simp only [decide_eq_true_eq, decide_eq_false_iff_not] at *; omega)))))
        exact qr_n (k + 1) (by omega) (by omega) (weak_mk rfl (by rw [hn]; rfl) rfl (by simp [wk_cons, wk_nil, look_cons, closedD, closedC, renT, renD, renC, encT_nil, encS_nil, encC_nil]))
      · have q1 : (x.k == 2) = false := by simpa using q1
        by_cases q2 : (x.k == 3) = true
        · have hb : mirK x.k = 2 := by rw [eq_of_beq q2]; rfl
          have hn := hnx 2 hb
          clear hnx hsm hb
          repeat' (first | simp (maxSteps := 1000000) only [*, go_sem, Nat.reduceLT, Nat.reduceLeDiff, Nat.reduceEqDiff, ↓reduceIte, Nat.reduceAdd, Nat.reduceSub, Nat.reduceMul, Int.reduceLT, Int.reduceLE, Int.reduceAdd, Int.reduceSub, Int.reduceMul, Int.reduceNeg, Int.reduceToNat, Int.reduceEq, Int.reduceBEq, Int.reduceBNe, Nat.reduceBEq, beq_self_eq_true, bne_self_eq_false] | with_reducible refine vcond_split (fun _ => ?_) (fun _ => ?_) | with_reducible refine vg_split (fun _ => ?_) (fun _ => ?_) | ((with_reducible apply DCalls.frz); (focus exact rfl); (focus exact rfl)) | ((with_reducible refine And.intro ?_ ?_); (focus (first | omega | decide | assumption | (simp only [decide_eq_true_eq, decide_eq_false_iff_not] at *; omega)))))
          exact qr_n (k + 1) (by omega) (by omega) (weak_mk rfl (by rw [hn]; rfl) rfl (by simp [wk_cons, wk_nil, look_cons, closedD, closedC, renT, renD, renC, encT_nil, encS_nil, encC_nil]))
        · have q2 : (x.k == 3) = false := by simpa using q2
          have hb : mirK x.k = x.k := by simp only [mirK, q1, q2, Bool.false_eq_true, if_false]
          have hn := hsm hb
          clear hnx hsm hb
          repeat' (first | simp (maxSteps := 1000000) only [*, go_sem, Nat.reduceLT, Nat.reduceLeDiff, Nat.reduceEqDiff, ↓reduceIte, Nat.reduceAdd, Nat.reduceSub, Nat.reduceMul, Int.reduceLT, Int.reduceLE, Int.reduceAdd, Int.reduceSub, Int.reduceMul, Int.reduceNeg, Int.reduceToNat, Int.reduceEq, Int.reduceBEq, Int.reduceBNe, Nat.reduceBEq, beq_self_eq_true, bne_self_eq_false] | with_reducible refine vcond_split (fun _ => ?_) (fun _ => ?_) | with_reducible refine vg_split (fun _ => ?_) (fun _ => ?_) | ((with_reducible apply DCalls.frz); (focus exact rfl); (focus exact rfl)) | ((with_reducible refine And.intro ?_ ?_); (focus (first | omega | decide | assumption | (simp only [decide_eq_true_eq, decide_eq_false_iff_not] at *; omega)))))
          exact qr_n (k + 1) (by omega) (by omega) (weak_mk rfl (by rw [hn]; rfl) rfl (by simp [wk_cons, wk_nil, look_cons, closedD, closedC, renT, renD, renC, encT_nil, encS_nil, encC_nil]))
    · have h1 : decide ((k : Int) < (l.length : Int)) = false := decide_eq_false (by omega)
      have hk2 : k = l.length := by omega
      subst hk2
      rw [List.take_length, List.drop_length, List.append_nil]
      have hml : (l.map mirC).length = l.length := List.length_map _
      have hsl : (sortC (l.map mirC)).length = l.length := by rw [sortC_len, hml]
      have hke : (sortC (l.map mirC)).take l.length = sortC (l.map mirC) := List.take_of_length_le (by omega)
      have hk' : ∀ (h : DHeap) (id : Nat) (K : DV → DHeap → Prop), h[id]? = some (.arr 2 (encF (l.map mirC)) false) → K (.c (.own id 0 l.length)) (h.set id (.arr 2 (encF (sortC (l.map mirC))) false)) → DCalls Tryz.prog 66 [.c (.own id 0 l.length)] h K := fun h id K h1 h2 => sorted_k h1 (by omega) (by omega) (by rw [hml]; exact h2)
      unfold mirrorF
      generalize l.map mirC = m at *
      clear hln hml
      repeat' (first | simp (maxSteps := 1000000) only [*, go_sem, Nat.reduceLT, Nat.reduceLeDiff, Nat.reduceEqDiff, ↓reduceIte, Nat.reduceAdd, Nat.reduceSub, Nat.reduceMul, Int.reduceLT, Int.reduceLE, Int.reduceAdd, Int.reduceSub, Int.reduceMul, Int.reduceNeg, Int.reduceToNat, Int.reduceEq, Int.reduceBEq, Int.reduceBNe, Nat.reduceBEq, beq_self_eq_true, bne_self_eq_false, List.set_cons_succ, List.set_cons_zero] | refine hk' _ _ _ rfl ?_ | with_reducible refine vcond_split (fun _ => ?_) (fun _ => ?_) | with_reducible refine vg_split (fun _ => ?_) (fun _ => ?_) | ((with_reducible apply DCalls.frz); (focus exact rfl); (focus exact rfl)) | ((with_reducible refine And.intro ?_ ?_); (focus (first | omega | decide | assumption | (simp only [decide_eq_true_eq, decide_eq_false_iff_not] at *; omega)))))

end Go.Proofs.YtjanmkknbijecaaGreatDoor
