/-
  Contracts of a diff turned round, and of two diffs' sameness.
-/
import Derived.Test.YtjanmkknbijecaaGreatDoorD10
import Derived.Test.YtjanmkknbijecaaGreatDoorSC
import Derived.Test.YtjanmkknbijecaaGreatDoorVB
set_option linter.unusedSimpArgs false
set_option linter.unusedVariables false
namespace Go.Proofs.YtjanmkknbijecaaGreatDoor
open Go Go.Dm
set_option maxRecDepth 100000
set_option maxHeartbeats 4000000

theorem cloneCh_nil : DCalls Tryz.prog 61 [.c (.p (.sl 10 []))] [] fun r h => r = .c (.p (.sl 10 [])) ∧ h = [] := by
  refine dcalls_wk ?_
  refine ent tabOK hmix Tryz.func61 rfl rfl fun X0 hX => ?_
  simp only [Tryz.ntmps61, Tryz.f61, go_sem]
  repeat' (first | simp (maxSteps := 1000000) only [*, go_sem, Nat.reduceLT, Nat.reduceLeDiff, Nat.reduceEqDiff, ↓reduceIte, Nat.reduceAdd, Nat.reduceSub, Nat.reduceMul, Int.reduceLT, Int.reduceLE, Int.reduceAdd, Int.reduceSub, Int.reduceMul, Int.reduceNeg, Int.reduceToNat, Int.reduceEq, Int.reduceBEq, Int.reduceBNe, Nat.reduceBEq, beq_self_eq_true, bne_self_eq_false] | with_reducible refine vcond_split (fun _ => ?_) (fun _ => ?_) | with_reducible refine vg_split (fun _ => ?_) (fun _ => ?_) | ((with_reducible apply DCalls.frz); (focus exact rfl); (focus exact rfl)) | ((with_reducible refine And.intro ?_ ?_); (focus (first | omega | decide | assumption | (simp only [decide_eq_true_eq, decide_eq_false_iff_not] at *; omega)))))
  exact ⟨.inr ⟨10, rfl⟩, rfl⟩

theorem cloneCh_c {x : Ch} {l : List Ch} (hl : l.length ≤ 1000000) : DCalls Tryz.prog 61 [.c (.p (.sl 10 (encC (x :: l))))] [] fun r h => r = .c (.own 0 0 (x :: l).length) ∧ h = [.arr 10 (encC (x :: l)) false] := by
  rw [show encC (x :: l) = Ch.cs x :: encC l from rfl]
  refine entO tabOK hmix Tryz.func61 rfl rfl fun X0 hX => ?_
  simp only [Tryz.ntmps61, Tryz.f61, go_sem]
  repeat' (first | simp (maxSteps := 1000000) only [*, go_sem, Nat.reduceLT, Nat.reduceLeDiff, Nat.reduceEqDiff, ↓reduceIte, Nat.reduceAdd, Nat.reduceSub, Nat.reduceMul, Int.reduceLT, Int.reduceLE, Int.reduceAdd, Int.reduceSub, Int.reduceMul, Int.reduceNeg, Int.reduceToNat, Int.reduceEq, Int.reduceBEq, Int.reduceBNe, Nat.reduceBEq, beq_self_eq_true, bne_self_eq_false] | with_reducible refine vcond_split (fun _ => ?_) (fun _ => ?_) | with_reducible refine vg_split (fun _ => ?_) (fun _ => ?_) | ((with_reducible apply DCalls.frz); (focus exact rfl); (focus exact rfl)) | ((with_reducible refine And.intro ?_ ?_); (focus (first | omega | decide | assumption | (simp only [decide_eq_true_eq, decide_eq_false_iff_not] at *; omega)))))
  exact ⟨rfl, by omega, by omega, rfl, by omega, rfl, _, _, rfl, rfl, rfl⟩

theorem set_at {l : List (List PV)} {k : Nat} {e : List PV} (h : k < l.length) : (l.set k e).getD k [] = e := by
  rw [List.getD_eq_getElem?_getD, List.getElem?_set_self h]; rfl
theorem back_row {l : List Ch} {k : Nat} {x : Ch} (hx : l[k]? = some x) {kk : Int} (hk : backK x.k = kk) : encC ((l.take (k + 1)).map backC ++ l.drop (k + 1)) =
    (encC ((l.take k).map backC ++ l.drop k)).set k [.s x.p, .i .i64 kk, .i .i64 x.n.k, .i .i64 x.n.m, .f x.n.t, .sl 1 (encB x.n.d), .i .i64 x.o.k, .i .i64 x.o.m, .f x.o.t, .sl 1 (encB x.o.d)] := by
  obtain ⟨h1, rfl⟩ := List.getElem?_eq_some_iff.1 hx
  subst hk
  have e1 : l.drop k = l[k] :: l.drop (k + 1) := List.drop_eq_getElem_cons h1
  have e2 : l.take (k + 1) = l.take k ++ [l[k]] := by rw [List.take_add_one, List.getElem?_eq_getElem h1]; rfl
  have e3 : ((l.take k).map backC).length = k := by simp; omega
  rw [e1, e2, List.map_append, List.append_assoc]
  generalize (l.take k).map backC = A at e3
  generalize l.drop (k + 1) = B
  generalize l[k] = y
  unfold encC
  rw [List.map_append, List.map_append, List.map_append (l₂ := y :: B), List.set_append_right _ _ (by simp; omega)]
  simp [e3, Ch.cs, backC]

theorem back_c {l : List Ch} (hl : l.length ≤ 1000000) (hd : ∀ x ∈ l, x.o.d.length ≤ 140737488355328 ∧ x.n.d.length ≤ 140737488355328) :
    DCalls Tryz.prog 21 [.c (.p (.sl 10 (encC l)))] [] fun r h => r = .c (.p (.sl 10 (encC (l.map backC)))) ∧ h = [] := by
  cases l with
  | nil =>
    refine ent tabOK hmix Tryz.func21 rfl rfl fun X0 hX => ?_
    simp only [Tryz.ntmps21, Tryz.f21, go_sem]
    repeat' (first | simp (maxSteps := 1000000) only [*, go_sem, Nat.reduceLT, Nat.reduceLeDiff, Nat.reduceEqDiff, ↓reduceIte, Nat.reduceAdd, Nat.reduceSub, Nat.reduceMul, Int.reduceLT, Int.reduceLE, Int.reduceAdd, Int.reduceSub, Int.reduceMul, Int.reduceNeg, Int.reduceToNat, Int.reduceEq, Int.reduceBEq, Int.reduceBNe, Nat.reduceBEq, beq_self_eq_true, bne_self_eq_false] | ((with_reducible refine useN (cloneCh_nil) ?_ ?_ ?_); (focus exact rfl); (focus exact fun _ => rfl)) | refine loop_rounds tabOK hmix 1 ?_ | with_reducible refine vcond_split (fun _ => ?_) (fun _ => ?_) | with_reducible refine vg_split (fun _ => ?_) (fun _ => ?_) | ((with_reducible apply DCalls.frz); (focus exact rfl); (focus exact rfl)) | ((with_reducible refine And.intro ?_ ?_); (focus (first | omega | decide | assumption | (simp only [decide_eq_true_eq, decide_eq_false_iff_not] at *; omega)))))
  | cons x0 l0 =>
    have hc := cloneCh_c (x := x0) (l := l0) (by rw [List.length_cons] at hl; omega)
    generalize x0 :: l0 = l at hl hd hc
    refine ent tabOK hmix Tryz.func21 rfl rfl fun X0 hX => ?_
    simp only [Tryz.ntmps21, Tryz.f21, go_sem]
    repeat' (first | simp (maxSteps := 1000000) only [*, go_sem, Nat.reduceLT, Nat.reduceLeDiff, Nat.reduceEqDiff, ↓reduceIte, Nat.reduceAdd, Nat.reduceSub, Nat.reduceMul, Int.reduceLT, Int.reduceLE, Int.reduceAdd, Int.reduceSub, Int.reduceMul, Int.reduceNeg, Int.reduceToNat, Int.reduceEq, Int.reduceBEq, Int.reduceBNe, Nat.reduceBEq, beq_self_eq_true, bne_self_eq_false] | refine useO hc rfl ?_ | with_reducible refine vcond_split (fun _ => ?_) (fun _ => ?_) | with_reducible refine vg_split (fun _ => ?_) (fun _ => ?_) | ((with_reducible apply DCalls.frz); (focus exact rfl); (focus exact rfl)) | ((with_reducible refine And.intro ?_ ?_); (focus (first | omega | decide | assumption | (simp only [decide_eq_true_eq, decide_eq_false_iff_not] at *; omega)))))
    refine loop_ren tabOK hmix (α := Nat) (fun k => ⟨45, [(3, .c (.own 0 0 l.length)), (8, .c (.own 0 0 l.length)), (9, .c (.p (.i .i64 l.length))), (10, .c (.p (.i .i64 k)))], [.arr 10 (encC ((l.take k).map backC ++ l.drop k)) false]⟩)
      (fun k => k ≤ l.length) (fun k => l.length - k) 0 (Nat.zero_le _) (.inl (weak_mk (by rw [hX]; rfl) rfl rfl (by simp [wk_cons, wk_nil, look_cons, closedD, closedC, encT_nil, encS_nil, encC_nil]))) ?_
    intro k hk
    have hln : ((l.take k).map backC ++ l.drop k).length = l.length := by simp; omega
    by_cases hlt : k < l.length
    · have hx : l[k]? = some l[k] := List.getElem?_eq_getElem hlt
      have hd := hd _ (List.getElem_mem hlt)
      have hr : ((l.take k).map backC ++ l.drop k)[k]? = some l[k] := by
        rw [List.getElem?_append_right (by simp; omega)]
        simp [Nat.min_eq_left hk]
      have hg := encC_at hr
      have h1 : decide ((k : Int) < (l.length : Int)) = true := decide_eq_true (by omega)
      have w1 : IntKind.i64.wrap ((k : Int) + 1) = k + 1 := wrap_i64 (by omega) (by omega)
      have hrr := fun kk => @back_row l k _ hx kk
      generalize hrow : (l.take k).map backC ++ l.drop k = row at hln hr hg hrr
      generalize l[k] = x at hx hg hd hr hrr
      clear hrow hx hr
      have hlr : k < (encC row).length := by rw [encC_len]; omega
      have hli : (k : Int) < (l.length : Int) := by omega
      repeat' (first | simp (maxSteps := 1000000) only [*, go_sem, Nat.reduceLT, Nat.reduceLeDiff, Nat.reduceEqDiff, ↓reduceIte, Nat.reduceAdd, Nat.reduceSub, Nat.reduceMul, Int.reduceLT, Int.reduceLE, Int.reduceAdd, Int.reduceSub, Int.reduceMul, Int.reduceNeg, Int.reduceToNat, Int.reduceEq, Int.reduceBEq, Int.reduceBNe, Nat.reduceBEq, beq_self_eq_true, bne_self_eq_false, set_at hlr, List.set_set, List.length_set] | ((with_reducible refine useN (copy_c hd.2) ?_ ?_ ?_); (focus exact rfl); (focus exact fun _ => rfl)) | ((with_reducible refine useN (copy_c hd.1) ?_ ?_ ?_); (focus exact rfl); (focus exact fun _ => rfl)) | ((refine vc_drawn (id := 10) tabOK hmix [12,15] [0,1,4,5,6,7,8,9,10,11,12,2,3,13,14,15] (by decide +kernel) ?_); (repeat' (first | (refine ds_nil ?_) | ((refine ds_chg ?_ ?_ rfl rfl rfl ?_ ?_); (rotate_left 2); (focus ((repeat' (first | simp (maxSteps := 1000000) only [*, go_sem, Nat.reduceLT, Nat.reduceLeDiff, Nat.reduceEqDiff, ↓reduceIte, Nat.reduceAdd, Nat.reduceSub, Nat.reduceMul, Int.reduceLT, Int.reduceLE, Int.reduceAdd, Int.reduceSub, Int.reduceMul, Int.reduceNeg, Int.reduceToNat, Int.reduceEq, Int.reduceBEq, Int.reduceBNe, Nat.reduceBEq, beq_self_eq_true, bne_self_eq_false, set_at hlr, List.set_set, List.length_set] | ((with_reducible refine useN (copy_c hd.2) ?_ ?_ ?_); (focus exact rfl); (focus exact fun _ => rfl)) | ((with_reducible refine useN (copy_c hd.1) ?_ ?_ ?_); (focus exact rfl); (focus exact fun _ => rfl)) | with_reducible refine vcond_split (fun _ => ?_) (fun _ => ?_) | with_reducible refine vg_split (fun _ => ?_) (fun _ => ?_) | ((with_reducible apply DCalls.frz); (focus exact rfl); (focus exact rfl)) | ((with_reducible refine And.intro ?_ ?_); (focus (first | omega | decide | assumption | (simp only [decide_eq_true_eq, decide_eq_false_iff_not] at *; omega)))))); (first | exact rfl | (refine And.intro ?_ ?_ <;> exact rfl)))); (simp only [putF_some, putF_none])) | ((refine ds_all ?_ rfl rfl rfl ?_ ?_); (rotate_left 1); (focus ((repeat' (first | exact allH_nil | refine allH_cons ?_ ?_)); (all_goals ((repeat' (first | simp (maxSteps := 1000000) only [*, go_sem, Nat.reduceLT, Nat.reduceLeDiff, Nat.reduceEqDiff, ↓reduceIte, Nat.reduceAdd, Nat.reduceSub, Nat.reduceMul, Int.reduceLT, Int.reduceLE, Int.reduceAdd, Int.reduceSub, Int.reduceMul, Int.reduceNeg, Int.reduceToNat, Int.reduceEq, Int.reduceBEq, Int.reduceBNe, Nat.reduceBEq, beq_self_eq_true, bne_self_eq_false, set_at hlr, List.set_set, List.length_set] | ((with_reducible refine useN (copy_c hd.2) ?_ ?_ ?_); (focus exact rfl); (focus exact fun _ => rfl)) | ((with_reducible refine useN (copy_c hd.1) ?_ ?_ ?_); (focus exact rfl); (focus exact fun _ => rfl)) | with_reducible refine vcond_split (fun _ => ?_) (fun _ => ?_) | with_reducible refine vg_split (fun _ => ?_) (fun _ => ?_) | ((with_reducible apply DCalls.frz); (focus exact rfl); (focus exact rfl)) | ((with_reducible refine And.intro ?_ ?_); (focus (first | omega | decide | assumption | (simp only [decide_eq_true_eq, decide_eq_false_iff_not] at *; omega)))))); (try (first | exact rfl | omega)))))); (simp only [putF_some, putF_none]))))) | with_reducible refine vcond_split (fun _ => ?_) (fun _ => ?_) | with_reducible refine vg_split (fun _ => ?_) (fun _ => ?_) | ((with_reducible apply DCalls.frz); (focus exact rfl); (focus exact rfl)) | ((with_reducible refine And.intro ?_ ?_); (focus (first | omega | decide | assumption | (simp only [decide_eq_true_eq, decide_eq_false_iff_not] at *; omega)))))
      · rename_i q
        have hk : backK x.k = 2 := by rw [eq_of_beq q]; rfl
        exact qr_n (k + 1) (by omega) (by omega) (weak_mk rfl (by rw [hrr 2 hk]; rfl) rfl (by simp [wk_cons, wk_nil, look_cons, closedD, closedC, renT, renD, renC, encT_nil, encS_nil, encC_nil]))
      · rename_i q1 q2
        have hk : backK x.k = 1 := by rw [eq_of_beq q2]; rfl
        exact qr_n (k + 1) (by omega) (by omega) (weak_mk rfl (by rw [hrr 1 hk]; rfl) rfl (by simp [wk_cons, wk_nil, look_cons, closedD, closedC, renT, renD, renC, encT_nil, encS_nil, encC_nil]))
      · rename_i q1 q2
        have hk : backK x.k = x.k := by simp only [backK, q1, q2, Bool.false_eq_true, if_false]
        exact qr_n (k + 1) (by omega) (by omega) (weak_mk rfl (by rw [hrr _ hk]; rfl) rfl (by simp [wk_cons, wk_nil, look_cons, closedD, closedC, renT, renD, renC, encT_nil, encS_nil, encC_nil]))
    · have h1 : decide ((k : Int) < (l.length : Int)) = false := decide_eq_false (by omega)
      have hk2 : k = l.length := by omega
      subst hk2
      rw [List.drop_length, List.take_length, List.append_nil]
      repeat' (first | simp (maxSteps := 1000000) only [*, go_sem, Nat.reduceLT, Nat.reduceLeDiff, Nat.reduceEqDiff, ↓reduceIte, Nat.reduceAdd, Nat.reduceSub, Nat.reduceMul, Int.reduceLT, Int.reduceLE, Int.reduceAdd, Int.reduceSub, Int.reduceMul, Int.reduceNeg, Int.reduceToNat, Int.reduceEq, Int.reduceBEq, Int.reduceBNe, Nat.reduceBEq, beq_self_eq_true, bne_self_eq_false] | with_reducible refine vcond_split (fun _ => ?_) (fun _ => ?_) | with_reducible refine vg_split (fun _ => ?_) (fun _ => ?_) | ((with_reducible apply DCalls.frz); (focus exact rfl); (focus exact rfl)) | ((with_reducible refine And.intro ?_ ?_); (focus (first | omega | decide | assumption | (simp only [decide_eq_true_eq, decide_eq_false_iff_not] at *; omega)))))
      rw [← List.map_take, List.take_length]

end Go.Proofs.YtjanmkknbijecaaGreatDoor
