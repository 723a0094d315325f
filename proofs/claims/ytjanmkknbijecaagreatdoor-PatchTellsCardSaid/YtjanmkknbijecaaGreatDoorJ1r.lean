/-
  Contracts: which changes may be, as the document asks it, of any.
-/
import Derived.Test.YtjanmkknbijecaaGreatDoorG0r
import Derived.Test.YtjanmkknbijecaaGreatDoorE2
import Derived.Test.YtjanmkknbijecaaGreatDoorSE
import Derived.Test.YtjanmkknbijecaaGreatDoorVE
set_option linter.unusedSimpArgs false
set_option linter.unusedVariables false
namespace Go.Proofs.YtjanmkknbijecaaGreatDoor
open Go Go.Dm
set_option maxRecDepth 100000
set_option maxHeartbeats 4000000

theorem sameNode0_c {k m : Int} {t : Nat} {d : List UInt8} : DCalls Tryz.prog 29 [.agg (ndc k m t d), .agg [.p (.i .i64 0), .p (.i .i64 0), .p (.f 0), .p .nil]] [] fun r h => r = .c (.p (.b (sameNd ⟨k, m, t, d⟩ nd0))) ∧ h = [] := by
  refine ent tabOK hmix Tryz.func29 rfl rfl fun X0 hX => ?_
  simp only [Tryz.ntmps29, Tryz.f29, go_sem]
  repeat' (first | simp (maxSteps := 1000000) only [*, go_sem, Nat.reduceLT, Nat.reduceLeDiff, Nat.reduceEqDiff, ↓reduceIte, Nat.reduceAdd, Nat.reduceSub, Nat.reduceMul, Int.reduceLT, Int.reduceLE, Int.reduceAdd, Int.reduceSub, Int.reduceMul, Int.reduceNeg, Int.reduceToNat, Int.reduceEq, Int.reduceBEq, Int.reduceBNe, Nat.reduceBEq, beq_self_eq_true, bne_self_eq_false] | ((with_reducible refine useF (ref1Same_c _ _) ?_ ?_ ?_); (focus exact rfl); (focus exact rfl)) | with_reducible refine vcond_split (fun _ => ?_) (fun _ => ?_) | with_reducible refine vg_split (fun _ => ?_) (fun _ => ?_) | ((with_reducible apply DCalls.frz); (focus exact rfl); (focus exact rfl)) | ((with_reducible refine And.intro ?_ ?_); (focus (first | omega | decide | assumption | (simp only [decide_eq_true_eq, decide_eq_false_iff_not] at *; omega)))))
  all_goals first | (simp_all [sameNd, nd0]; done) | trace_state

theorem refRightC_c {l : List Ch} (hl : l.length ≤ 1000000) (hp : ∀ x ∈ l, x.p.length ≤ 1000000000 ∧ x.o.d.length ≤ 1000000000 ∧ x.n.d.length ≤ 1000000000) :
    DCalls Tryz.prog 54 [.c (.p (.sl 10 (encC l)))] [] fun r h => r = .c (.p (.b (refCs l))) ∧ h = [] := by
  refine ent tabOK hmix Tryz.func54 rfl rfl fun X0 hX => ?_
  simp only [Tryz.ntmps54, Tryz.f54, go_sem]
  repeat' (first | simp (maxSteps := 1000000) only [*, go_sem, Nat.reduceLT, Nat.reduceLeDiff, Nat.reduceEqDiff, ↓reduceIte, Nat.reduceAdd, Nat.reduceSub, Nat.reduceMul, Int.reduceLT, Int.reduceLE, Int.reduceAdd, Int.reduceSub, Int.reduceMul, Int.reduceNeg, Int.reduceToNat, Int.reduceEq, Int.reduceBEq, Int.reduceBNe, Nat.reduceBEq, beq_self_eq_true, bne_self_eq_false] | with_reducible refine vcond_split (fun _ => ?_) (fun _ => ?_) | with_reducible refine vg_split (fun _ => ?_) (fun _ => ?_) | ((with_reducible apply DCalls.frz); (focus exact rfl); (focus exact rfl)) | ((with_reducible refine And.intro ?_ ?_); (focus (first | omega | decide | assumption | (simp only [decide_eq_true_eq, decide_eq_false_iff_not] at *; omega)))))
  refine loop_ren tabOK hmix (α := Nat) (fun k => ⟨104, [(0, .c (.p (.sl 10 (encC l)))), (3, .c (.p (.i .i64 k)))], []⟩)
    (fun k => k ≤ l.length ∧ refFrom (aheadK l k) (l.drop k) = refCs l) (fun k => l.length - k) 0 ⟨Nat.zero_le _, rfl⟩ (.inl (weak_mk (by rw [hX]; rfl) rfl rfl (by simp [wk_cons, wk_nil, look_cons, closedD, closedC, encT_nil, encS_nil, encC_nil]))) ?_
  rintro k ⟨hk, hgo⟩
  by_cases hlt : k < l.length
  · have hx : l[k]? = some l[k] := List.getElem?_eq_getElem hlt
    have hg := encC_at hx
    have h1 : decide ((k : Int) < (l.length : Int)) = true := decide_eq_true (by omega)
    have w1 : IntKind.i64.wrap ((k : Int) + 1) = k + 1 := wrap_i64 (by omega) (by omega)
    have hki : (k : Int) < (l.length : Int) := by omega
    have hk0 : (0 : Int) ≤ k := by omega
    have prev : (decide ((0 : Int) < k) = false ∧ aheadOf (aheadK l k) l[k].p = true) ∨ ∃ m : Nat, ∃ y : Ch, decide ((0 : Int) < k) = true ∧ IntKind.i64.wrap ((k : Int) - 1) = (m : Int) ∧ (m : Int) < l.length ∧ l[m]? = some y ∧ (bltL l[k].p y.p || l[k].p == y.p) = !aheadOf (aheadK l k) l[k].p := by
      by_cases h0 : 0 < k
      · have hmk : k - 1 < l.length := by omega
        refine .inr ⟨k - 1, l[k - 1], decide_eq_true (by omega), ?_, by omega, List.getElem?_eq_getElem hmk, ?_⟩
        · rw [wrap_i64 (by omega) (by omega)]; omega
        · rw [le_not_lt]
          have e : aheadK l k = some l[k - 1].p := by
            have := aheadK_succ (List.getElem?_eq_getElem hmk)
            rw [show k - 1 + 1 = k by omega] at this
            exact this
          rw [e]; rfl
      · refine .inl ⟨decide_eq_false (by omega), ?_⟩
        have : k = 0 := by omega
        subst this; rfl
    have hdr : l.drop k = l[k] :: l.drop (k + 1) := List.drop_eq_getElem_cons hlt
    have hnx := aheadK_succ hx
    rw [hdr, refFrom, ← hnx] at hgo
    obtain ⟨p1, p2, p3⟩ := hp _ (List.getElem_mem hlt)
    clear hnx hdr hp
    generalize aheadOf (aheadK l k) l[k].p = a3 at prev hgo
    generalize l[k] = x at hx hg prev hgo p1 p2 p3
    clear hx
    have c1 := sameNode0_c (k := x.o.k) (m := x.o.m) (t := x.o.t) (d := x.o.d)
    have c2 := sameNode0_c (k := x.n.k) (m := x.n.m) (t := x.n.t) (d := x.n.d)
    have c3 := rightNodeR_c (k := x.o.k) (m := x.o.m) (t := x.o.t) (d := x.o.d) (by omega)
    have c4 := rightNodeR_c (k := x.n.k) (m := x.n.m) (t := x.n.t) (d := x.n.d) (by omega)
    have c5 := isPathR_c (p := x.p) (by omega)
    have c6 := sameNode_c (k := x.o.k) (m := x.o.m) (t := x.o.t) (d := x.o.d) (k' := x.n.k) (m' := x.n.m) (t' := x.n.t) (d' := x.n.d)
    have c7 := fun p q => refKind_c (k := x.o.k) (m := x.o.m) (t := x.o.t) (d := x.o.d) (k' := x.n.k) (m' := x.n.m) (t' := x.n.t) (d' := x.n.d) p q
    unfold mayR at hgo
    rw [nd_eta] at c1 c2 c3 c4 c6
    rw [nd_eta] at c6
    simp only [nd_eta] at c7
    generalize sameNd x.o nd0 = z1 at c1 hgo
    generalize sameNd x.n nd0 = z2 at c2 hgo
    generalize rightNodeR x.o = r1 at c3 hgo
    generalize rightNodeR x.n = r2 at c4 hgo
    generalize isPathR x.p = ip at c5 hgo
    generalize sameNd x.o x.n = s at c6 hgo
    generalize hp0 : (x.p == []) = p0 at hgo
    have hP : PLift _ := ⟨hgo⟩
    clear hgo
    rcases prev with ⟨b1, rfl⟩ | ⟨m, y, b1, b2, b3, b4, b5⟩
    · repeat' (first | simp (maxSteps := 1000000) only [*, go_sem, Nat.reduceLT, Nat.reduceLeDiff, Nat.reduceEqDiff, ↓reduceIte, Nat.reduceAdd, Nat.reduceSub, Nat.reduceMul, Int.reduceLT, Int.reduceLE, Int.reduceAdd, Int.reduceSub, Int.reduceMul, Int.reduceNeg, Int.reduceToNat, Int.reduceEq, Int.reduceBEq, Int.reduceBNe, Nat.reduceBEq, beq_self_eq_true, bne_self_eq_false, Bool.not_true, Bool.not_false] | ((with_reducible refine useF (c1) ?_ ?_ ?_); (focus exact rfl); (focus exact rfl)) | ((with_reducible refine useF (c2) ?_ ?_ ?_); (focus exact rfl); (focus exact rfl)) | ((with_reducible refine useF (c3) ?_ ?_ ?_); (focus exact rfl); (focus exact rfl)) | ((with_reducible refine useF (c4) ?_ ?_ ?_); (focus exact rfl); (focus exact rfl)) | ((with_reducible refine useF (c5) ?_ ?_ ?_); (focus exact rfl); (focus exact rfl)) | ((with_reducible refine useF (c6) ?_ ?_ ?_); (focus exact rfl); (focus exact rfl)) | ((with_reducible refine useF (c7 _ _) ?_ ?_ ?_); (focus exact rfl); (focus exact rfl)) | ((refine vc_drawn (id := 8) tabOK hmix [] [0,1,2,3,4,5,6,7,8,9,10,11,12,13,14,15,16,17,18,19,20,21,22,23,24,25,26,27,28,29,30,31,32,33,34,35,36,37,38,39,40,41,42,43,44,45,46,47,48,49,50,51,52,53,54,55,56,57,58,59,60,61,62,63,64,65,66,67,68,69,70,71,72,73,74] (by decide +kernel) ?_); (simp only [List.append_eq, List.cons_append, List.nil_append]); (repeat' (first | (refine ds_nil ?_) | ((refine ds_one ?_ rfl rfl ?_ ?_); (rotate_left 1); (focus ((repeat' (first | simp (maxSteps := 1000000) only [*, go_sem, Nat.reduceLT, Nat.reduceLeDiff, Nat.reduceEqDiff, ↓reduceIte, Nat.reduceAdd, Nat.reduceSub, Nat.reduceMul, Int.reduceLT, Int.reduceLE, Int.reduceAdd, Int.reduceSub, Int.reduceMul, Int.reduceNeg, Int.reduceToNat, Int.reduceEq, Int.reduceBEq, Int.reduceBNe, Nat.reduceBEq, beq_self_eq_true, bne_self_eq_false, Bool.not_true, Bool.not_false] | ((with_reducible refine useF (c1) ?_ ?_ ?_); (focus exact rfl); (focus exact rfl)) | ((with_reducible refine useF (c2) ?_ ?_ ?_); (focus exact rfl); (focus exact rfl)) | ((with_reducible refine useF (c3) ?_ ?_ ?_); (focus exact rfl); (focus exact rfl)) | ((with_reducible refine useF (c4) ?_ ?_ ?_); (focus exact rfl); (focus exact rfl)) | ((with_reducible refine useF (c5) ?_ ?_ ?_); (focus exact rfl); (focus exact rfl)) | ((with_reducible refine useF (c6) ?_ ?_ ?_); (focus exact rfl); (focus exact rfl)) | ((with_reducible refine useF (c7 _ _) ?_ ?_ ?_); (focus exact rfl); (focus exact rfl)) | with_reducible refine vcond_split (fun _ => ?_) (fun _ => ?_) | with_reducible refine vg_split (fun _ => ?_) (fun _ => ?_) | ((with_reducible apply DCalls.frz); (focus exact rfl); (focus exact rfl)) | ((with_reducible refine And.intro ?_ ?_); (focus (first | omega | decide | assumption | (simp only [decide_eq_true_eq, decide_eq_false_iff_not] at *; omega)))))); exact rfl)); (simp only [putF_some, putF_none])) | (cases p0) | (cases ip) | (cases z1) | (cases r1) | (cases z2) | (cases r2) | (cases s)))) | with_reducible refine vcond_split (fun _ => ?_) (fun _ => ?_) | with_reducible refine vg_split (fun _ => ?_) (fun _ => ?_) | ((with_reducible apply DCalls.frz); (focus exact rfl); (focus exact rfl)) | ((with_reducible refine And.intro ?_ ?_); (focus (first | omega | decide | assumption | (simp only [decide_eq_true_eq, decide_eq_false_iff_not] at *; omega)))))
      all_goals have hP2 := hP.down
      all_goals simp only [Bool.not_true, Bool.not_false, Bool.true_and, Bool.and_true, Bool.false_and, Bool.and_false, Bool.true_or, Bool.false_or, Bool.or_true, Bool.or_false] at hP2
      all_goals first
        | (rw [← hP2]; done)
        | (rename_i hh; simp only [bne, Bool.not_eq_true', Bool.not_eq_false'] at hh; simp only [hh, Bool.true_and, Bool.false_and] at hP2; first | (rw [← hP2]; done) | exact qr_n (k + 1) ⟨by omega, hP2⟩ (by omega) (weak_mk rfl rfl rfl (by simp [wk_cons, wk_nil, look_cons, closedD, closedC, renT, renD, renC, encT_nil, encS_nil, encC_nil])))
        | trace_state
    · have hgy := encC_at b4
      have hm0 : (0 : Int) ≤ (m : Int) := by omega
      clear b4
      repeat' (first | simp (maxSteps := 1000000) only [*, go_sem, Nat.reduceLT, Nat.reduceLeDiff, Nat.reduceEqDiff, ↓reduceIte, Nat.reduceAdd, Nat.reduceSub, Nat.reduceMul, Int.reduceLT, Int.reduceLE, Int.reduceAdd, Int.reduceSub, Int.reduceMul, Int.reduceNeg, Int.reduceToNat, Int.reduceEq, Int.reduceBEq, Int.reduceBNe, Nat.reduceBEq, beq_self_eq_true, bne_self_eq_false, Bool.not_true, Bool.not_false] | ((with_reducible refine useF (c1) ?_ ?_ ?_); (focus exact rfl); (focus exact rfl)) | ((with_reducible refine useF (c2) ?_ ?_ ?_); (focus exact rfl); (focus exact rfl)) | ((with_reducible refine useF (c3) ?_ ?_ ?_); (focus exact rfl); (focus exact rfl)) | ((with_reducible refine useF (c4) ?_ ?_ ?_); (focus exact rfl); (focus exact rfl)) | ((with_reducible refine useF (c5) ?_ ?_ ?_); (focus exact rfl); (focus exact rfl)) | ((with_reducible refine useF (c6) ?_ ?_ ?_); (focus exact rfl); (focus exact rfl)) | ((with_reducible refine useF (c7 _ _) ?_ ?_ ?_); (focus exact rfl); (focus exact rfl)) | ((refine vc_drawn (id := 8) tabOK hmix [] [0,1,2,3,4,5,6,7,8,9,10,11,12,13,14,15,16,17,18,19,20,21,22,23,24,25,26,27,28,29,30,31,32,33,34,35,36,37,38,39,40,41,42,43,44,45,46,47,48,49,50,51,52,53,54,55,56,57,58,59,60,61,62,63,64,65,66,67,68,69,70,71,72,73,74] (by decide +kernel) ?_); (simp only [List.append_eq, List.cons_append, List.nil_append]); (repeat' (first | (refine ds_nil ?_) | ((refine ds_one ?_ rfl rfl ?_ ?_); (rotate_left 1); (focus ((repeat' (first | simp (maxSteps := 1000000) only [*, go_sem, Nat.reduceLT, Nat.reduceLeDiff, Nat.reduceEqDiff, ↓reduceIte, Nat.reduceAdd, Nat.reduceSub, Nat.reduceMul, Int.reduceLT, Int.reduceLE, Int.reduceAdd, Int.reduceSub, Int.reduceMul, Int.reduceNeg, Int.reduceToNat, Int.reduceEq, Int.reduceBEq, Int.reduceBNe, Nat.reduceBEq, beq_self_eq_true, bne_self_eq_false, Bool.not_true, Bool.not_false] | ((with_reducible refine useF (c1) ?_ ?_ ?_); (focus exact rfl); (focus exact rfl)) | ((with_reducible refine useF (c2) ?_ ?_ ?_); (focus exact rfl); (focus exact rfl)) | ((with_reducible refine useF (c3) ?_ ?_ ?_); (focus exact rfl); (focus exact rfl)) | ((with_reducible refine useF (c4) ?_ ?_ ?_); (focus exact rfl); (focus exact rfl)) | ((with_reducible refine useF (c5) ?_ ?_ ?_); (focus exact rfl); (focus exact rfl)) | ((with_reducible refine useF (c6) ?_ ?_ ?_); (focus exact rfl); (focus exact rfl)) | ((with_reducible refine useF (c7 _ _) ?_ ?_ ?_); (focus exact rfl); (focus exact rfl)) | with_reducible refine vcond_split (fun _ => ?_) (fun _ => ?_) | with_reducible refine vg_split (fun _ => ?_) (fun _ => ?_) | ((with_reducible apply DCalls.frz); (focus exact rfl); (focus exact rfl)) | ((with_reducible refine And.intro ?_ ?_); (focus (first | omega | decide | assumption | (simp only [decide_eq_true_eq, decide_eq_false_iff_not] at *; omega)))))); exact rfl)); (simp only [putF_some, putF_none])) | (cases p0) | (cases ip) | (cases a3) | (cases z1) | (cases r1) | (cases z2) | (cases r2) | (cases s)))) | with_reducible refine vcond_split (fun _ => ?_) (fun _ => ?_) | with_reducible refine vg_split (fun _ => ?_) (fun _ => ?_) | ((with_reducible apply DCalls.frz); (focus exact rfl); (focus exact rfl)) | ((with_reducible refine And.intro ?_ ?_); (focus (first | omega | decide | assumption | (simp only [decide_eq_true_eq, decide_eq_false_iff_not] at *; omega)))))
      all_goals have hP2 := hP.down
      all_goals simp only [Bool.not_true, Bool.not_false, Bool.true_and, Bool.and_true, Bool.false_and, Bool.and_false, Bool.true_or, Bool.false_or, Bool.or_true, Bool.or_false] at hP2
      all_goals first
        | (rw [← hP2]; done)
        | (rename_i hh; simp only [bne, Bool.not_eq_true', Bool.not_eq_false'] at hh; simp only [hh, Bool.true_and, Bool.false_and] at hP2; first | (rw [← hP2]; done) | exact qr_n (k + 1) ⟨by omega, hP2⟩ (by omega) (weak_mk rfl rfl rfl (by simp [wk_cons, wk_nil, look_cons, closedD, closedC, renT, renD, renC, encT_nil, encS_nil, encC_nil])))
        | trace_state
  · have h1 : decide ((k : Int) < (l.length : Int)) = false := decide_eq_false (by omega)
    rw [List.drop_of_length_le (by omega), refFrom] at hgo
    rw [← hgo]
    clear hgo
    repeat' (first | simp (maxSteps := 1000000) only [*, go_sem, Nat.reduceLT, Nat.reduceLeDiff, Nat.reduceEqDiff, ↓reduceIte, Nat.reduceAdd, Nat.reduceSub, Nat.reduceMul, Int.reduceLT, Int.reduceLE, Int.reduceAdd, Int.reduceSub, Int.reduceMul, Int.reduceNeg, Int.reduceToNat, Int.reduceEq, Int.reduceBEq, Int.reduceBNe, Nat.reduceBEq, beq_self_eq_true, bne_self_eq_false] | with_reducible refine vcond_split (fun _ => ?_) (fun _ => ?_) | with_reducible refine vg_split (fun _ => ?_) (fun _ => ?_) | ((with_reducible apply DCalls.frz); (focus exact rfl); (focus exact rfl)) | ((with_reducible refine And.intro ?_ ?_); (focus (first | omega | decide | assumption | (simp only [decide_eq_true_eq, decide_eq_false_iff_not] at *; omega)))))

end Go.Proofs.YtjanmkknbijecaaGreatDoor
