/-
  Contracts of the document's functions on trees: an item in its place; which nodes may be.
-/
import Derived.Test.YtomaddpcacoodaaGreatDoorD4
set_option linter.unusedSimpArgs false
set_option linter.unusedVariables false
namespace Go.Proofs.YtomaddpcacoodaaGreatDoor
open Go Go.Dm
set_option maxRecDepth 100000
set_option maxHeartbeats 4000000

theorem targetR_c {d : List UInt8} (hd : d.length ≤ 1000000000) : DCalls Tryz.prog 153 [.c (.p (.sl 1 (encB d)))] [] fun r h => r = .c (.p (.b (targetR d))) ∧ h = [] := by
  refine ent tabOK hmix Tryz.func153 rfl rfl fun X0 hX => ?_
  simp only [Tryz.ntmps153, Tryz.f153, go_sem]
  repeat' (first | simp only [*, go_sem, Nat.reduceLT, Nat.reduceLeDiff, Nat.reduceEqDiff, ↓reduceIte, Nat.reduceAdd, Nat.reduceSub, Nat.reduceMul, Int.reduceLT, Int.reduceLE, Int.reduceAdd, Int.reduceSub, Int.reduceMul, Int.reduceNeg, Int.reduceToNat, Int.reduceEq, Int.reduceBEq, Int.reduceBNe, Nat.reduceBEq, beq_self_eq_true, bne_self_eq_false] | with_reducible refine vcond_split (fun _ => ?_) (fun _ => ?_) | with_reducible refine vg_split (fun _ => ?_) (fun _ => ?_) | ((with_reducible apply DCalls.frz); (focus exact rfl); (focus exact rfl)) | ((with_reducible refine And.intro ?_ ?_); (focus (first | omega | decide | assumption | (simp only [decide_eq_true_eq, decide_eq_false_iff_not] at *; omega)))))
  refine loop_ren tabOK hmix (α := Nat) (fun k => ⟨23, [(0, .c (.p (.sl 1 (encB d)))), (3, .c (.p (.i .i64 k)))], []⟩) (fun k => k ≤ d.length ∧ (d.drop k).all (fun b => !((b.toNat : Int) == 0)) = d.all (fun b => !((b.toNat : Int) == 0))) (fun k => d.length - k) 0 ⟨Nat.zero_le _, rfl⟩ (.inl (weak_mk (by rw [hX]; rfl) rfl rfl (by simp [wk_cons, wk_nil, look_cons, closedD, closedC, encT_nil, encS_nil, encC_nil]))) ?_
  rintro k ⟨hk, hl⟩
  by_cases hlt : k < d.length
  · have hx : d[k]? = some d[k] := List.getElem?_eq_getElem hlt
    have hg := encB_at hx
    have hd := drop_at hx
    have h1 : decide ((k : Int) < (d.length : Int)) = true := decide_eq_true (by omega)
    have w1 : IntKind.i64.wrap ((k : Int) + 1) = k + 1 := wrap_i64 (by omega) (by omega)
    generalize d[k] = x at hx hg hd
    rw [hd, List.all_cons] at hl
    repeat' (first | simp only [*, go_sem, Nat.reduceLT, Nat.reduceLeDiff, Nat.reduceEqDiff, ↓reduceIte, Nat.reduceAdd, Nat.reduceSub, Nat.reduceMul, Int.reduceLT, Int.reduceLE, Int.reduceAdd, Int.reduceSub, Int.reduceMul, Int.reduceNeg, Int.reduceToNat, Int.reduceEq, Int.reduceBEq, Int.reduceBNe, Nat.reduceBEq, beq_self_eq_true, bne_self_eq_false] | with_reducible refine vcond_split (fun _ => ?_) (fun _ => ?_) | with_reducible refine vg_split (fun _ => ?_) (fun _ => ?_) | ((with_reducible apply DCalls.frz); (focus exact rfl); (focus exact rfl)) | ((with_reducible refine And.intro ?_ ?_); (focus (first | omega | decide | assumption | (simp only [decide_eq_true_eq, decide_eq_false_iff_not] at *; omega)))))
    · rename_i hb
      rw [hb, Bool.not_true, Bool.false_and] at hl
      simp only [targetR, ← hl, Bool.false_and]
    · rename_i hb
      rw [hb, Bool.not_false, Bool.true_and] at hl
      exact qr_n (k + 1) ⟨by omega, hl⟩ (by omega) (weak_mk rfl rfl rfl (by simp [wk_cons, wk_nil, look_cons, closedD, closedC, renT, renD, renC, encT_nil, encS_nil, encC_nil]))
  · have h1 : decide ((k : Int) < (d.length : Int)) = false := decide_eq_false (by omega)
    rw [List.drop_of_length_le (by omega), List.all_nil] at hl
    unfold targetR
    rw [← hl]
    clear hl
    repeat' (first | simp only [*, go_sem, Nat.reduceLT, Nat.reduceLeDiff, Nat.reduceEqDiff, ↓reduceIte, Nat.reduceAdd, Nat.reduceSub, Nat.reduceMul, Int.reduceLT, Int.reduceLE, Int.reduceAdd, Int.reduceSub, Int.reduceMul, Int.reduceNeg, Int.reduceToNat, Int.reduceEq, Int.reduceBEq, Int.reduceBNe, Nat.reduceBEq, beq_self_eq_true, bne_self_eq_false] | with_reducible refine vcond_split (fun _ => ?_) (fun _ => ?_) | with_reducible refine vg_split (fun _ => ?_) (fun _ => ?_) | ((with_reducible apply DCalls.frz); (focus exact rfl); (focus exact rfl)) | ((with_reducible refine And.intro ?_ ?_); (focus (first | omega | decide | assumption | (simp only [decide_eq_true_eq, decide_eq_false_iff_not] at *; omega)))))
    all_goals simp only [*, Bool.true_and, Bool.and_true, Bool.and_false, Bool.false_and, Bool.not_false, Bool.not_true]

theorem setR_c {t : List It} {p : List UInt8} {k m : Int} {tt : Nat} {d : List UInt8} (ht : t.length ≤ 1000000) :
    DCalls Tryz.prog 121 [.c (.p (.sl 5 (encT t))), .c (.p (.s p)), .agg (ndc k m tt d)] [] fun r h => r = .c (.p (.sl 5 (encT (setR t p ⟨k, m, tt, d⟩)))) ∧ h = [] := by
  refine ent tabOK hmix Tryz.func121 rfl rfl fun X0 hX => ?_
  simp only [Tryz.ntmps121, Tryz.f121, go_sem]
  repeat' (first | simp only [*, go_sem, Nat.reduceLT, Nat.reduceLeDiff, Nat.reduceEqDiff, ↓reduceIte, Nat.reduceAdd, Nat.reduceSub, Nat.reduceMul, Int.reduceLT, Int.reduceLE, Int.reduceAdd, Int.reduceSub, Int.reduceMul, Int.reduceNeg, Int.reduceToNat, Int.reduceEq, Int.reduceBEq, Int.reduceBNe, Nat.reduceBEq, beq_self_eq_true, bne_self_eq_false] | with_reducible refine vcond_split (fun _ => ?_) (fun _ => ?_) | with_reducible refine vg_split (fun _ => ?_) (fun _ => ?_) | ((with_reducible apply DCalls.frz); (focus exact rfl); (focus exact rfl)) | ((with_reducible refine And.intro ?_ ?_); (focus (first | omega | decide | assumption | (simp only [decide_eq_true_eq, decide_eq_false_iff_not] at *; omega)))))
  refine vc_virt tabOK hmix 7 5 rfl ?_
  refine loop_ren tabOK hmix (α := Nat × List It × Bool) (fun x => ⟨56, [(0, .c (.p (.sl 5 (encT t)))), (1, .c (.p (.s p))), (5, .c (.ptr 0 0)), (7, .c (.own 1 0 x.2.1.length)), (8, .c (.p (.b x.2.2))), (9, .c (.p (.i .i64 x.1)))], [.box (ndc k m tt d), .arr 5 (encT x.2.1) false]⟩)
    (fun x => x.1 ≤ t.length ∧ x.2.1.length ≤ 2 * x.1 ∧ x.2.1 ++ setL p ⟨k, m, tt, d⟩ x.2.2 (t.drop x.1) = setR t p ⟨k, m, tt, d⟩) (fun x => t.length - x.1) (0, [], false) ⟨Nat.zero_le _, Nat.le_refl _, by simp [setR]⟩ (.inl (weak_mk (by rw [hX]; rfl) rfl rfl (by simp [wk_cons, wk_nil, look_cons, closedD, closedC, encT_nil, encS_nil, encC_nil]))) ?_
  rintro ⟨j, out, done⟩ ⟨hk, hol, hout⟩
  simp only at hk hol hout
  by_cases hlt : j < t.length
  · have hx : t[j]? = some t[j] := List.getElem?_eq_getElem hlt
    have hg := encT_at hx
    have hd := drop_at hx
    have h1 : decide ((j : Int) < (t.length : Int)) = true := decide_eq_true (by omega)
    have w1 : IntKind.i64.wrap ((j : Int) + 1) = j + 1 := wrap_i64 (by omega) (by omega)
    generalize t[j] = x at hx hg hd
    rw [hd, setL] at hout
    cases done
    · repeat' (first | simp only [*, go_sem, Nat.reduceLT, Nat.reduceLeDiff, Nat.reduceEqDiff, ↓reduceIte, Nat.reduceAdd, Nat.reduceSub, Nat.reduceMul, Int.reduceLT, Int.reduceLE, Int.reduceAdd, Int.reduceSub, Int.reduceMul, Int.reduceNeg, Int.reduceToNat, Int.reduceEq, Int.reduceBEq, Int.reduceBNe, Nat.reduceBEq, beq_self_eq_true, bne_self_eq_false] | with_reducible refine vcond_split (fun _ => ?_) (fun _ => ?_) | with_reducible refine vg_split (fun _ => ?_) (fun _ => ?_) | ((with_reducible apply DCalls.frz); (focus exact rfl); (focus exact rfl)) | ((with_reducible refine And.intro ?_ ?_); (focus (first | omega | decide | assumption | (simp only [decide_eq_true_eq, decide_eq_false_iff_not] at *; omega)))))
      · rename_i ha hb
        simp only [ha, hb, Bool.not_false, Bool.true_and, if_true, Bool.false_or] at hout
        exact qr_ren (j + 1, out ++ [⟨p, ⟨k, m, tt, d⟩⟩] ++ [x], true) 1 5 ⟨by omega, by simp; omega, by simpa using hout⟩ (by simp; omega) rfl rfl (weak_mk rfl rfl rfl (by simp [wk_cons, wk_nil, look_cons, closedD, closedC, renT, renD, renC, encT_nil, encS_nil, encC_nil]))
      · rename_i ha hb
        simp only [ha, hb, Bool.not_false, Bool.true_and, if_true, Bool.false_or, Bool.false_eq_true, if_false] at hout
        exact qr_ren (j + 1, out ++ [⟨p, ⟨k, m, tt, d⟩⟩], true) 1 3 ⟨by omega, by simp; omega, by simpa using hout⟩ (by simp; omega) rfl rfl (weak_mk rfl rfl rfl (by simp [wk_cons, wk_nil, look_cons, closedD, closedC, renT, renD, renC, encT_nil, encS_nil, encC_nil]))
      · rename_i ha hb
        simp only [ha, hb, Bool.not_false, Bool.true_and, if_true, Bool.false_or, Bool.false_eq_true, if_false] at hout
        exact qr_ren (j + 1, out ++ [x], false) 1 3 ⟨by omega, by simp; omega, by simpa using hout⟩ (by simp; omega) rfl rfl (weak_mk rfl rfl rfl (by simp [wk_cons, wk_nil, look_cons, closedD, closedC, renT, renD, renC, encT_nil, encS_nil, encC_nil]))
      · rename_i ha hb
        simp only [ha, hb, Bool.not_false, Bool.true_and, if_true, Bool.false_or, Bool.false_eq_true, if_false] at hout
        exact qr_n (j + 1, out, false) ⟨by omega, by simp; omega, by simpa using hout⟩ (by simp; omega) (weak_mk rfl rfl rfl (by simp [wk_cons, wk_nil, look_cons, closedD, closedC, renT, renD, renC, encT_nil, encS_nil, encC_nil]))
    · repeat' (first | simp only [*, go_sem, Nat.reduceLT, Nat.reduceLeDiff, Nat.reduceEqDiff, ↓reduceIte, Nat.reduceAdd, Nat.reduceSub, Nat.reduceMul, Int.reduceLT, Int.reduceLE, Int.reduceAdd, Int.reduceSub, Int.reduceMul, Int.reduceNeg, Int.reduceToNat, Int.reduceEq, Int.reduceBEq, Int.reduceBNe, Nat.reduceBEq, beq_self_eq_true, bne_self_eq_false] | with_reducible refine vcond_split (fun _ => ?_) (fun _ => ?_) | with_reducible refine vg_split (fun _ => ?_) (fun _ => ?_) | ((with_reducible apply DCalls.frz); (focus exact rfl); (focus exact rfl)) | ((with_reducible refine And.intro ?_ ?_); (focus (first | omega | decide | assumption | (simp only [decide_eq_true_eq, decide_eq_false_iff_not] at *; omega)))))
      · rename_i hb
        simp only [hb, Bool.not_true, Bool.false_and, if_true, Bool.true_or, Bool.false_eq_true, if_false] at hout
        exact qr_ren (j + 1, out ++ [x], true) 1 3 ⟨by omega, by simp; omega, by simpa using hout⟩ (by simp; omega) rfl rfl (weak_mk rfl rfl rfl (by simp [wk_cons, wk_nil, look_cons, closedD, closedC, renT, renD, renC, encT_nil, encS_nil, encC_nil]))
      · rename_i hb
        simp only [hb, Bool.not_true, Bool.false_and, if_true, Bool.true_or, Bool.false_eq_true, if_false] at hout
        exact qr_n (j + 1, out, true) ⟨by omega, by simp; omega, by simpa using hout⟩ (by simp; omega) (weak_mk rfl rfl rfl (by simp [wk_cons, wk_nil, look_cons, closedD, closedC, renT, renD, renC, encT_nil, encS_nil, encC_nil]))
  · have h1 : decide ((j : Int) < (t.length : Int)) = false := decide_eq_false (by omega)
    rw [List.drop_of_length_le (by omega)] at hout
    cases done
    · simp only [setL, Bool.false_eq_true, if_false] at hout
      repeat' (first | simp only [*, go_sem, Nat.reduceLT, Nat.reduceLeDiff, Nat.reduceEqDiff, ↓reduceIte, Nat.reduceAdd, Nat.reduceSub, Nat.reduceMul, Int.reduceLT, Int.reduceLE, Int.reduceAdd, Int.reduceSub, Int.reduceMul, Int.reduceNeg, Int.reduceToNat, Int.reduceEq, Int.reduceBEq, Int.reduceBNe, Nat.reduceBEq, beq_self_eq_true, bne_self_eq_false] | with_reducible refine vcond_split (fun _ => ?_) (fun _ => ?_) | with_reducible refine vg_split (fun _ => ?_) (fun _ => ?_) | ((with_reducible apply DCalls.frz); (focus exact rfl); (focus exact rfl)) | ((with_reducible refine And.intro ?_ ?_); (focus (first | omega | decide | assumption | (simp only [decide_eq_true_eq, decide_eq_false_iff_not] at *; omega)))))
      all_goals rw [List.take_of_length_le (by rw [← hout]; simp)]
    · simp only [setL, if_true, List.append_nil] at hout
      repeat' (first | simp only [*, go_sem, Nat.reduceLT, Nat.reduceLeDiff, Nat.reduceEqDiff, ↓reduceIte, Nat.reduceAdd, Nat.reduceSub, Nat.reduceMul, Int.reduceLT, Int.reduceLE, Int.reduceAdd, Int.reduceSub, Int.reduceMul, Int.reduceNeg, Int.reduceToNat, Int.reduceEq, Int.reduceBEq, Int.reduceBNe, Nat.reduceBEq, beq_self_eq_true, bne_self_eq_false] | with_reducible refine vcond_split (fun _ => ?_) (fun _ => ?_) | with_reducible refine vg_split (fun _ => ?_) (fun _ => ?_) | ((with_reducible apply DCalls.frz); (focus exact rfl); (focus exact rfl)) | ((with_reducible refine And.intro ?_ ?_); (focus (first | omega | decide | assumption | (simp only [decide_eq_true_eq, decide_eq_false_iff_not] at *; omega)))))
      all_goals rw [hout]

end Go.Proofs.YtomaddpcacoodaaGreatDoor
