/-
  Contracts of the document's functions on trees.
-/
import Derived.Test.YtomaddpcacoodaaGreatDoorD3
set_option linter.unusedSimpArgs false
set_option linter.unusedVariables false
namespace Go.Proofs.YtomaddpcacoodaaGreatDoor
open Go Go.Dm
set_option maxRecDepth 100000
set_option maxHeartbeats 4000000

theorem getR_c {t : List It} {p : List UInt8} (ht : t.length ≤ 1000000) :
    DCalls Tryz.prog 57 [.c (.p (.sl 5 (encT t))), .c (.p (.s p))] [] fun r h => r = .tup [.agg ((getR t p).getD nd0).cv, .c (.p (.b (getR t p).isSome))] ∧ h = [] := by
  refine dcalls_wk ?_
  refine ent tabOK hmix Tryz.func57 rfl rfl fun X0 hX => ?_
  simp only [Tryz.ntmps57, Tryz.f57, go_sem]
  repeat' (first | simp only [*, go_sem, Nat.reduceLT, Nat.reduceLeDiff, Nat.reduceEqDiff, ↓reduceIte, Nat.reduceAdd, Nat.reduceSub, Nat.reduceMul, Int.reduceLT, Int.reduceLE, Int.reduceAdd, Int.reduceSub, Int.reduceMul, Int.reduceNeg, Int.reduceToNat, Int.reduceEq, Int.reduceBEq, Int.reduceBNe, Nat.reduceBEq, beq_self_eq_true, bne_self_eq_false] | with_reducible refine vcond_split (fun _ => ?_) (fun _ => ?_) | with_reducible refine vg_split (fun _ => ?_) (fun _ => ?_) | ((with_reducible apply DCalls.frz); (focus exact rfl); (focus exact rfl)) | ((with_reducible refine And.intro ?_ ?_); (focus (first | omega | decide | assumption | (simp only [decide_eq_true_eq, decide_eq_false_iff_not] at *; omega)))))
  refine loop_ren tabOK hmix (α := Nat) (fun k => ⟨26, [(0, .c (.p (.sl 5 (encT t)))), (1, .c (.p (.s p))), (4, .c (.ptr 0 0)), (6, .c (.p (.i .i64 k)))], [.box [.p (.i .i64 0), .p (.i .i64 0), .p (.f 0), .p .nil]]⟩)
    (fun k => k ≤ t.length ∧ getR (t.drop k) p = getR t p) (fun k => t.length - k) 0 ⟨Nat.zero_le _, rfl⟩ (.inl (weak_mk (by rw [hX]; rfl) rfl rfl (by simp [wk_cons, wk_nil, look_cons, closedD, closedC, encT_nil, encS_nil, encC_nil]))) ?_
  rintro k ⟨hk, hl⟩
  by_cases hlt : k < t.length
  · have hx : t[k]? = some t[k] := List.getElem?_eq_getElem hlt
    have hg := encT_at hx
    have hd := drop_at hx
    have h1 : decide ((k : Int) < (t.length : Int)) = true := decide_eq_true (by omega)
    have w1 : IntKind.i64.wrap ((k : Int) + 1) = k + 1 := wrap_i64 (by omega) (by omega)
    generalize t[k] = x at hx hg hd
    rw [hd] at hl
    simp only [getR] at hl
    repeat' (first | simp only [*, go_sem, Nat.reduceLT, Nat.reduceLeDiff, Nat.reduceEqDiff, ↓reduceIte, Nat.reduceAdd, Nat.reduceSub, Nat.reduceMul, Int.reduceLT, Int.reduceLE, Int.reduceAdd, Int.reduceSub, Int.reduceMul, Int.reduceNeg, Int.reduceToNat, Int.reduceEq, Int.reduceBEq, Int.reduceBNe, Nat.reduceBEq, beq_self_eq_true, bne_self_eq_false] | with_reducible refine vcond_split (fun _ => ?_) (fun _ => ?_) | with_reducible refine vg_split (fun _ => ?_) (fun _ => ?_) | ((with_reducible apply DCalls.frz); (focus exact rfl); (focus exact rfl)) | ((with_reducible refine And.intro ?_ ?_); (focus (first | omega | decide | assumption | (simp only [decide_eq_true_eq, decide_eq_false_iff_not] at *; omega)))))
    · rename_i hb
      rw [if_pos hb] at hl
      rw [← hl]
      simp only [Option.getD_some, Option.isSome_some]
      simp
    · rename_i hb
      rw [if_neg (by rw [hb]; decide)] at hl
      exact qr_n (k + 1) ⟨by omega, hl⟩ (by omega) (weak_mk rfl rfl rfl (by simp [wk_cons, wk_nil, look_cons, closedD, closedC, renT, renD, renC, encT_nil, encS_nil, encC_nil]))
  · have h1 : decide ((k : Int) < (t.length : Int)) = false := decide_eq_false (by omega)
    rw [List.drop_of_length_le (by omega)] at hl
    simp only [getR] at hl
    repeat' (first | simp only [*, go_sem, Nat.reduceLT, Nat.reduceLeDiff, Nat.reduceEqDiff, ↓reduceIte, Nat.reduceAdd, Nat.reduceSub, Nat.reduceMul, Int.reduceLT, Int.reduceLE, Int.reduceAdd, Int.reduceSub, Int.reduceMul, Int.reduceNeg, Int.reduceToNat, Int.reduceEq, Int.reduceBEq, Int.reduceBNe, Nat.reduceBEq, beq_self_eq_true, bne_self_eq_false] | with_reducible refine vcond_split (fun _ => ?_) (fun _ => ?_) | with_reducible refine vg_split (fun _ => ?_) (fun _ => ?_) | ((with_reducible apply DCalls.frz); (focus exact rfl); (focus exact rfl)) | ((with_reducible refine And.intro ?_ ?_); (focus (first | omega | decide | assumption | (simp only [decide_eq_true_eq, decide_eq_false_iff_not] at *; omega)))))
    all_goals rw [← hl]
    all_goals simp [nd0, encB_nil]

theorem isDirR_c {t : List It} {p : List UInt8} (ht : t.length ≤ 1000000) :
    DCalls Tryz.prog 56 [.c (.p (.sl 5 (encT t))), .c (.p (.s p))] [] fun r h => r = .c (.p (.b (isDirR t p))) ∧ h = [] := by
  have hd : isDirR t p = (p == [] || ((getR t p).isSome && ((getR t p).getD nd0).k == 2)) := by
    unfold isDirR; cases getR t p <;> rfl
  rw [hd]
  refine ent tabOK hmix Tryz.func56 rfl rfl fun X0 hX => ?_
  simp only [Tryz.ntmps56, Tryz.f56, go_sem]
  repeat' (first | simp only [*, go_sem, Nat.reduceLT, Nat.reduceLeDiff, Nat.reduceEqDiff, ↓reduceIte, Nat.reduceAdd, Nat.reduceSub, Nat.reduceMul, Int.reduceLT, Int.reduceLE, Int.reduceAdd, Int.reduceSub, Int.reduceMul, Int.reduceNeg, Int.reduceToNat, Int.reduceEq, Int.reduceBEq, Int.reduceBNe, Nat.reduceBEq, beq_self_eq_true, bne_self_eq_false] | ((with_reducible refine useN (getR_c ht) ?_ ?_ ?_); (focus exact rfl); (focus exact fun _ => rfl)) | with_reducible refine vcond_split (fun _ => ?_) (fun _ => ?_) | with_reducible refine vg_split (fun _ => ?_) (fun _ => ?_) | ((with_reducible apply DCalls.frz); (focus exact rfl); (focus exact rfl)) | ((with_reducible refine And.intro ?_ ?_); (focus (first | omega | decide | assumption | (simp only [decide_eq_true_eq, decide_eq_false_iff_not] at *; omega)))))
  all_goals simp only [*, Bool.true_and, Bool.and_true, Bool.and_false, Bool.false_and, Bool.false_or, Bool.true_or]

theorem removeR_c {t : List It} {p : List UInt8} (ht : t.length ≤ 1000000) (hp : p.length ≤ 4611686018427387904) (hq : ∀ x ∈ t, x.p.length ≤ 9223372036854775807) :
    DCalls Tryz.prog 92 [.c (.p (.sl 5 (encT t))), .c (.p (.s p))] [] fun r h => r = .c (.p (.sl 5 (encT (removeR t p)))) ∧ h = [] := by
  have hnl : (noneBelow t p).length ≤ t.length := List.length_filter_le ..
  refine ent tabOK hmix Tryz.func92 rfl rfl fun X0 hX => ?_
  simp only [Tryz.ntmps92, Tryz.f92, go_sem]
  repeat' (first | simp only [*, go_sem, Nat.reduceLT, Nat.reduceLeDiff, Nat.reduceEqDiff, ↓reduceIte, Nat.reduceAdd, Nat.reduceSub, Nat.reduceMul, Int.reduceLT, Int.reduceLE, Int.reduceAdd, Int.reduceSub, Int.reduceMul, Int.reduceNeg, Int.reduceToNat, Int.reduceEq, Int.reduceBEq, Int.reduceBNe, Nat.reduceBEq, beq_self_eq_true, bne_self_eq_false] | ((with_reducible refine useN (noneBelow_c ht hp hq) ?_ ?_ ?_); (focus exact rfl); (focus exact fun _ => rfl)) | with_reducible refine vcond_split (fun _ => ?_) (fun _ => ?_) | with_reducible refine vg_split (fun _ => ?_) (fun _ => ?_) | ((with_reducible apply DCalls.frz); (focus exact rfl); (focus exact rfl)) | ((with_reducible refine And.intro ?_ ?_); (focus (first | omega | decide | assumption | (simp only [decide_eq_true_eq, decide_eq_false_iff_not] at *; omega)))))
  unfold removeR
  generalize noneBelow t p = u at *
  refine vc_virt tabOK hmix 5 5 rfl ?_
  refine loop_ren tabOK hmix (α := Nat × List It) (fun x => ⟨32, [(0, .c (.p (.sl 5 (encT t)))), (1, .c (.p (.s p))), (6, .c (.p (.sl 5 (encT u)))), (5, .c (.own 0 0 x.2.length)), (7, .c (.p (.i .i64 x.1)))], [.arr 5 (encT x.2) false]⟩)
    (fun x => x.1 ≤ u.length ∧ x.2.length ≤ x.1 ∧ x.2 ++ dropR (u.drop x.1) p = dropR u p) (fun x => u.length - x.1) (0, []) ⟨Nat.zero_le _, Nat.le_refl _, by simp⟩ (.inl (weak_mk (by rw [hX]; rfl) rfl rfl (by simp [wk_cons, wk_nil, look_cons, closedD, closedC, encT_nil, encS_nil, encC_nil]))) ?_
  rintro ⟨k, out⟩ ⟨hk, hol, hout⟩
  simp only at hk hol hout
  by_cases hlt : k < u.length
  · have hx : u[k]? = some u[k] := List.getElem?_eq_getElem hlt
    have hg := encT_at hx
    have hd := drop_at hx
    have h1 : decide ((k : Int) < (u.length : Int)) = true := decide_eq_true (by omega)
    have w1 : IntKind.i64.wrap ((k : Int) + 1) = k + 1 := wrap_i64 (by omega) (by omega)
    generalize u[k] = x at hx hg hd
    rw [hd, dropR, List.filter_cons] at hout
    repeat' (first | simp only [*, go_sem, Nat.reduceLT, Nat.reduceLeDiff, Nat.reduceEqDiff, ↓reduceIte, Nat.reduceAdd, Nat.reduceSub, Nat.reduceMul, Int.reduceLT, Int.reduceLE, Int.reduceAdd, Int.reduceSub, Int.reduceMul, Int.reduceNeg, Int.reduceToNat, Int.reduceEq, Int.reduceBEq, Int.reduceBNe, Nat.reduceBEq, beq_self_eq_true, bne_self_eq_false] | with_reducible refine vcond_split (fun _ => ?_) (fun _ => ?_) | with_reducible refine vg_split (fun _ => ?_) (fun _ => ?_) | ((with_reducible apply DCalls.frz); (focus exact rfl); (focus exact rfl)) | ((with_reducible refine And.intro ?_ ?_); (focus (first | omega | decide | assumption | (simp only [decide_eq_true_eq, decide_eq_false_iff_not] at *; omega)))))
    · rename_i hb
      rw [if_pos (by simpa using hb)] at hout
      exact qr_ren (k + 1, out ++ [x]) 0 2 ⟨by omega, by simp; omega, by simpa [dropR] using hout⟩ (by simp; omega) rfl rfl (weak_mk rfl rfl rfl (by simp [wk_cons, wk_nil, look_cons, closedD, closedC, renT, renD, renC, encT_nil, encS_nil, encC_nil]))
    · rename_i hb
      rw [if_neg (by simpa using hb)] at hout
      exact qr_n (k + 1, out) ⟨by omega, by simp; omega, hout⟩ (by simp; omega) (weak_mk rfl rfl rfl (by simp [wk_cons, wk_nil, look_cons, closedD, closedC, renT, renD, renC, encT_nil, encS_nil, encC_nil]))
  · have h1 : decide ((k : Int) < (u.length : Int)) = false := decide_eq_false (by omega)
    rw [List.drop_of_length_le (by omega)] at hout
    simp only [dropR, List.filter_nil, List.append_nil] at hout
    repeat' (first | simp only [*, go_sem, Nat.reduceLT, Nat.reduceLeDiff, Nat.reduceEqDiff, ↓reduceIte, Nat.reduceAdd, Nat.reduceSub, Nat.reduceMul, Int.reduceLT, Int.reduceLE, Int.reduceAdd, Int.reduceSub, Int.reduceMul, Int.reduceNeg, Int.reduceToNat, Int.reduceEq, Int.reduceBEq, Int.reduceBNe, Nat.reduceBEq, beq_self_eq_true, bne_self_eq_false] | with_reducible refine vcond_split (fun _ => ?_) (fun _ => ?_) | with_reducible refine vg_split (fun _ => ?_) (fun _ => ?_) | ((with_reducible apply DCalls.frz); (focus exact rfl); (focus exact rfl)) | ((with_reducible refine And.intro ?_ ?_); (focus (first | omega | decide | assumption | (simp only [decide_eq_true_eq, decide_eq_false_iff_not] at *; omega)))))
    all_goals rfl

end Go.Proofs.YtomaddpcacoodaaGreatDoor
