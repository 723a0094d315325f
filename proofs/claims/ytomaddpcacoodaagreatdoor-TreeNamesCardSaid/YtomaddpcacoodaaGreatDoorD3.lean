/-
  Contracts of the document's functions on paths.
-/
import Derived.Test.YtomaddpcacoodaaGreatDoorD2
set_option linter.unusedSimpArgs false
set_option linter.unusedVariables false
namespace Go.Proofs.YtomaddpcacoodaaGreatDoor
open Go Go.Dm
set_option maxRecDepth 100000
set_option maxHeartbeats 4000000

theorem cutR_c {s : List UInt8} (hs : s.length ≤ 1000000000) : DCalls Tryz.prog 150 [.c (.p (.s s))] [] fun r h => r = .c (.p (.sl 1 (encS (cutR s)))) ∧ h = [] := by
  refine ent tabOK hmix Tryz.func150 rfl rfl fun X0 hX => ?_
  simp only [Tryz.ntmps150, Tryz.f150, go_sem]
  repeat' (first | simp only [*, go_sem, Nat.reduceLT, Nat.reduceLeDiff, Nat.reduceEqDiff, ↓reduceIte, Nat.reduceAdd, Nat.reduceSub, Nat.reduceMul, Int.reduceLT, Int.reduceLE, Int.reduceAdd, Int.reduceSub, Int.reduceMul, Int.reduceNeg, Int.reduceToNat, Int.reduceEq, Int.reduceBEq, Int.reduceBNe, Nat.reduceBEq, beq_self_eq_true, bne_self_eq_false] | with_reducible refine vcond_split (fun _ => ?_) (fun _ => ?_) | with_reducible refine vg_split (fun _ => ?_) (fun _ => ?_) | ((with_reducible apply DCalls.frz); (focus exact rfl); (focus exact rfl)) | ((with_reducible refine And.intro ?_ ?_); (focus (first | omega | decide | assumption | (simp only [decide_eq_true_eq, decide_eq_false_iff_not] at *; omega)))))
  refine vc_virt tabOK hmix 3 1 rfl ?_
  refine loop_ren tabOK hmix (α := Nat × List (List UInt8) × List UInt8) (fun x => ⟨31, [(0, .c (.p (.s s))), (3, .c (.own 0 0 x.2.1.length)), (4, .c (.p (.s x.2.2))), (5, .c (.p (.i .i64 x.1)))], [.arr 1 (encS x.2.1) false]⟩)
    (fun x => x.1 ≤ s.length ∧ x.2.1.length ≤ x.1 ∧ x.2.2.length ≤ x.1 ∧ x.2.1 ++ cutL x.2.2 (s.drop x.1) = cutR s) (fun x => s.length - x.1) (0, [], []) ⟨Nat.zero_le _, Nat.le_refl _, Nat.le_refl _, by simp [cutR]⟩ (.inl (weak_mk (by rw [hX]; rfl) rfl rfl (by simp [wk_cons, wk_nil, look_cons, closedD, closedC, encT_nil, encS_nil, encC_nil]))) ?_
  rintro ⟨k, out, w⟩ ⟨hk, hol, hwl, hl⟩
  simp only at hk hol hwl hl
  by_cases hlt : k < s.length
  · have hx : s[k]? = some s[k] := List.getElem?_eq_getElem hlt
    have hg := getD_at hx
    have hd := drop_at hx
    have h1 : decide ((k : Int) < (s.length : Int)) = true := decide_eq_true (by omega)
    have w1 : IntKind.i64.wrap ((k : Int) + 1) = k + 1 := wrap_i64 (by omega) (by omega)
    have ho := one_at hx
    generalize s[k] = x at hx hg hd ho
    rw [hd] at hl
    simp only [cutL] at hl
    repeat' (first | simp only [*, go_sem, Nat.reduceLT, Nat.reduceLeDiff, Nat.reduceEqDiff, ↓reduceIte, Nat.reduceAdd, Nat.reduceSub, Nat.reduceMul, Int.reduceLT, Int.reduceLE, Int.reduceAdd, Int.reduceSub, Int.reduceMul, Int.reduceNeg, Int.reduceToNat, Int.reduceEq, Int.reduceBEq, Int.reduceBNe, Nat.reduceBEq, beq_self_eq_true, bne_self_eq_false] | with_reducible refine vcond_split (fun _ => ?_) (fun _ => ?_) | with_reducible refine vg_split (fun _ => ?_) (fun _ => ?_) | ((with_reducible apply DCalls.frz); (focus exact rfl); (focus exact rfl)) | ((with_reducible refine And.intro ?_ ?_); (focus (first | omega | decide | assumption | (simp only [decide_eq_true_eq, decide_eq_false_iff_not] at *; omega)))))
    · rename_i hb
      rw [if_pos hb] at hl
      exact qr_ren (k + 1, out ++ [w], []) 0 2 ⟨by omega, by simp; omega, by simp, by simpa using hl⟩ (by simp; omega) rfl rfl (weak_mk rfl rfl rfl (by simp [wk_cons, wk_nil, look_cons, closedD, closedC, renT, renD, renC, encT_nil, encS_nil, encC_nil]))
    · rename_i hb
      rw [if_neg (by rw [hb]; decide)] at hl
      exact qr_n (k + 1, out, w ++ [x]) ⟨by omega, by simp; omega, by simp; omega, hl⟩ (by simp; omega) (weak_mk rfl rfl rfl (by simp [wk_cons, wk_nil, look_cons, closedD, closedC, renT, renD, renC, encT_nil, encS_nil, encC_nil]))
  · have h1 : decide ((k : Int) < (s.length : Int)) = false := decide_eq_false (by omega)
    rw [List.drop_of_length_le (by omega)] at hl
    simp only [cutL] at hl
    have hl2 : (cutR s).length = out.length + 1 := by rw [← hl]; simp
    repeat' (first | simp only [*, go_sem, Nat.reduceLT, Nat.reduceLeDiff, Nat.reduceEqDiff, ↓reduceIte, Nat.reduceAdd, Nat.reduceSub, Nat.reduceMul, Int.reduceLT, Int.reduceLE, Int.reduceAdd, Int.reduceSub, Int.reduceMul, Int.reduceNeg, Int.reduceToNat, Int.reduceEq, Int.reduceBEq, Int.reduceBNe, Nat.reduceBEq, beq_self_eq_true, bne_self_eq_false] | with_reducible refine vcond_split (fun _ => ?_) (fun _ => ?_) | with_reducible refine vg_split (fun _ => ?_) (fun _ => ?_) | ((with_reducible apply DCalls.frz); (focus exact rfl); (focus exact rfl)) | ((with_reducible refine And.intro ?_ ?_); (focus (first | omega | decide | assumption | (simp only [decide_eq_true_eq, decide_eq_false_iff_not] at *; omega)))))
    all_goals rw [List.take_of_length_le (by omega)]

theorem isPathR_c {p : List UInt8} (hp : p.length ≤ 1000000000) : DCalls Tryz.prog 80 [.c (.p (.s p))] [] fun r h => r = .c (.p (.b (isPathR p))) ∧ h = [] := by
  have hcl : (cutR p).length ≤ p.length + 1 := cutL_len p []
  refine ent tabOK hmix Tryz.func80 rfl rfl fun X0 hX => ?_
  simp only [Tryz.ntmps80, Tryz.f80, go_sem]
  repeat' (first | simp only [*, go_sem, Nat.reduceLT, Nat.reduceLeDiff, Nat.reduceEqDiff, ↓reduceIte, Nat.reduceAdd, Nat.reduceSub, Nat.reduceMul, Int.reduceLT, Int.reduceLE, Int.reduceAdd, Int.reduceSub, Int.reduceMul, Int.reduceNeg, Int.reduceToNat, Int.reduceEq, Int.reduceBEq, Int.reduceBNe, Nat.reduceBEq, beq_self_eq_true, bne_self_eq_false] | ((with_reducible refine useN (cutR_c hp) ?_ ?_ ?_); (focus exact rfl); (focus exact fun _ => rfl)) | with_reducible refine vcond_split (fun _ => ?_) (fun _ => ?_) | with_reducible refine vg_split (fun _ => ?_) (fun _ => ?_) | ((with_reducible apply DCalls.frz); (focus exact rfl); (focus exact rfl)) | ((with_reducible refine And.intro ?_ ?_); (focus (first | omega | decide | assumption | (simp only [decide_eq_true_eq, decide_eq_false_iff_not] at *; omega)))))
  · rename_i h0
    simp only [isPathR, h0, Bool.true_or]
  rename_i h0
  refine loop_ren tabOK hmix (α := Nat) (fun k => ⟨24, [(0, .c (.p (.s p))), (3, .c (.p (.sl 1 (encS (cutR p))))), (4, .c (.p (.i .i64 k)))], []⟩)
    (fun k => k ≤ (cutR p).length ∧ ((cutR p).drop k).all rightNameR = (cutR p).all rightNameR) (fun k => (cutR p).length - k) 0 ⟨Nat.zero_le _, rfl⟩ (.inl (weak_mk (by rw [hX]; rfl) rfl rfl (by simp [wk_cons, wk_nil, look_cons, closedD, closedC, encT_nil, encS_nil, encC_nil]))) ?_
  rintro k ⟨hk, hl⟩
  by_cases hlt : k < (cutR p).length
  · have hx : (cutR p)[k]? = some (cutR p)[k] := List.getElem?_eq_getElem hlt
    have hg := encS_at hx
    have hd := drop_at hx
    have h1 : decide ((k : Int) < ((cutR p).length : Int)) = true := decide_eq_true (by omega)
    have w1 : IntKind.i64.wrap ((k : Int) + 1) = k + 1 := wrap_i64 (by omega) (by omega)
    generalize (cutR p)[k] = x at hx hg hd
    have hxl : x.length ≤ p.length := by have := cutL_mem p [] x (List.mem_of_getElem? hx); simpa using this
    rw [hd, List.all_cons] at hl
    repeat' (first | simp only [*, go_sem, Nat.reduceLT, Nat.reduceLeDiff, Nat.reduceEqDiff, ↓reduceIte, Nat.reduceAdd, Nat.reduceSub, Nat.reduceMul, Int.reduceLT, Int.reduceLE, Int.reduceAdd, Int.reduceSub, Int.reduceMul, Int.reduceNeg, Int.reduceToNat, Int.reduceEq, Int.reduceBEq, Int.reduceBNe, Nat.reduceBEq, beq_self_eq_true, bne_self_eq_false] | ((with_reducible refine useF (rightNameR_c (s := x) (by omega)) ?_ ?_ ?_); (focus exact rfl); (focus exact rfl)) | with_reducible refine vcond_split (fun _ => ?_) (fun _ => ?_) | with_reducible refine vg_split (fun _ => ?_) (fun _ => ?_) | ((with_reducible apply DCalls.frz); (focus exact rfl); (focus exact rfl)) | ((with_reducible refine And.intro ?_ ?_); (focus (first | omega | decide | assumption | (simp only [decide_eq_true_eq, decide_eq_false_iff_not] at *; omega)))))
    · rename_i hb
      have hb : rightNameR x = false := by simpa using hb
      simp only [isPathR, h0, ← hl, hb, Bool.false_and, Bool.false_or]
    · rename_i hb
      have hb : rightNameR x = true := by simpa using hb
      rw [hb, Bool.true_and] at hl
      exact qr_n (k + 1) ⟨by omega, hl⟩ (by omega) (weak_mk rfl rfl rfl (by simp [wk_cons, wk_nil, look_cons, closedD, closedC, renT, renD, renC, encT_nil, encS_nil, encC_nil]))
  · have h1 : decide ((k : Int) < ((cutR p).length : Int)) = false := decide_eq_false (by omega)
    rw [List.drop_of_length_le (by omega), List.all_nil] at hl
    unfold isPathR
    repeat' (first | simp only [*, go_sem, Nat.reduceLT, Nat.reduceLeDiff, Nat.reduceEqDiff, ↓reduceIte, Nat.reduceAdd, Nat.reduceSub, Nat.reduceMul, Int.reduceLT, Int.reduceLE, Int.reduceAdd, Int.reduceSub, Int.reduceMul, Int.reduceNeg, Int.reduceToNat, Int.reduceEq, Int.reduceBEq, Int.reduceBNe, Nat.reduceBEq, beq_self_eq_true, bne_self_eq_false] | with_reducible refine vcond_split (fun _ => ?_) (fun _ => ?_) | with_reducible refine vg_split (fun _ => ?_) (fun _ => ?_) | ((with_reducible apply DCalls.frz); (focus exact rfl); (focus exact rfl)) | ((with_reducible refine And.intro ?_ ?_); (focus (first | omega | decide | assumption | (simp only [decide_eq_true_eq, decide_eq_false_iff_not] at *; omega)))))
    all_goals rw [← hl, Bool.true_and]

end Go.Proofs.YtomaddpcacoodaaGreatDoor
