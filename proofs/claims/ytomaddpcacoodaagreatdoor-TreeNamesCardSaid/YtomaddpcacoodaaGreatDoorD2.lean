/-
  Contracts of the document's functions on paths.
-/
import Derived.Test.YtomaddpcacoodaaGreatDoorD1
set_option linter.unusedSimpArgs false
set_option linter.unusedVariables false
namespace Go.Proofs.YtomaddpcacoodaaGreatDoor
open Go Go.Dm
set_option maxRecDepth 100000
set_option maxHeartbeats 4000000

theorem dirOfR_c {p : List UInt8} (hp : p.length ≤ 4611686018427387904) : DCalls Tryz.prog 82 [.c (.p (.s p))] [] fun r h => r = .c (.p (.s (dirOfR p))) ∧ h = [] := by
  have w0 : IntKind.i64.wrap ((p.length : Int) - 1) = p.length - 1 := wrap_i64 (by omega) (by omega)
  refine ent tabOK hmix Tryz.func82 rfl rfl fun X0 hX => ?_
  simp only [Tryz.ntmps82, Tryz.f82, go_sem]
  repeat' (first | simp only [*, go_sem, Nat.reduceLT, Nat.reduceLeDiff, Nat.reduceEqDiff, ↓reduceIte, Nat.reduceAdd, Nat.reduceSub, Nat.reduceMul, Int.reduceLT, Int.reduceLE, Int.reduceAdd, Int.reduceSub, Int.reduceMul, Int.reduceNeg, Int.reduceToNat, Int.reduceEq, Int.reduceBEq, Int.reduceBNe, Nat.reduceBEq, beq_self_eq_true, bne_self_eq_false] | with_reducible refine vcond_split (fun _ => ?_) (fun _ => ?_) | with_reducible refine vg_split (fun _ => ?_) (fun _ => ?_) | ((with_reducible apply DCalls.frz); (focus exact rfl); (focus exact rfl)) | ((with_reducible refine And.intro ?_ ?_); (focus (first | omega | decide | assumption | (simp only [decide_eq_true_eq, decide_eq_false_iff_not] at *; omega)))))
  refine loop_ren tabOK hmix (α := Nat) (fun j => ⟨18, [(0, .c (.p (.s p))), (3, .c (.p (.i .i64 ((j : Int) - 1))))], []⟩) (fun j => j ≤ p.length ∧ lastSlash p j = lastSlash p p.length) (fun j => j) p.length ⟨Nat.le_refl _, rfl⟩ (.inl (weak_mk (by rw [hX]; rfl) rfl rfl (by simp [wk_cons, wk_nil, look_cons, closedD, closedC, encT_nil, encS_nil, encC_nil]))) ?_
  rintro (_ | j) ⟨hj, hl⟩
  · repeat' (first | simp only [*, go_sem, Nat.reduceLT, Nat.reduceLeDiff, Nat.reduceEqDiff, ↓reduceIte, Nat.reduceAdd, Nat.reduceSub, Nat.reduceMul, Int.reduceLT, Int.reduceLE, Int.reduceAdd, Int.reduceSub, Int.reduceMul, Int.reduceNeg, Int.reduceToNat, Int.reduceEq, Int.reduceBEq, Int.reduceBNe, Nat.reduceBEq, beq_self_eq_true, bne_self_eq_false] | with_reducible refine vcond_split (fun _ => ?_) (fun _ => ?_) | with_reducible refine vg_split (fun _ => ?_) (fun _ => ?_) | ((with_reducible apply DCalls.frz); (focus exact rfl); (focus exact rfl)) | ((with_reducible refine And.intro ?_ ?_); (focus (first | omega | decide | assumption | (simp only [decide_eq_true_eq, decide_eq_false_iff_not] at *; omega)))))
    simp only [dirOfR, ← hl, lastSlash]
  · have e1 : ((j + 1 : Nat) : Int) - 1 = j := by omega
    have w1 : IntKind.i64.wrap ((j : Int) - 1) = j - 1 := wrap_i64 (by omega) (by omega)
    have d1 : decide ((0 : Int) ≤ j) = true := decide_eq_true (by omega)
    simp only [lastSlash] at hl
    repeat' (first | simp only [*, go_sem, Nat.reduceLT, Nat.reduceLeDiff, Nat.reduceEqDiff, ↓reduceIte, Nat.reduceAdd, Nat.reduceSub, Nat.reduceMul, Int.reduceLT, Int.reduceLE, Int.reduceAdd, Int.reduceSub, Int.reduceMul, Int.reduceNeg, Int.reduceToNat, Int.reduceEq, Int.reduceBEq, Int.reduceBNe, Nat.reduceBEq, beq_self_eq_true, bne_self_eq_false] | with_reducible refine vcond_split (fun _ => ?_) (fun _ => ?_) | with_reducible refine vg_split (fun _ => ?_) (fun _ => ?_) | ((with_reducible apply DCalls.frz); (focus exact rfl); (focus exact rfl)) | ((with_reducible refine And.intro ?_ ?_); (focus (first | omega | decide | assumption | (simp only [decide_eq_true_eq, decide_eq_false_iff_not] at *; omega)))))
    · rename_i hb
      rw [if_pos hb] at hl
      simp only [dirOfR, ← hl]
    · rename_i hb
      rw [if_neg (by rw [hb]; decide)] at hl
      exact qr_n j ⟨by omega, hl⟩ (by omega) (weak_mk rfl rfl rfl (by simp [wk_cons, wk_nil, look_cons, closedD, closedC, renT, renD, renC, encT_nil, encS_nil, encC_nil]))

theorem rightNameR_c {s : List UInt8} (hs : s.length ≤ 4611686018427387904) : DCalls Tryz.prog 151 [.c (.p (.s s))] [] fun r h => r = .c (.p (.b (rightNameR s))) ∧ h = [] := by
  refine ent tabOK hmix Tryz.func151 rfl rfl fun X0 hX => ?_
  simp only [Tryz.ntmps151, Tryz.f151, go_sem]
  repeat' (first | simp only [*, go_sem, Nat.reduceLT, Nat.reduceLeDiff, Nat.reduceEqDiff, ↓reduceIte, Nat.reduceAdd, Nat.reduceSub, Nat.reduceMul, Int.reduceLT, Int.reduceLE, Int.reduceAdd, Int.reduceSub, Int.reduceMul, Int.reduceNeg, Int.reduceToNat, Int.reduceEq, Int.reduceBEq, Int.reduceBNe, Nat.reduceBEq, beq_self_eq_true, bne_self_eq_false] | with_reducible refine vcond_split (fun _ => ?_) (fun _ => ?_) | with_reducible refine vg_split (fun _ => ?_) (fun _ => ?_) | ((with_reducible apply DCalls.frz); (focus exact rfl); (focus exact rfl)) | ((with_reducible refine And.intro ?_ ?_); (focus (first | omega | decide | assumption | (simp only [decide_eq_true_eq, decide_eq_false_iff_not] at *; omega)))))
  refine loop_ren tabOK hmix (α := Nat) (fun k => ⟨36, [(0, .c (.p (.s s))), (3, .c (.p (.i .i64 k)))], []⟩) (fun k => k ≤ s.length ∧ (s.drop k).all okByte = s.all okByte) (fun k => s.length - k) 0 ⟨Nat.zero_le _, rfl⟩ (.inl (weak_mk (by rw [hX]; rfl) rfl rfl (by simp [wk_cons, wk_nil, look_cons, closedD, closedC, encT_nil, encS_nil, encC_nil]))) ?_
  rintro k ⟨hk, hl⟩
  by_cases hlt : k < s.length
  · have hx : s[k]? = some s[k] := List.getElem?_eq_getElem hlt
    have hg := getD_at hx
    have hd := drop_at hx
    have h1 : decide ((k : Int) < (s.length : Int)) = true := decide_eq_true (by omega)
    have w1 : IntKind.i64.wrap ((k : Int) + 1) = k + 1 := wrap_i64 (by omega) (by omega)
    generalize s[k] = x at hx hg hd
    rw [hd, List.all_cons] at hl
    repeat' (first | simp only [*, go_sem, Nat.reduceLT, Nat.reduceLeDiff, Nat.reduceEqDiff, ↓reduceIte, Nat.reduceAdd, Nat.reduceSub, Nat.reduceMul, Int.reduceLT, Int.reduceLE, Int.reduceAdd, Int.reduceSub, Int.reduceMul, Int.reduceNeg, Int.reduceToNat, Int.reduceEq, Int.reduceBEq, Int.reduceBNe, Nat.reduceBEq, beq_self_eq_true, bne_self_eq_false] | with_reducible refine vcond_split (fun _ => ?_) (fun _ => ?_) | with_reducible refine vg_split (fun _ => ?_) (fun _ => ?_) | ((with_reducible apply DCalls.frz); (focus exact rfl); (focus exact rfl)) | ((with_reducible refine And.intro ?_ ?_); (focus (first | omega | decide | assumption | (simp only [decide_eq_true_eq, decide_eq_false_iff_not] at *; omega)))))
    · have : okByte x = false := by simp_all [okByte]
      simp only [rightNameR, ← hl, this, Bool.false_and]
    · have : okByte x = false := by simp_all [okByte]
      simp only [rightNameR, ← hl, this, Bool.false_and]
    · have : okByte x = true := by simp_all [okByte]
      rw [this, Bool.true_and] at hl
      exact qr_n (k + 1) ⟨by omega, hl⟩ (by omega) (weak_mk rfl rfl rfl (by simp [wk_cons, wk_nil, look_cons, closedD, closedC, renT, renD, renC, encT_nil, encS_nil, encC_nil]))
  · have h1 : decide ((k : Int) < (s.length : Int)) = false := decide_eq_false (by omega)
    rw [List.drop_of_length_le (by omega), List.all_nil] at hl
    unfold rightNameR
    rw [← hl]
    clear hl
    repeat' (first | simp only [*, go_sem, Nat.reduceLT, Nat.reduceLeDiff, Nat.reduceEqDiff, ↓reduceIte, Nat.reduceAdd, Nat.reduceSub, Nat.reduceMul, Int.reduceLT, Int.reduceLE, Int.reduceAdd, Int.reduceSub, Int.reduceMul, Int.reduceNeg, Int.reduceToNat, Int.reduceEq, Int.reduceBEq, Int.reduceBNe, Nat.reduceBEq, beq_self_eq_true, bne_self_eq_false] | with_reducible refine vcond_split (fun _ => ?_) (fun _ => ?_) | with_reducible refine vg_split (fun _ => ?_) (fun _ => ?_) | ((with_reducible apply DCalls.frz); (focus exact rfl); (focus exact rfl)) | ((with_reducible refine And.intro ?_ ?_); (focus (first | omega | decide | assumption | (simp only [decide_eq_true_eq, decide_eq_false_iff_not] at *; omega)))))
    all_goals simp only [*, Bool.true_and, Bool.and_true, Bool.and_false, Bool.false_and, Bool.not_false, Bool.not_true]

end Go.Proofs.YtomaddpcacoodaaGreatDoor
