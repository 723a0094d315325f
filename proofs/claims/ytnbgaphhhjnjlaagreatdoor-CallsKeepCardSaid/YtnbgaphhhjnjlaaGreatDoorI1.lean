/-
  Contract: whether two trees are the same, as the program asks it.
-/
import Derived.Test.YtnbgaphhhjnjlaaGreatDoorD8
import Derived.Test.YtnbgaphhhjnjlaaGreatDoorSE
set_option linter.unusedSimpArgs false
set_option linter.unusedVariables false
namespace Go.Proofs.YtnbgaphhhjnjlaaGreatDoor
open Go Go.Dm
set_option maxRecDepth 100000
set_option maxHeartbeats 4000000

theorem sameIt_c {p q : List UInt8} {k m k' m' : Int} {t t' : Nat} {d d' : List UInt8} :
    DCalls Tryz.prog 58 [.agg [.p (.s p), .p (.i .i64 k), .p (.i .i64 m), .p (.f t), .p (.sl 1 (encB d))], .agg [.p (.s q), .p (.i .i64 k'), .p (.i .i64 m'), .p (.f t'), .p (.sl 1 (encB d'))]] []
      fun r h => r = .c (.p (.b (sameIt ⟨p, ⟨k, m, t, d⟩⟩ ⟨q, ⟨k', m', t', d'⟩⟩))) ∧ h = [] := by
  refine ent tabOK hmix Tryz.func58 rfl rfl fun X0 hX => ?_
  simp only [Tryz.ntmps58, Tryz.f58, go_sem]
  repeat' (first | simp (maxSteps := 1000000) only [*, go_sem, Nat.reduceLT, Nat.reduceLeDiff, Nat.reduceEqDiff, ↓reduceIte, Nat.reduceAdd, Nat.reduceSub, Nat.reduceMul, Int.reduceLT, Int.reduceLE, Int.reduceAdd, Int.reduceSub, Int.reduceMul, Int.reduceNeg, Int.reduceToNat, Int.reduceEq, Int.reduceBEq, Int.reduceBNe, Nat.reduceBEq, beq_self_eq_true, bne_self_eq_false] | ((with_reducible refine useF (ndSame_c) ?_ ?_ ?_); (focus exact rfl); (focus exact rfl)) | with_reducible refine vcond_split (fun _ => ?_) (fun _ => ?_) | with_reducible refine vg_split (fun _ => ?_) (fun _ => ?_) | ((with_reducible apply DCalls.frz); (focus exact rfl); (focus exact rfl)) | ((with_reducible refine And.intro ?_ ?_); (focus (first | omega | decide | assumption | (simp only [decide_eq_true_eq, decide_eq_false_iff_not] at *; omega)))))
  all_goals (first | (with_reducible rfl) | (simp_all [sameIt]; done) | (simp_all [sameIt]; omega) | (simp_all [sameIt]; (repeat' split) <;> omega))

theorem eqT_c {a b : List It} (ha : a.length ≤ 1000000) (hb : b.length ≤ 1000000) :
    DCalls Tryz.prog 57 [.c (.p (.sl 5 (encT a))), .c (.p (.sl 5 (encT b))), .c (.clo 58 [])] [] fun r h => r = .c (.p (.b (sameTs a b))) ∧ h = [] := by
  by_cases hl : b.length = a.length
  · have q1 : ((a.length : Int) != a.length) = false := by simp
    refine ent tabOK hmix Tryz.func57 rfl rfl fun X0 hX => ?_
    simp only [Tryz.ntmps57, Tryz.f57, go_sem]
    repeat' (first | simp (maxSteps := 1000000) only [*, go_sem, Nat.reduceLT, Nat.reduceLeDiff, Nat.reduceEqDiff, ↓reduceIte, Nat.reduceAdd, Nat.reduceSub, Nat.reduceMul, Int.reduceLT, Int.reduceLE, Int.reduceAdd, Int.reduceSub, Int.reduceMul, Int.reduceNeg, Int.reduceToNat, Int.reduceEq, Int.reduceBEq, Int.reduceBNe, Nat.reduceBEq, beq_self_eq_true, bne_self_eq_false] | with_reducible refine vcond_split (fun _ => ?_) (fun _ => ?_) | with_reducible refine vg_split (fun _ => ?_) (fun _ => ?_) | ((with_reducible apply DCalls.frz); (focus exact rfl); (focus exact rfl)) | ((with_reducible refine And.intro ?_ ?_); (focus (first | omega | decide | assumption | (simp only [decide_eq_true_eq, decide_eq_false_iff_not] at *; omega)))))
    refine loop_ren tabOK hmix (α := Nat) (fun k => ⟨32, [(1, .c (.p (.sl 5 (encT b)))), (2, .c (.clo 58 [])), (15, .c (.p (.sl 5 (encT a)))), (16, .c (.p (.i .i64 a.length))), (17, .c (.p (.i .i64 k)))], []⟩)
      (fun k => k ≤ a.length ∧ sameTs (a.drop k) (b.drop k) = sameTs a b) (fun k => a.length - k) 0 ⟨Nat.zero_le _, rfl⟩ (.inl (weak_mk (by rw [hX]; rfl) rfl rfl (by simp [wk_cons, wk_nil, look_cons, closedD, closedC, encT_nil, encS_nil, encC_nil]))) ?_
    rintro k ⟨hk, hs⟩
    by_cases hlt : k < a.length
    · have hx : a[k]? = some a[k] := List.getElem?_eq_getElem hlt
      have hy : b[k]? = some (b[k]'(by omega)) := List.getElem?_eq_getElem (by omega)
      have hg := encT_at hx
      have hg2 := encT_at hy
      have h1 : decide ((k : Int) < (a.length : Int)) = true := decide_eq_true (by omega)
      have hd := sameTs_drop hx hy
      generalize a[k] = x at hx hg hd
      generalize (b[k]'(by omega)) = y at hy hg2 hd
      have w1 : IntKind.i64.wrap ((k : Int) + 1) = k + 1 := wrap_i64 (by omega) (by omega)
      rw [hd] at hs
      clear hd
      repeat' (first | simp (maxSteps := 1000000) only [*, go_sem, Nat.reduceLT, Nat.reduceLeDiff, Nat.reduceEqDiff, ↓reduceIte, Nat.reduceAdd, Nat.reduceSub, Nat.reduceMul, Int.reduceLT, Int.reduceLE, Int.reduceAdd, Int.reduceSub, Int.reduceMul, Int.reduceNeg, Int.reduceToNat, Int.reduceEq, Int.reduceBEq, Int.reduceBNe, Nat.reduceBEq, beq_self_eq_true, bne_self_eq_false] | ((with_reducible refine useF (sameIt_c) ?_ ?_ ?_); (focus exact rfl); (focus exact rfl)) | with_reducible refine vcond_split (fun _ => ?_) (fun _ => ?_) | with_reducible refine vg_split (fun _ => ?_) (fun _ => ?_) | ((with_reducible apply DCalls.frz); (focus exact rfl); (focus exact rfl)) | ((with_reducible refine And.intro ?_ ?_); (focus (first | omega | decide | assumption | (simp only [decide_eq_true_eq, decide_eq_false_iff_not] at *; omega)))))
      · rename_i hb
        rw [Bool.not_eq_true'] at hb
        rw [hb, Bool.false_and] at hs
        rw [← hs]
      · rename_i hb
        rw [Bool.not_eq_false'] at hb
        rw [hb, Bool.true_and] at hs
        exact qr_n (k + 1) ⟨by omega, hs⟩ (by omega) (weak_mk rfl rfl rfl (by simp [wk_cons, wk_nil, look_cons, closedD, closedC, renT, renD, renC, encT_nil, encS_nil, encC_nil]))
    · have h1 : decide ((k : Int) < (a.length : Int)) = false := decide_eq_false (by omega)
      rw [List.drop_of_length_le (by omega), List.drop_of_length_le (by omega)] at hs
      have hs2 : sameTs a b = true := hs.symm
      clear hs
      repeat' (first | simp (maxSteps := 1000000) only [*, go_sem, Nat.reduceLT, Nat.reduceLeDiff, Nat.reduceEqDiff, ↓reduceIte, Nat.reduceAdd, Nat.reduceSub, Nat.reduceMul, Int.reduceLT, Int.reduceLE, Int.reduceAdd, Int.reduceSub, Int.reduceMul, Int.reduceNeg, Int.reduceToNat, Int.reduceEq, Int.reduceBEq, Int.reduceBNe, Nat.reduceBEq, beq_self_eq_true, bne_self_eq_false] | with_reducible refine vcond_split (fun _ => ?_) (fun _ => ?_) | with_reducible refine vg_split (fun _ => ?_) (fun _ => ?_) | ((with_reducible apply DCalls.frz); (focus exact rfl); (focus exact rfl)) | ((with_reducible refine And.intro ?_ ?_); (focus (first | omega | decide | assumption | (simp only [decide_eq_true_eq, decide_eq_false_iff_not] at *; omega)))))
  · have q1 : ((a.length : Int) != b.length) = true := by simpa [bne] using fun h => hl (by omega)
    rw [sameTs_len fun h => hl h.symm]
    refine ent tabOK hmix Tryz.func57 rfl rfl fun X0 hX => ?_
    simp only [Tryz.ntmps57, Tryz.f57, go_sem]
    repeat' (first | simp (maxSteps := 1000000) only [*, go_sem, Nat.reduceLT, Nat.reduceLeDiff, Nat.reduceEqDiff, ↓reduceIte, Nat.reduceAdd, Nat.reduceSub, Nat.reduceMul, Int.reduceLT, Int.reduceLE, Int.reduceAdd, Int.reduceSub, Int.reduceMul, Int.reduceNeg, Int.reduceToNat, Int.reduceEq, Int.reduceBEq, Int.reduceBNe, Nat.reduceBEq, beq_self_eq_true, bne_self_eq_false] | with_reducible refine vcond_split (fun _ => ?_) (fun _ => ?_) | with_reducible refine vg_split (fun _ => ?_) (fun _ => ?_) | ((with_reducible apply DCalls.frz); (focus exact rfl); (focus exact rfl)) | ((with_reducible refine And.intro ?_ ?_); (focus (first | omega | decide | assumption | (simp only [decide_eq_true_eq, decide_eq_false_iff_not] at *; omega)))))

theorem treeSame_c {a b : List It} (ha : a.length ≤ 1000000) (hb : b.length ≤ 1000000) : DCalls Tryz.prog 30 [.c (.p (.sl 5 (encT a))), .c (.p (.sl 5 (encT b)))] [] fun r h => r = .c (.p (.b (sameTs a b))) ∧ h = [] := by
  refine ent tabOK hmix Tryz.func30 rfl rfl fun X0 hX => ?_
  simp only [Tryz.ntmps30, Tryz.f30, go_sem]
  repeat' (first | simp (maxSteps := 1000000) only [*, go_sem, Nat.reduceLT, Nat.reduceLeDiff, Nat.reduceEqDiff, ↓reduceIte, Nat.reduceAdd, Nat.reduceSub, Nat.reduceMul, Int.reduceLT, Int.reduceLE, Int.reduceAdd, Int.reduceSub, Int.reduceMul, Int.reduceNeg, Int.reduceToNat, Int.reduceEq, Int.reduceBEq, Int.reduceBNe, Nat.reduceBEq, beq_self_eq_true, bne_self_eq_false] | ((with_reducible refine useF (eqT_c ha hb) ?_ ?_ ?_); (focus exact rfl); (focus exact rfl)) | with_reducible refine vcond_split (fun _ => ?_) (fun _ => ?_) | with_reducible refine vg_split (fun _ => ?_) (fun _ => ?_) | ((with_reducible apply DCalls.frz); (focus exact rfl); (focus exact rfl)) | ((with_reducible refine And.intro ?_ ?_); (focus (first | omega | decide | assumption | (simp only [decide_eq_true_eq, decide_eq_false_iff_not] at *; omega)))))

end Go.Proofs.YtnbgaphhhjnjlaaGreatDoor
