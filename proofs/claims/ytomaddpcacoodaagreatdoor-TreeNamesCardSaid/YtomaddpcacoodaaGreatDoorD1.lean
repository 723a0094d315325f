/-
  Contracts of the document's functions on paths and trees.
-/
import Derived.Test.YtomaddpcacoodaaGreatDoorC3
import Derived.Test.YtomaddpcacoodaaGreatDoorSB
set_option linter.unusedSimpArgs false
set_option linter.unusedVariables false
namespace Go.Proofs.YtomaddpcacoodaaGreatDoor
open Go Go.Dm
set_option maxRecDepth 100000
set_option maxHeartbeats 4000000

theorem belowR_c {p q : List UInt8} (hp : p.length ≤ 4611686018427387904) (hq : q.length ≤ 9223372036854775807) : DCalls Tryz.prog 26 [.c (.p (.s p)), .c (.p (.s q))] [] fun r h => r = .c (.p (.b (belowR p q))) ∧ h = [] := by
  have w1 : IntKind.i64.wrap ((p.length : Int) + 1) = p.length + 1 := wrap_i64 (by omega) (by omega)
  refine ent tabOK hmix Tryz.func26 rfl rfl fun X0 hX => ?_
  simp only [Tryz.ntmps26, Tryz.f26, go_sem]
  repeat' (first | simp only [*, go_sem, Nat.reduceLT, Nat.reduceLeDiff, Nat.reduceEqDiff, ↓reduceIte, Nat.reduceAdd, Nat.reduceSub, Nat.reduceMul, Int.reduceLT, Int.reduceLE, Int.reduceAdd, Int.reduceSub, Int.reduceMul, Int.reduceNeg, Int.reduceToNat, Int.reduceEq, Int.reduceBEq, Int.reduceBNe, Nat.reduceBEq, beq_self_eq_true, bne_self_eq_false] | with_reducible refine vcond_split (fun _ => ?_) (fun _ => ?_) | with_reducible refine vg_split (fun _ => ?_) (fun _ => ?_) | ((with_reducible apply DCalls.frz); (focus exact rfl); (focus exact rfl)) | ((with_reducible refine And.intro ?_ ?_); (focus (first | omega | decide | assumption | (simp only [decide_eq_true_eq, decide_eq_false_iff_not] at *; omega)))))
  all_goals (simp_all [belowR]; try (intro _; omega))

theorem noneBelow_c {t : List It} {p : List UInt8} (ht : t.length ≤ 1000000) (hp : p.length ≤ 4611686018427387904) (hq : ∀ x ∈ t, x.p.length ≤ 9223372036854775807) :
    DCalls Tryz.prog 120 [.c (.p (.sl 5 (encT t))), .c (.p (.s p))] [] fun r h => r = .c (.p (.sl 5 (encT (noneBelow t p)))) ∧ h = [] := by
  refine ent tabOK hmix Tryz.func120 rfl rfl fun X0 hX => ?_
  simp only [Tryz.ntmps120, Tryz.f120, go_sem]
  repeat' (first | simp only [*, go_sem, Nat.reduceLT, Nat.reduceLeDiff, Nat.reduceEqDiff, ↓reduceIte, Nat.reduceAdd, Nat.reduceSub, Nat.reduceMul, Int.reduceLT, Int.reduceLE, Int.reduceAdd, Int.reduceSub, Int.reduceMul, Int.reduceNeg, Int.reduceToNat, Int.reduceEq, Int.reduceBEq, Int.reduceBNe, Nat.reduceBEq, beq_self_eq_true, bne_self_eq_false] | with_reducible refine vcond_split (fun _ => ?_) (fun _ => ?_) | with_reducible refine vg_split (fun _ => ?_) (fun _ => ?_) | ((with_reducible apply DCalls.frz); (focus exact rfl); (focus exact rfl)) | ((with_reducible refine And.intro ?_ ?_); (focus (first | omega | decide | assumption | (simp only [decide_eq_true_eq, decide_eq_false_iff_not] at *; omega)))))
  refine vc_virt tabOK hmix 5 5 rfl ?_
  refine loop_ren tabOK hmix (α := Nat × List It) (fun x => ⟨29, [(0, .c (.p (.sl 5 (encT t)))), (1, .c (.p (.s p))), (5, .c (.own 0 0 x.2.length)), (6, .c (.p (.i .i64 x.1)))], [.arr 5 (encT x.2) false]⟩)
    (fun x => x.1 ≤ t.length ∧ x.2.length ≤ x.1 ∧ x.2 ++ noneBelow (t.drop x.1) p = noneBelow t p) (fun x => t.length - x.1) (0, []) ?_ ?_ ?_
  · exact ⟨Nat.zero_le _, Nat.le_refl _, by simp⟩
  · refine .inl (weak_mk (by rw [hX]; rfl) rfl rfl ?_)
    simp [wk_cons, wk_nil, look_cons, closedD, closedC]
  · rintro ⟨k, out⟩ ⟨hk, hol, hout⟩
    simp only at hk hol hout
    by_cases hlt : k < t.length
    · have hx : t[k]? = some t[k] := List.getElem?_eq_getElem hlt
      have hg := encT_at hx
      have hd := drop_at hx
      have h1 : decide ((k : Int) < (t.length : Int)) = true := decide_eq_true (by omega)
      have w1 : IntKind.i64.wrap ((k : Int) + 1) = k + 1 := wrap_i64 (by omega) (by omega)
      generalize t[k] = x at hx hg hd
      have hxp := hq x (List.mem_of_getElem? hx)
      repeat' (first | simp only [*, go_sem, Nat.reduceLT, Nat.reduceLeDiff, Nat.reduceEqDiff, ↓reduceIte, Nat.reduceAdd, Nat.reduceSub, Nat.reduceMul, Int.reduceLT, Int.reduceLE, Int.reduceAdd, Int.reduceSub, Int.reduceMul, Int.reduceNeg, Int.reduceToNat, Int.reduceEq, Int.reduceBEq, Int.reduceBNe, Nat.reduceBEq, beq_self_eq_true, bne_self_eq_false] | ((with_reducible refine useF (belowR_c hp hxp) ?_ ?_ ?_); (focus exact rfl); (focus exact rfl)) | with_reducible refine vcond_split (fun _ => ?_) (fun _ => ?_) | with_reducible refine vg_split (fun _ => ?_) (fun _ => ?_) | ((with_reducible apply DCalls.frz); (focus exact rfl); (focus exact rfl)) | ((with_reducible refine And.intro ?_ ?_); (focus (first | omega | decide | assumption | (simp only [decide_eq_true_eq, decide_eq_false_iff_not] at *; omega)))))
      · refine qr_ren (k + 1, out ++ [x]) 0 2 ⟨by omega, by simp; omega, ?_⟩ (by simp; omega) rfl rfl (weak_mk rfl rfl rfl ?_)
        · rw [← hout, hd]
          have hb : belowR p x.p = false := by simpa using ‹(!belowR p x.p) = true›
          simp [noneBelow, hb]
        · simp [wk_cons, wk_nil, look_cons, closedD, closedC, renT, renD, renC]
      · refine qr_n (k + 1, out) ⟨by omega, by simp; omega, ?_⟩ (by simp; omega) (weak_mk rfl rfl rfl ?_)
        · rw [← hout, hd]
          have hb : belowR p x.p = true := by simpa using ‹(!belowR p x.p) = false›
          simp [noneBelow, hb]
        · simp [wk_cons, wk_nil, look_cons, closedD, closedC]
    · have h1 : decide ((k : Int) < (t.length : Int)) = false := decide_eq_false (by omega)
      repeat' (first | simp only [*, go_sem, Nat.reduceLT, Nat.reduceLeDiff, Nat.reduceEqDiff, ↓reduceIte, Nat.reduceAdd, Nat.reduceSub, Nat.reduceMul, Int.reduceLT, Int.reduceLE, Int.reduceAdd, Int.reduceSub, Int.reduceMul, Int.reduceNeg, Int.reduceToNat, Int.reduceEq, Int.reduceBEq, Int.reduceBNe, Nat.reduceBEq, beq_self_eq_true, bne_self_eq_false] | with_reducible refine vcond_split (fun _ => ?_) (fun _ => ?_) | with_reducible refine vg_split (fun _ => ?_) (fun _ => ?_) | ((with_reducible apply DCalls.frz); (focus exact rfl); (focus exact rfl)) | ((with_reducible refine And.intro ?_ ?_); (focus (first | omega | decide | assumption | (simp only [decide_eq_true_eq, decide_eq_false_iff_not] at *; omega)))))
      have : k = t.length := by omega
      subst this
      rw [List.drop_length] at hout
      rw [← hout]
      simp [noneBelow]

end Go.Proofs.YtomaddpcacoodaaGreatDoor
