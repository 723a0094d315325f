/-
  Contracts of slices.DeleteFunc at a tree's items, and of what is left when a path goes.
-/
import Derived.Test.YtomaddpcacoodaaGreatDoorF2
set_option linter.unusedSimpArgs false
set_option linter.unusedVariables false
namespace Go.Proofs.YtomaddpcacoodaaGreatDoor
open Go Go.Dm
set_option maxRecDepth 100000
set_option maxHeartbeats 4000000

theorem index_c {t : List It} {p : List UInt8} {it : Bool} (hp : p.length ≤ 1000000000) (ht : t.length ≤ 1000000) :
    DCalls Tryz.prog 175 [.c (.own 2 0 t.length), .c (.clo 138 [.ptr 0 0, .ptr 1 0])] [.box [.p (.s p)], .box [.p (.b it)], .arr 5 (encT t) false]
      fun r h => (∃ i : Nat, i ≤ t.length ∧ (∀ j x, t[j]? = some x → j < i → goF p it x = false) ∧ ((∃ x, t[i]? = some x ∧ goF p it x = true ∧ r = .c (.p (.i .i64 i))) ∨ (i = t.length ∧ r = .c (.p (.i .i64 (-1)))))) ∧ h = [.box [.p (.s p)], .box [.p (.b it)], .arr 5 (encT t) false] := by
  refine ent tabOK hmix Tryz.func175 rfl rfl fun X0 hX => ?_
  simp only [Tryz.ntmps175, Tryz.f175, go_sem]
  repeat' (first | simp only [*, go_sem, Nat.reduceLT, Nat.reduceLeDiff, Nat.reduceEqDiff, ↓reduceIte, Nat.reduceAdd, Nat.reduceSub, Nat.reduceMul, Int.reduceLT, Int.reduceLE, Int.reduceAdd, Int.reduceSub, Int.reduceMul, Int.reduceNeg, Int.reduceToNat, Int.reduceEq, Int.reduceBEq, Int.reduceBNe, Nat.reduceBEq, beq_self_eq_true, bne_self_eq_false] | with_reducible refine vcond_split (fun _ => ?_) (fun _ => ?_) | with_reducible refine vg_split (fun _ => ?_) (fun _ => ?_) | ((with_reducible apply DCalls.frz); (focus exact rfl); (focus exact rfl)) | ((with_reducible refine And.intro ?_ ?_); (focus (first | omega | decide | assumption | (simp only [decide_eq_true_eq, decide_eq_false_iff_not] at *; omega)))))
  refine loop_ren tabOK hmix (α := Nat) (fun k => ⟨19, [(0, .c (.own 2 0 t.length)), (1, .c (.clo 138 [.ptr 0 0, .ptr 1 0])), (7, .c (.p (.i .i64 t.length))), (8, .c (.p (.i .i64 k)))], [.box [.p (.s p)], .box [.p (.b it)], .arr 5 (encT t) false]⟩)
    (fun k => k ≤ t.length ∧ ∀ j x, t[j]? = some x → j < k → goF p it x = false) (fun k => t.length - k) 0 ⟨Nat.zero_le _, fun j x _ h => by omega⟩ (.inl (weak_mk (by rw [hX]; rfl) rfl rfl (by simp [wk_cons, wk_nil, look_cons, closedD, closedC, closedK, closedB]))) ?_
  rintro k ⟨hk, hs⟩
  by_cases hlt : k < t.length
  · have hx : t[k]? = some t[k] := List.getElem?_eq_getElem hlt
    have hg := encT_at hx
    have h1 : decide ((k : Int) < (t.length : Int)) = true := decide_eq_true (by omega)
    have hli : (k : Int) < (t.length : Int) := by omega
    have w1 : IntKind.i64.wrap ((k : Int) + 1) = k + 1 := wrap_i64 (by omega) (by omega)
    generalize t[k] = x at hx hg
    cases hb : goF p it x
    · have hs' : k + 1 ≤ t.length ∧ ∀ j y, t[j]? = some y → j < k + 1 → goF p it y = false := ⟨by omega, fun j y hy hj => by
        rcases Nat.lt_or_ge j k with h | h
        · exact hs j y hy h
        · have : j = k := by omega
          subst this; rw [hx] at hy; cases hy; exact hb⟩
      have hb2 : (belowR p x.p || (it && x.p == p)) = false := hb
      clear hs hx hb
      repeat' (first | simp only [*, go_sem, Nat.reduceLT, Nat.reduceLeDiff, Nat.reduceEqDiff, ↓reduceIte, Nat.reduceAdd, Nat.reduceSub, Nat.reduceMul, Int.reduceLT, Int.reduceLE, Int.reduceAdd, Int.reduceSub, Int.reduceMul, Int.reduceNeg, Int.reduceToNat, Int.reduceEq, Int.reduceBEq, Int.reduceBNe, Nat.reduceBEq, beq_self_eq_true, bne_self_eq_false] | with_reducible refine vcond_split (fun _ => ?_) (fun _ => ?_) | with_reducible refine vg_split (fun _ => ?_) (fun _ => ?_) | ((with_reducible apply DCalls.frz); (focus exact rfl); (focus exact rfl)) | ((with_reducible refine And.intro ?_ ?_); (focus (first | omega | decide | assumption | (simp only [decide_eq_true_eq, decide_eq_false_iff_not] at *; omega)))))
      refine DCalls.mono (del1_c hp) ?_
      rintro _ _ ⟨rfl, rfl⟩
      rw [hb2]
      repeat' (first | simp only [*, go_sem, Nat.reduceLT, Nat.reduceLeDiff, Nat.reduceEqDiff, ↓reduceIte, Nat.reduceAdd, Nat.reduceSub, Nat.reduceMul, Int.reduceLT, Int.reduceLE, Int.reduceAdd, Int.reduceSub, Int.reduceMul, Int.reduceNeg, Int.reduceToNat, Int.reduceEq, Int.reduceBEq, Int.reduceBNe, Nat.reduceBEq, beq_self_eq_true, bne_self_eq_false] | with_reducible refine vcond_split (fun _ => ?_) (fun _ => ?_) | with_reducible refine vg_split (fun _ => ?_) (fun _ => ?_) | ((with_reducible apply DCalls.frz); (focus exact rfl); (focus exact rfl)) | ((with_reducible refine And.intro ?_ ?_); (focus (first | omega | decide | assumption | (simp only [decide_eq_true_eq, decide_eq_false_iff_not] at *; omega)))))
      exact qr_n (k + 1) hs' (by omega) (weak_mk rfl rfl rfl (by simp [wk_cons, wk_nil, look_cons, closedD, closedC, closedK, closedB]))
    · have hb2 : (belowR p x.p || (it && x.p == p)) = true := hb
      repeat' (first | simp only [*, go_sem, Nat.reduceLT, Nat.reduceLeDiff, Nat.reduceEqDiff, ↓reduceIte, Nat.reduceAdd, Nat.reduceSub, Nat.reduceMul, Int.reduceLT, Int.reduceLE, Int.reduceAdd, Int.reduceSub, Int.reduceMul, Int.reduceNeg, Int.reduceToNat, Int.reduceEq, Int.reduceBEq, Int.reduceBNe, Nat.reduceBEq, beq_self_eq_true, bne_self_eq_false] | with_reducible refine vcond_split (fun _ => ?_) (fun _ => ?_) | with_reducible refine vg_split (fun _ => ?_) (fun _ => ?_) | ((with_reducible apply DCalls.frz); (focus exact rfl); (focus exact rfl)) | ((with_reducible refine And.intro ?_ ?_); (focus (first | omega | decide | assumption | (simp only [decide_eq_true_eq, decide_eq_false_iff_not] at *; omega)))))
      refine DCalls.mono (del1_c hp) ?_
      rintro _ _ ⟨rfl, rfl⟩
      rw [hb2]
      clear hb2
      repeat' (first | simp only [*, go_sem, Nat.reduceLT, Nat.reduceLeDiff, Nat.reduceEqDiff, ↓reduceIte, Nat.reduceAdd, Nat.reduceSub, Nat.reduceMul, Int.reduceLT, Int.reduceLE, Int.reduceAdd, Int.reduceSub, Int.reduceMul, Int.reduceNeg, Int.reduceToNat, Int.reduceEq, Int.reduceBEq, Int.reduceBNe, Nat.reduceBEq, beq_self_eq_true, bne_self_eq_false, closedB, closedC] | with_reducible refine vcond_split (fun _ => ?_) (fun _ => ?_) | with_reducible refine vg_split (fun _ => ?_) (fun _ => ?_) | ((with_reducible apply DCalls.frz); (focus exact rfl); (focus exact rfl)) | ((with_reducible refine And.intro ?_ ?_); (focus (first | omega | decide | assumption | (simp only [decide_eq_true_eq, decide_eq_false_iff_not] at *; omega)))))
      exact ⟨k, hk, hs, .inl ⟨x, hx, hb, rfl⟩⟩
  · have h1 : decide ((k : Int) < (t.length : Int)) = false := decide_eq_false (by omega)
    have hk2 : k = t.length := by omega
    subst hk2
    repeat' (first | simp only [*, go_sem, Nat.reduceLT, Nat.reduceLeDiff, Nat.reduceEqDiff, ↓reduceIte, Nat.reduceAdd, Nat.reduceSub, Nat.reduceMul, Int.reduceLT, Int.reduceLE, Int.reduceAdd, Int.reduceSub, Int.reduceMul, Int.reduceNeg, Int.reduceToNat, Int.reduceEq, Int.reduceBEq, Int.reduceBNe, Nat.reduceBEq, beq_self_eq_true, bne_self_eq_false, closedB, closedC] | with_reducible refine vcond_split (fun _ => ?_) (fun _ => ?_) | with_reducible refine vg_split (fun _ => ?_) (fun _ => ?_) | ((with_reducible apply DCalls.frz); (focus exact rfl); (focus exact rfl)) | ((with_reducible refine And.intro ?_ ?_); (focus (first | omega | decide | assumption | (simp only [decide_eq_true_eq, decide_eq_false_iff_not] at *; omega)))))
    refine ⟨t.length, Nat.le_refl _, hs, .inr ?_⟩
    first | exact ⟨rfl, rfl⟩ | rfl

theorem encT_set (t : List It) (i : Nat) (x : It) : (encT t).set i [.s x.p, .i .i64 x.n.k, .i .i64 x.n.m, .f x.n.t, .sl 1 (encB x.n.d)] = encT (t.set i x) := by
  unfold encT
  rw [List.map_set]; rfl

theorem delete_c {t : List It} {p : List UInt8} {it : Bool} {K : DV → DHeap → Prop} (hp : p.length ≤ 1000000000) (ht : t.length ≤ 1000000)
    (hk : ∀ es : List (List PV), es.take (t.filter fun x => !goF p it x).length = encT (t.filter fun x => !goF p it x) → K (.c (.own 2 0 (t.filter fun x => !goF p it x).length)) [.box [.p (.s p)], .box [.p (.b it)], .arr 5 es false]) :
    DCalls Tryz.prog 129 [.c (.own 2 0 t.length), .c (.clo 138 [.ptr 0 0, .ptr 1 0])] [.box [.p (.s p)], .box [.p (.b it)], .arr 5 (encT t) false] K := by
  refine entR tabOK hmix Tryz.func129 rfl rfl fun X0 hX => ?_
  simp only [Tryz.ntmps129, Tryz.f129, go_sem]
  repeat' (first | simp only [*, go_sem, Nat.reduceLT, Nat.reduceLeDiff, Nat.reduceEqDiff, ↓reduceIte, Nat.reduceAdd, Nat.reduceSub, Nat.reduceMul, Int.reduceLT, Int.reduceLE, Int.reduceAdd, Int.reduceSub, Int.reduceMul, Int.reduceNeg, Int.reduceToNat, Int.reduceEq, Int.reduceBEq, Int.reduceBNe, Nat.reduceBEq, beq_self_eq_true, bne_self_eq_false] | with_reducible refine vcond_split (fun _ => ?_) (fun _ => ?_) | with_reducible refine vg_split (fun _ => ?_) (fun _ => ?_) | ((with_reducible apply DCalls.frz); (focus exact rfl); (focus exact rfl)) | ((with_reducible refine And.intro ?_ ?_); (focus (first | omega | decide | assumption | (simp only [decide_eq_true_eq, decide_eq_false_iff_not] at *; omega)))))
  refine DCalls.mono (index_c hp ht) ?_
  rintro _ _ ⟨⟨i0, hi0, hbef, hcase⟩, rfl⟩
  rcases hcase with ⟨x0, hx0, hg0, rfl⟩ | ⟨rfl, rfl⟩
  · have hil : i0 < t.length := (List.getElem?_eq_some_iff.1 hx0).1
    have q : ((i0 : Int) == -1) = false := by rw [beq_eq_false_iff_ne]; omega
    have w0 : IntKind.i64.wrap ((i0 : Int) + 1) = (i0 + 1 : Nat) := wrap_i64 (by omega) (by omega)
    repeat' (first | simp only [*, go_sem, Nat.reduceLT, Nat.reduceLeDiff, Nat.reduceEqDiff, ↓reduceIte, Nat.reduceAdd, Nat.reduceSub, Nat.reduceMul, Int.reduceLT, Int.reduceLE, Int.reduceAdd, Int.reduceSub, Int.reduceMul, Int.reduceNeg, Int.reduceToNat, Int.reduceEq, Int.reduceBEq, Int.reduceBNe, Nat.reduceBEq, beq_self_eq_true, bne_self_eq_false] | with_reducible refine vcond_split (fun _ => ?_) (fun _ => ?_) | with_reducible refine vg_split (fun _ => ?_) (fun _ => ?_) | ((with_reducible apply DCalls.frz); (focus exact rfl); (focus exact rfl)) | ((with_reducible refine And.intro ?_ ?_); (focus (first | omega | decide | assumption | (simp only [decide_eq_true_eq, decide_eq_false_iff_not] at *; omega)))))
    have hself : (t.take i0).filter (fun x => !goF p it x) = t.take i0 := List.filter_eq_self.2 fun x hx => by
      obtain ⟨j, hj, rfl⟩ := List.mem_iff_getElem.1 hx
      rw [List.getElem_take]
      have hj2 : j < i0 := by simp at hj; omega
      rw [hbef j _ (List.getElem?_eq_getElem (by omega)) hj2]; rfl
    have h0 : (t.take (i0 + 1)).filter (fun x => !goF p it x) = t.take i0 := by
      rw [filter_next hx0, hself, hg0]; simp
    refine loop_ren tabOK hmix (α := Nat × Nat × List It) (fun x => ⟨42, [(0, .c (.own 2 0 t.length)), (1, .c (.clo 138 [.ptr 0 0, .ptr 1 0])), (5, .c (.p (.i .i64 x.2.1))), (6, .c (.p (.i .i64 x.1)))], [.box [.p (.s p)], .box [.p (.b it)], .arr 5 (encT x.2.2) false]⟩)
      (fun x => x.1 ≤ t.length ∧ x.2.1 < x.1 ∧ x.2.2.length = t.length ∧ x.2.2.take x.2.1 = (t.take x.1).filter (fun x => !goF p it x) ∧ x.2.2.drop x.1 = t.drop x.1) (fun x => t.length - x.1) (i0 + 1, i0, t)
      ⟨by omega, by simp, rfl, by rw [h0], rfl⟩ (.inl (weak_mk (by rw [hX]; rfl) rfl rfl (by simp [wk_cons, wk_nil, look_cons, closedD, closedC, closedK, closedB]))) ?_
    clear hself h0 hbef hx0 hg0 q w0 hil hi0
    rintro ⟨j, i, R⟩ ⟨hj, hij, hRl, hRt, hRd⟩
    simp only at hj hij hRl hRt hRd
    by_cases hlt : j < t.length
    · have hx : t[j]? = some t[j] := List.getElem?_eq_getElem hlt
      have hxR : R[j]? = some t[j] := by
        have h3 : R[j]? = t[j]? := by
          have := congrArg (·[0]?) hRd
          simpa [List.getElem?_drop] using this
        exact h3.trans hx
      have hg := encT_at hxR
      have h1 : decide ((j : Int) < (t.length : Int)) = true := decide_eq_true (by omega)
      have hli : (j : Int) < (t.length : Int) := by omega
      have hli2 : (i : Int) < (t.length : Int) := by omega
      have w1 : IntKind.i64.wrap ((j : Int) + 1) = (j + 1 : Nat) := wrap_i64 (by omega) (by omega)
      have w2 : IntKind.i64.wrap ((i : Int) + 1) = (i + 1 : Nat) := wrap_i64 (by omega) (by omega)
      have hnx := filter_next (g := fun x => !goF p it x) hx
      generalize t[j] = x at hx hxR hg hnx
      have hRd2 : R.drop (j + 1) = t.drop (j + 1) := by rw [← List.drop_drop, ← List.drop_drop, hRd]
      cases hb : goF p it x
      · rw [hb] at hnx
        have hJ : j + 1 ≤ t.length ∧ i + 1 < j + 1 ∧ (R.set i x).length = t.length ∧ (R.set i x).take (i + 1) = (t.take (j + 1)).filter (fun x => !goF p it x) ∧ (R.set i x).drop (j + 1) = t.drop (j + 1) := by
          refine ⟨by omega, by omega, by simp [hRl], ?_, ?_⟩
          · rw [hnx, List.take_add_one, List.getElem?_set_self (by omega), List.take_set, List.set_eq_of_length_le (by rw [List.length_take]; omega), hRt]
            rfl
          · rw [List.drop_set, if_pos (by omega), hRd2]
        have hb2 : (belowR p x.p || (it && x.p == p)) = false := hb
        have hgi := encT_at (t := R) (k := i) (List.getElem?_eq_getElem (by omega))
        generalize (R[i]'(by omega)) = y at hgi
        clear hnx hRt hRd hRd2 hx hxR hb
        repeat' (first | simp only [*, go_sem, Nat.reduceLT, Nat.reduceLeDiff, Nat.reduceEqDiff, ↓reduceIte, Nat.reduceAdd, Nat.reduceSub, Nat.reduceMul, Int.reduceLT, Int.reduceLE, Int.reduceAdd, Int.reduceSub, Int.reduceMul, Int.reduceNeg, Int.reduceToNat, Int.reduceEq, Int.reduceBEq, Int.reduceBNe, Nat.reduceBEq, beq_self_eq_true, bne_self_eq_false] | with_reducible refine vcond_split (fun _ => ?_) (fun _ => ?_) | with_reducible refine vg_split (fun _ => ?_) (fun _ => ?_) | ((with_reducible apply DCalls.frz); (focus exact rfl); (focus exact rfl)) | ((with_reducible refine And.intro ?_ ?_); (focus (first | omega | decide | assumption | (simp only [decide_eq_true_eq, decide_eq_false_iff_not] at *; omega)))))
        refine DCalls.mono (del2_c hp) ?_
        rintro _ _ ⟨rfl, rfl⟩
        rw [hb2]
        repeat' (first | simp only [*, go_sem, Nat.reduceLT, Nat.reduceLeDiff, Nat.reduceEqDiff, ↓reduceIte, Nat.reduceAdd, Nat.reduceSub, Nat.reduceMul, Int.reduceLT, Int.reduceLE, Int.reduceAdd, Int.reduceSub, Int.reduceMul, Int.reduceNeg, Int.reduceToNat, Int.reduceEq, Int.reduceBEq, Int.reduceBNe, Nat.reduceBEq, beq_self_eq_true, bne_self_eq_false] | with_reducible refine vcond_split (fun _ => ?_) (fun _ => ?_) | with_reducible refine vg_split (fun _ => ?_) (fun _ => ?_) | ((with_reducible apply DCalls.frz); (focus exact rfl); (focus exact rfl)) | ((with_reducible refine And.intro ?_ ?_); (focus (first | omega | decide | assumption | (simp only [decide_eq_true_eq, decide_eq_false_iff_not] at *; omega)))))
        exact qr_n (j + 1, i + 1, R.set i x) hJ (by simp only; omega) (weak_mk rfl (by simp only [← encT_set]; rfl) rfl (by simp [wk_cons, wk_nil, look_cons, closedD, closedC, closedK, closedB]))
      · rw [hb] at hnx
        have hJ : j + 1 ≤ t.length ∧ i < j + 1 ∧ R.length = t.length ∧ R.take i = (t.take (j + 1)).filter (fun x => !goF p it x) ∧ R.drop (j + 1) = t.drop (j + 1) := ⟨by omega, by omega, hRl, by rw [hnx, hRt]; simp, hRd2⟩
        have hb2 : (belowR p x.p || (it && x.p == p)) = true := hb
        clear hnx hRt hRd hRd2 hx hxR hb
        repeat' (first | simp only [*, go_sem, Nat.reduceLT, Nat.reduceLeDiff, Nat.reduceEqDiff, ↓reduceIte, Nat.reduceAdd, Nat.reduceSub, Nat.reduceMul, Int.reduceLT, Int.reduceLE, Int.reduceAdd, Int.reduceSub, Int.reduceMul, Int.reduceNeg, Int.reduceToNat, Int.reduceEq, Int.reduceBEq, Int.reduceBNe, Nat.reduceBEq, beq_self_eq_true, bne_self_eq_false] | with_reducible refine vcond_split (fun _ => ?_) (fun _ => ?_) | with_reducible refine vg_split (fun _ => ?_) (fun _ => ?_) | ((with_reducible apply DCalls.frz); (focus exact rfl); (focus exact rfl)) | ((with_reducible refine And.intro ?_ ?_); (focus (first | omega | decide | assumption | (simp only [decide_eq_true_eq, decide_eq_false_iff_not] at *; omega)))))
        refine DCalls.mono (del2_c hp) ?_
        rintro _ _ ⟨rfl, rfl⟩
        rw [hb2]
        repeat' (first | simp only [*, go_sem, Nat.reduceLT, Nat.reduceLeDiff, Nat.reduceEqDiff, ↓reduceIte, Nat.reduceAdd, Nat.reduceSub, Nat.reduceMul, Int.reduceLT, Int.reduceLE, Int.reduceAdd, Int.reduceSub, Int.reduceMul, Int.reduceNeg, Int.reduceToNat, Int.reduceEq, Int.reduceBEq, Int.reduceBNe, Nat.reduceBEq, beq_self_eq_true, bne_self_eq_false] | with_reducible refine vcond_split (fun _ => ?_) (fun _ => ?_) | with_reducible refine vg_split (fun _ => ?_) (fun _ => ?_) | ((with_reducible apply DCalls.frz); (focus exact rfl); (focus exact rfl)) | ((with_reducible refine And.intro ?_ ?_); (focus (first | omega | decide | assumption | (simp only [decide_eq_true_eq, decide_eq_false_iff_not] at *; omega)))))
        exact qr_n (j + 1, i, R) hJ (by simp only; omega) (weak_mk rfl rfl rfl (by simp [wk_cons, wk_nil, look_cons, closedD, closedC, closedK, closedB]))
    · have h1 : decide ((j : Int) < (t.length : Int)) = false := decide_eq_false (by omega)
      have htt : t.take j = t := List.take_of_length_le (by omega)
      rw [htt] at hRt
      have hil : (t.filter fun x => !goF p it x).length = i := by
        rw [← hRt, List.length_take]; omega
      have hli : (i : Int) ≤ (t.length : Int) := by omega
      have hi0 : (0 : Int) ≤ i := by omega
      have hni : i + (t.length - i) = R.length := by omega
      rw [hil] at hk
      clear htt hRd hij
      repeat' (first | simp only [*, go_sem, Nat.reduceLT, Nat.reduceLeDiff, Nat.reduceEqDiff, ↓reduceIte, Nat.reduceAdd, Nat.reduceSub, Nat.reduceMul, Int.reduceLT, Int.reduceLE, Int.reduceAdd, Int.reduceSub, Int.reduceMul, Int.reduceNeg, Int.reduceToNat, Int.reduceEq, Int.reduceBEq, Int.reduceBNe, Nat.reduceBEq, beq_self_eq_true, bne_self_eq_false] | with_reducible refine vcond_split (fun _ => ?_) (fun _ => ?_) | with_reducible refine vg_split (fun _ => ?_) (fun _ => ?_) | ((with_reducible apply DCalls.frz); (focus exact rfl); (focus exact rfl)) | ((with_reducible refine And.intro ?_ ?_); (focus (first | omega | decide | assumption | (simp only [decide_eq_true_eq, decide_eq_false_iff_not] at *; omega)))))
      all_goals first | refine hk _ ?_ | refine ⟨by omega, hk _ ?_⟩
      all_goals exact List.take_left' (by simp [encT, hil])
  · have hself : t.filter (fun x => !goF p it x) = t := List.filter_eq_self.2 fun x hx => by
      obtain ⟨j, hj, rfl⟩ := List.mem_iff_getElem.1 hx
      rw [hbef j _ (List.getElem?_eq_getElem hj) hj]; rfl
    rw [hself] at hk
    clear hself
    repeat' (first | simp only [*, go_sem, Nat.reduceLT, Nat.reduceLeDiff, Nat.reduceEqDiff, ↓reduceIte, Nat.reduceAdd, Nat.reduceSub, Nat.reduceMul, Int.reduceLT, Int.reduceLE, Int.reduceAdd, Int.reduceSub, Int.reduceMul, Int.reduceNeg, Int.reduceToNat, Int.reduceEq, Int.reduceBEq, Int.reduceBNe, Nat.reduceBEq, beq_self_eq_true, bne_self_eq_false] | with_reducible refine vcond_split (fun _ => ?_) (fun _ => ?_) | with_reducible refine vg_split (fun _ => ?_) (fun _ => ?_) | ((with_reducible apply DCalls.frz); (focus exact rfl); (focus exact rfl)) | ((with_reducible refine And.intro ?_ ?_); (focus (first | omega | decide | assumption | (simp only [decide_eq_true_eq, decide_eq_false_iff_not] at *; omega)))))
    all_goals exact hk _ (List.take_of_length_le (by simp))

theorem without_c {t : List It} {p : List UInt8} {it : Bool} (hp : p.length ≤ 1000000000) (ht : t.length ≤ 1000000) (hd : ∀ x ∈ t, x.n.d.length ≤ 140737488355328) :
    DCalls Tryz.prog 67 [.c (.p (.sl 5 (encT t))), .c (.p (.s p)), .c (.p (.b it))] [] fun r h => r = .c (.p (.sl 5 (encT (t.filter fun x => !goF p it x)))) ∧ h = [] := by
  have hc := copyT_c ht hd
  refine ent tabOK hmix Tryz.func67 rfl rfl fun X0 hX => ?_
  simp only [Tryz.ntmps67, Tryz.f67, go_sem]
  repeat' (first | simp only [*, go_sem, Nat.reduceLT, Nat.reduceLeDiff, Nat.reduceEqDiff, ↓reduceIte, Nat.reduceAdd, Nat.reduceSub, Nat.reduceMul, Int.reduceLT, Int.reduceLE, Int.reduceAdd, Int.reduceSub, Int.reduceMul, Int.reduceNeg, Int.reduceToNat, Int.reduceEq, Int.reduceBEq, Int.reduceBNe, Nat.reduceBEq, beq_self_eq_true, bne_self_eq_false] | refine useO hc rfl ?_ | with_reducible refine vcond_split (fun _ => ?_) (fun _ => ?_) | with_reducible refine vg_split (fun _ => ?_) (fun _ => ?_) | ((with_reducible apply DCalls.frz); (focus exact rfl); (focus exact rfl)) | ((with_reducible refine And.intro ?_ ?_); (focus (first | omega | decide | assumption | (simp only [decide_eq_true_eq, decide_eq_false_iff_not] at *; omega)))))
  refine delete_c hp ht fun es hes => ?_
  repeat' (first | simp only [*, go_sem, Nat.reduceLT, Nat.reduceLeDiff, Nat.reduceEqDiff, ↓reduceIte, Nat.reduceAdd, Nat.reduceSub, Nat.reduceMul, Int.reduceLT, Int.reduceLE, Int.reduceAdd, Int.reduceSub, Int.reduceMul, Int.reduceNeg, Int.reduceToNat, Int.reduceEq, Int.reduceBEq, Int.reduceBNe, Nat.reduceBEq, beq_self_eq_true, bne_self_eq_false] | with_reducible refine vcond_split (fun _ => ?_) (fun _ => ?_) | with_reducible refine vg_split (fun _ => ?_) (fun _ => ?_) | ((with_reducible apply DCalls.frz); (focus exact rfl); (focus exact rfl)) | ((with_reducible refine And.intro ?_ ?_); (focus (first | omega | decide | assumption | (simp only [decide_eq_true_eq, decide_eq_false_iff_not] at *; omega)))))
  all_goals rw [hes]

theorem treeRemove_c {t : List It} {p : List UInt8} (hp : p.length ≤ 1000000000) (ht : t.length ≤ 1000000) (hd : ∀ x ∈ t, x.n.d.length ≤ 140737488355328) :
    DCalls Tryz.prog 25 [.c (.p (.sl 5 (encT t))), .c (.p (.s p))] [] fun r h => r = .c (.p (.sl 5 (encT (removeR t p)))) ∧ h = [] := by
  have hr : removeR t p = t.filter fun x => !goF p true x := by
    rw [removeR_filter]
    congr 1
    funext x
    simp only [goF, Bool.true_and]
    cases belowR p x.p <;> cases x.p == p <;> rfl
  have hw := without_c (p := p) (it := true) hp ht hd
  rw [← hr] at hw
  refine ent tabOK hmix Tryz.func25 rfl rfl fun X0 hX => ?_
  simp only [Tryz.ntmps25, Tryz.f25, go_sem]
  repeat' (first | simp only [*, go_sem, Nat.reduceLT, Nat.reduceLeDiff, Nat.reduceEqDiff, ↓reduceIte, Nat.reduceAdd, Nat.reduceSub, Nat.reduceMul, Int.reduceLT, Int.reduceLE, Int.reduceAdd, Int.reduceSub, Int.reduceMul, Int.reduceNeg, Int.reduceToNat, Int.reduceEq, Int.reduceBEq, Int.reduceBNe, Nat.reduceBEq, beq_self_eq_true, bne_self_eq_false] | ((with_reducible refine useN (hw) ?_ ?_ ?_); (focus exact rfl); (focus exact fun _ => rfl)) | with_reducible refine vcond_split (fun _ => ?_) (fun _ => ?_) | with_reducible refine vg_split (fun _ => ?_) (fun _ => ?_) | ((with_reducible apply DCalls.frz); (focus exact rfl); (focus exact rfl)) | ((with_reducible refine And.intro ?_ ?_); (focus (first | omega | decide | assumption | (simp only [decide_eq_true_eq, decide_eq_false_iff_not] at *; omega)))))

end Go.Proofs.YtomaddpcacoodaaGreatDoor
