/-
  Contracts of the document's functions on trees: what moves.
-/
import Derived.Test.YtomaddpcacoodaaGreatDoorD7
set_option linter.unusedSimpArgs false
set_option linter.unusedVariables false
namespace Go.Proofs.YtomaddpcacoodaaGreatDoor
open Go Go.Dm
set_option maxRecDepth 100000
set_option maxHeartbeats 4000000

theorem moveR_c {t : List It} {a b : List UInt8} (ht : t.length ≤ 400000) (ha : a.length ≤ 1000000000) (hb : b.length ≤ 1000000000) (hq : ∀ x ∈ t, x.p.length ≤ 1000000000) :
    DCalls Tryz.prog 95 [.c (.p (.sl 5 (encT t))), .c (.p (.s a)), .c (.p (.s b))] [] fun r h =>
      r = .tup [.c (.p (.sl 5 (encT (moveR t a b).1))), .c (.p (.i .i64 (moveR t a b).2))] ∧ h = [] := by
  have hrl := removeR_len t a
  have ha2 : a.length ≤ 4611686018427387904 := by omega
  have hb2 : b.length ≤ 4611686018427387904 := by omega
  have hq2 : ∀ x ∈ t, x.p.length ≤ 9223372036854775807 := fun x hx => Nat.le_trans (hq x hx) (by omega)
  refine dcalls_wk ?_
  refine ent tabOK hmix Tryz.func95 rfl rfl fun X0 hX => ?_
  simp only [Tryz.ntmps95, Tryz.f95, go_sem]
  repeat' (first | simp only [*, go_sem, Nat.reduceLT, Nat.reduceLeDiff, Nat.reduceEqDiff, ↓reduceIte, Nat.reduceAdd, Nat.reduceSub, Nat.reduceMul, Int.reduceLT, Int.reduceLE, Int.reduceAdd, Int.reduceSub, Int.reduceMul, Int.reduceNeg, Int.reduceToNat, Int.reduceEq, Int.reduceBEq, Int.reduceBNe, Nat.reduceBEq, beq_self_eq_true, bne_self_eq_false] | ((with_reducible refine useF (isPathR_c ha) ?_ ?_ ?_); (focus exact rfl); (focus exact rfl)) | ((with_reducible refine useF (isPathR_c hb) ?_ ?_ ?_); (focus exact rfl); (focus exact rfl)) | ((with_reducible refine useN (getR_c (t := t) (by omega)) ?_ ?_ ?_); (focus exact rfl); (focus exact fun _ => rfl)) | ((with_reducible refine useF (belowR_c ha2 (by omega)) ?_ ?_ ?_); (focus exact rfl); (focus exact rfl)) | ((with_reducible refine useF (dirOfR_c hb2) ?_ ?_ ?_); (focus exact rfl); (focus exact rfl)) | ((with_reducible refine useN (isDirR_c (t := t) (by omega)) ?_ ?_ ?_); (focus exact rfl); (focus exact fun _ => rfl)) | ((with_reducible refine useN (removeR_c (t := t) (by omega) ha2 hq2) ?_ ?_ ?_); (focus exact rfl); (focus exact fun _ => rfl)) | with_reducible refine vcond_split (fun _ => ?_) (fun _ => ?_) | with_reducible refine vg_split (fun _ => ?_) (fun _ => ?_) | ((with_reducible apply DCalls.frz); (focus exact rfl); (focus exact rfl)) | ((with_reducible refine And.intro ?_ ?_); (focus (first | omega | decide | assumption | (simp only [decide_eq_true_eq, decide_eq_false_iff_not] at *; omega)))))
  all_goals try (simp only [moveR, *, Bool.not_true, Bool.not_false, Bool.or_false, Bool.or_true, Bool.true_or, Bool.false_or, Bool.true_and, Bool.false_and, ↓reduceIte, Bool.false_eq_true, encT_nil]; simp; done)
  have hm : moveR t a b = moveL a b (removeR t a) t := by
    simp only [moveR, *, Bool.not_true, Bool.not_false, Bool.or_false, Bool.or_true, Bool.true_or, Bool.false_or, Bool.true_and, Bool.false_and, ↓reduceIte, Bool.false_eq_true]
  rw [hm]
  clear hm
  refine loop_ren tabOK hmix (α := Nat × List It) (fun x => ⟨96, [(0, .c (.p (.sl 5 (encT t)))), (1, .c (.p (.s a))), (2, .c (.p (.s b))), (12, .c (.p (.sl 5 (encT x.2)))), (13, .c (.p (.i .i64 x.1)))], []⟩)
    (fun x => x.1 ≤ t.length ∧ x.2.length ≤ t.length + x.1 ∧ moveL a b x.2 (t.drop x.1) = moveL a b (removeR t a) t) (fun x => t.length - x.1) (0, removeR t a) ⟨Nat.zero_le _, by simpa using hrl, rfl⟩ (.inl (weak_mk (by rw [hX]; rfl) rfl rfl (by simp [wk_cons, wk_nil, look_cons, closedD, closedC, encT_nil, encS_nil, encC_nil]))) ?_
  rintro ⟨k, out⟩ ⟨hk, hol, hl⟩
  simp only at hk hol hl
  by_cases hlt : k < t.length
  · have hx : t[k]? = some t[k] := List.getElem?_eq_getElem hlt
    have hg := encT_at hx
    have hd := drop_at hx
    have h1 : decide ((k : Int) < (t.length : Int)) = true := decide_eq_true (by omega)
    have w1 : IntKind.i64.wrap ((k : Int) + 1) = k + 1 := wrap_i64 (by omega) (by omega)
    generalize t[k] = x at hx hg hd
    have hxp := hq x (List.mem_of_getElem? hx)
    have hxp2 : x.p.length ≤ 9223372036854775807 := by omega
    rw [hd, moveL] at hl
    have hdl : (List.drop a.length x.p).length ≤ 1000000000 := by rw [List.length_drop]; omega
    have hsl := setR_len out (b ++ List.drop a.length x.p) x.n
    have main : (!(x.p == a) && !belowR a x.p) = false → a.length ≤ x.p.length := by
      intro hc
      cases he : (x.p == a)
      · cases hbl : belowR a x.p
        · simp [he, hbl] at hc
        · exact belowR_len hbl
      · rw [eq_of_beq he]; exact Nat.le_refl _
    cases he : (!(x.p == a))
    · have hla := main (by rw [he]; rfl)
      rw [he, Bool.false_and, if_neg (by decide)] at hl
      clear main
      repeat' (first | simp only [*, go_sem, Nat.reduceLT, Nat.reduceLeDiff, Nat.reduceEqDiff, ↓reduceIte, Nat.reduceAdd, Nat.reduceSub, Nat.reduceMul, Int.reduceLT, Int.reduceLE, Int.reduceAdd, Int.reduceSub, Int.reduceMul, Int.reduceNeg, Int.reduceToNat, Int.reduceEq, Int.reduceBEq, Int.reduceBNe, Nat.reduceBEq, beq_self_eq_true, bne_self_eq_false] | ((with_reducible refine useF (belowR_c (p := a) (q := x.p) ha2 hxp2) ?_ ?_ ?_); (focus exact rfl); (focus exact rfl)) | ((with_reducible refine useN (setR_c (t := out) (by omega)) ?_ ?_ ?_); (focus exact rfl); (focus exact fun _ => rfl)) | with_reducible refine vcond_split (fun _ => ?_) (fun _ => ?_) | with_reducible refine vg_split (fun _ => ?_) (fun _ => ?_) | ((with_reducible apply DCalls.frz); (focus exact rfl); (focus exact rfl)) | ((with_reducible refine And.intro ?_ ?_); (focus (first | omega | decide | assumption | (simp only [decide_eq_true_eq, decide_eq_false_iff_not] at *; omega)))))
      · rename_i hb
        rw [if_pos hb] at hl
        simp only [← hl, encT_nil]
        simp
      · rename_i hb
        rw [if_neg (by rw [hb]; decide)] at hl
        exact qr_n (k + 1, setR out (b ++ List.drop a.length x.p) x.n) ⟨by omega, by simp only; omega, hl⟩ (by simp only; omega) (weak_mk rfl rfl rfl (by simp [wk_cons, wk_nil, look_cons, closedD, closedC, renT, renD, renC, encT_nil, encS_nil, encC_nil]))
    · cases hbl : (!belowR a x.p)
      · have hla := main (by rw [he, hbl]; rfl)
        rw [he, hbl, Bool.true_and, if_neg (by decide)] at hl
        clear main
        repeat' (first | simp only [*, go_sem, Nat.reduceLT, Nat.reduceLeDiff, Nat.reduceEqDiff, ↓reduceIte, Nat.reduceAdd, Nat.reduceSub, Nat.reduceMul, Int.reduceLT, Int.reduceLE, Int.reduceAdd, Int.reduceSub, Int.reduceMul, Int.reduceNeg, Int.reduceToNat, Int.reduceEq, Int.reduceBEq, Int.reduceBNe, Nat.reduceBEq, beq_self_eq_true, bne_self_eq_false] | ((with_reducible refine useF (belowR_c (p := a) (q := x.p) ha2 hxp2) ?_ ?_ ?_); (focus exact rfl); (focus exact rfl)) | ((with_reducible refine useN (setR_c (t := out) (by omega)) ?_ ?_ ?_); (focus exact rfl); (focus exact fun _ => rfl)) | with_reducible refine vcond_split (fun _ => ?_) (fun _ => ?_) | with_reducible refine vg_split (fun _ => ?_) (fun _ => ?_) | ((with_reducible apply DCalls.frz); (focus exact rfl); (focus exact rfl)) | ((with_reducible refine And.intro ?_ ?_); (focus (first | omega | decide | assumption | (simp only [decide_eq_true_eq, decide_eq_false_iff_not] at *; omega)))))
        · rename_i hb
          rw [if_pos hb] at hl
          simp only [← hl, encT_nil]
          simp
        · rename_i hb
          rw [if_neg (by rw [hb]; decide)] at hl
          exact qr_n (k + 1, setR out (b ++ List.drop a.length x.p) x.n) ⟨by omega, by simp only; omega, hl⟩ (by simp only; omega) (weak_mk rfl rfl rfl (by simp [wk_cons, wk_nil, look_cons, closedD, closedC, renT, renD, renC, encT_nil, encS_nil, encC_nil]))
      · rw [he, hbl, Bool.true_and, if_pos rfl] at hl
        clear main
        repeat' (first | simp only [*, go_sem, Nat.reduceLT, Nat.reduceLeDiff, Nat.reduceEqDiff, ↓reduceIte, Nat.reduceAdd, Nat.reduceSub, Nat.reduceMul, Int.reduceLT, Int.reduceLE, Int.reduceAdd, Int.reduceSub, Int.reduceMul, Int.reduceNeg, Int.reduceToNat, Int.reduceEq, Int.reduceBEq, Int.reduceBNe, Nat.reduceBEq, beq_self_eq_true, bne_self_eq_false] | ((with_reducible refine useF (belowR_c (p := a) (q := x.p) ha2 hxp2) ?_ ?_ ?_); (focus exact rfl); (focus exact rfl)) | with_reducible refine vcond_split (fun _ => ?_) (fun _ => ?_) | with_reducible refine vg_split (fun _ => ?_) (fun _ => ?_) | ((with_reducible apply DCalls.frz); (focus exact rfl); (focus exact rfl)) | ((with_reducible refine And.intro ?_ ?_); (focus (first | omega | decide | assumption | (simp only [decide_eq_true_eq, decide_eq_false_iff_not] at *; omega)))))
        exact qr_n (k + 1, out) ⟨by omega, by simp only; omega, hl⟩ (by simp only; omega) (weak_mk rfl rfl rfl (by simp [wk_cons, wk_nil, look_cons, closedD, closedC, renT, renD, renC, encT_nil, encS_nil, encC_nil]))
  · have h1 : decide ((k : Int) < (t.length : Int)) = false := decide_eq_false (by omega)
    rw [List.drop_of_length_le (by omega)] at hl
    simp only [moveL] at hl
    repeat' (first | simp only [*, go_sem, Nat.reduceLT, Nat.reduceLeDiff, Nat.reduceEqDiff, ↓reduceIte, Nat.reduceAdd, Nat.reduceSub, Nat.reduceMul, Int.reduceLT, Int.reduceLE, Int.reduceAdd, Int.reduceSub, Int.reduceMul, Int.reduceNeg, Int.reduceToNat, Int.reduceEq, Int.reduceBEq, Int.reduceBNe, Nat.reduceBEq, beq_self_eq_true, bne_self_eq_false] | with_reducible refine vcond_split (fun _ => ?_) (fun _ => ?_) | with_reducible refine vg_split (fun _ => ?_) (fun _ => ?_) | ((with_reducible apply DCalls.frz); (focus exact rfl); (focus exact rfl)) | ((with_reducible refine And.intro ?_ ?_); (focus (first | omega | decide | assumption | (simp only [decide_eq_true_eq, decide_eq_false_iff_not] at *; omega)))))
    all_goals trace_state
    all_goals simp only [← hl]
    all_goals simp

end Go.Proofs.YtomaddpcacoodaaGreatDoor
