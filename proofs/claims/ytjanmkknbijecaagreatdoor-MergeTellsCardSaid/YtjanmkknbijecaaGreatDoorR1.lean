import Derived.Test.YtjanmkknbijecaaGreatDoorM1
import Derived.Test.YtjanmkknbijecaaGreatDoorVE
import Derived.Test.YtjanmkknbijecaaGreatDoorJ1r
import Derived.Test.YtjanmkknbijecaaGreatDoorE2
import Derived.Test.YtjanmkknbijecaaGreatDoorC4
import Derived.Test.YtjanmkknbijecaaGreatDoorD1
import Derived.Test.YtjanmkknbijecaaGreatDoorSM

section
/-
  Contracts: the document's pairs asked, paths asked, conflicts in order, and the other way round.
-/

set_option linter.unusedSimpArgs false
set_option linter.unusedVariables false
namespace Go.Proofs.YtjanmkknbijecaaGreatDoor
open Go Go.Dm
set_option maxRecDepth 100000
set_option maxHeartbeats 4000000

theorem refTo_c {l : List Pr} {p : List UInt8} (hl : l.length ≤ 1000000) : DCalls Tryz.prog 78 [.c (.p (.sl 2 (encP l))), .c (.p (.s p))] [] fun r h => r = .tup [.c (.p (.s ((toF l p).getD []))), .c (.p (.b (toF l p).isSome))] ∧ h = [] := by
  refine ent tabOK hmix Tryz.func78 rfl rfl fun X0 hX => ?_
  simp only [Tryz.ntmps78, Tryz.f78, go_sem]
  repeat' (first | simp (maxSteps := 1000000) only [*, go_sem, Nat.reduceLT, Nat.reduceLeDiff, Nat.reduceEqDiff, ↓reduceIte, Nat.reduceAdd, Nat.reduceSub, Nat.reduceMul, Int.reduceLT, Int.reduceLE, Int.reduceAdd, Int.reduceSub, Int.reduceMul, Int.reduceNeg, Int.reduceToNat, Int.reduceEq, Int.reduceBEq, Int.reduceBNe, Nat.reduceBEq, beq_self_eq_true, bne_self_eq_false] | with_reducible refine vcond_split (fun _ => ?_) (fun _ => ?_) | with_reducible refine vg_split (fun _ => ?_) (fun _ => ?_) | ((with_reducible apply DCalls.frz); (focus exact rfl); (focus exact rfl)) | ((with_reducible refine And.intro ?_ ?_); (focus (first | omega | decide | assumption | (simp only [decide_eq_true_eq, decide_eq_false_iff_not] at *; omega)))))
  refine loop_ren tabOK hmix (α := Nat) (fun k => ⟨25, [(0, .c (.p (.sl 2 (encP l)))), (1, .c (.p (.s p))), (6, .c (.p (.i .i64 k)))], []⟩)
    (fun k => k ≤ l.length ∧ toF (l.drop k) p = toF l p) (fun k => l.length - k) 0 ⟨Nat.zero_le _, rfl⟩ (.inl (weak_mk (by rw [hX]; rfl) rfl rfl (by simp [wk_cons, wk_nil, look_cons, closedD, closedC, encT_nil, encS_nil, encC_nil]))) ?_
  rintro k ⟨hk, hs⟩
  by_cases hlt : k < l.length
  · have hx : l[k]? = some l[k] := List.getElem?_eq_getElem hlt
    have hg := encP_at hx
    have hd := drop_at hx
    have h1 : decide ((k : Int) < (l.length : Int)) = true := decide_eq_true (by omega)
    have hli : (k : Int) < (l.length : Int) := by omega
    have hk0 : (0 : Int) ≤ k := by omega
    have w1 : IntKind.i64.wrap ((k : Int) + 1) = k + 1 := wrap_i64 (by omega) (by omega)
    generalize l[k] = x at hx hg hd
    rw [hd, toF] at hs
    cases hb : (x.a == p)
    · rw [hb, if_neg (by decide)] at hs
      have hJ : k + 1 ≤ l.length ∧ toF (l.drop (k + 1)) p = toF l p := ⟨by omega, hs⟩
      clear hs hd hx
      repeat' (first | simp (maxSteps := 1000000) only [*, go_sem, Nat.reduceLT, Nat.reduceLeDiff, Nat.reduceEqDiff, ↓reduceIte, Nat.reduceAdd, Nat.reduceSub, Nat.reduceMul, Int.reduceLT, Int.reduceLE, Int.reduceAdd, Int.reduceSub, Int.reduceMul, Int.reduceNeg, Int.reduceToNat, Int.reduceEq, Int.reduceBEq, Int.reduceBNe, Nat.reduceBEq, beq_self_eq_true, bne_self_eq_false] | with_reducible refine vcond_split (fun _ => ?_) (fun _ => ?_) | with_reducible refine vg_split (fun _ => ?_) (fun _ => ?_) | ((with_reducible apply DCalls.frz); (focus exact rfl); (focus exact rfl)) | ((with_reducible refine And.intro ?_ ?_); (focus (first | omega | decide | assumption | (simp only [decide_eq_true_eq, decide_eq_false_iff_not] at *; omega)))))
      exact qr_n (k + 1) hJ (by omega) (weak_mk rfl rfl rfl (by simp [wk_cons, wk_nil, look_cons, closedD, closedC, renT, renD, renC, encT_nil, encS_nil, encC_nil]))
    · rw [hb, if_pos rfl] at hs
      rw [← hs]
      clear hs hd hx
      repeat' (first | simp (maxSteps := 1000000) only [*, go_sem, Nat.reduceLT, Nat.reduceLeDiff, Nat.reduceEqDiff, ↓reduceIte, Nat.reduceAdd, Nat.reduceSub, Nat.reduceMul, Int.reduceLT, Int.reduceLE, Int.reduceAdd, Int.reduceSub, Int.reduceMul, Int.reduceNeg, Int.reduceToNat, Int.reduceEq, Int.reduceBEq, Int.reduceBNe, Nat.reduceBEq, beq_self_eq_true, bne_self_eq_false, Option.getD_some, Option.isSome_some] | with_reducible refine vcond_split (fun _ => ?_) (fun _ => ?_) | with_reducible refine vg_split (fun _ => ?_) (fun _ => ?_) | ((with_reducible apply DCalls.frz); (focus exact rfl); (focus exact rfl)) | ((with_reducible refine And.intro ?_ ?_); (focus (first | omega | decide | assumption | (simp only [decide_eq_true_eq, decide_eq_false_iff_not] at *; omega)))))
  · have h1 : decide ((k : Int) < (l.length : Int)) = false := decide_eq_false (by omega)
    rw [List.drop_of_length_le (by omega), toF] at hs
    rw [← hs]
    clear hs
    repeat' (first | simp (maxSteps := 1000000) only [*, go_sem, Nat.reduceLT, Nat.reduceLeDiff, Nat.reduceEqDiff, ↓reduceIte, Nat.reduceAdd, Nat.reduceSub, Nat.reduceMul, Int.reduceLT, Int.reduceLE, Int.reduceAdd, Int.reduceSub, Int.reduceMul, Int.reduceNeg, Int.reduceToNat, Int.reduceEq, Int.reduceBEq, Int.reduceBNe, Nat.reduceBEq, beq_self_eq_true, bne_self_eq_false, Option.getD_none, Option.isSome_none] | with_reducible refine vcond_split (fun _ => ?_) (fun _ => ?_) | with_reducible refine vg_split (fun _ => ?_) (fun _ => ?_) | ((with_reducible apply DCalls.frz); (focus exact rfl); (focus exact rfl)) | ((with_reducible refine And.intro ?_ ?_); (focus (first | omega | decide | assumption | (simp only [decide_eq_true_eq, decide_eq_false_iff_not] at *; omega)))))

theorem refIn_c {l : List (List UInt8)} {s : List UInt8} (hl : l.length ≤ 1000000) : DCalls Tryz.prog 79 [.c (.p (.sl 1 (Go.Dm.encS l))), .c (.p (.s s))] [] fun r h => r = .c (.p (.b (l.any fun x => x == s))) ∧ h = [] := by
  refine ent tabOK hmix Tryz.func79 rfl rfl fun X0 hX => ?_
  simp only [Tryz.ntmps79, Tryz.f79, go_sem]
  repeat' (first | simp (maxSteps := 1000000) only [*, go_sem, Nat.reduceLT, Nat.reduceLeDiff, Nat.reduceEqDiff, ↓reduceIte, Nat.reduceAdd, Nat.reduceSub, Nat.reduceMul, Int.reduceLT, Int.reduceLE, Int.reduceAdd, Int.reduceSub, Int.reduceMul, Int.reduceNeg, Int.reduceToNat, Int.reduceEq, Int.reduceBEq, Int.reduceBNe, Nat.reduceBEq, beq_self_eq_true, bne_self_eq_false] | with_reducible refine vcond_split (fun _ => ?_) (fun _ => ?_) | with_reducible refine vg_split (fun _ => ?_) (fun _ => ?_) | ((with_reducible apply DCalls.frz); (focus exact rfl); (focus exact rfl)) | ((with_reducible refine And.intro ?_ ?_); (focus (first | omega | decide | assumption | (simp only [decide_eq_true_eq, decide_eq_false_iff_not] at *; omega)))))
  refine loop_ren tabOK hmix (α := Nat) (fun k => ⟨18, [(0, .c (.p (.sl 1 (Go.Dm.encS l)))), (1, .c (.p (.s s))), (5, .c (.p (.i .i64 k)))], []⟩)
    (fun k => k ≤ l.length ∧ ((l.drop k).any fun x => x == s) = (l.any fun x => x == s)) (fun k => l.length - k) 0 ⟨Nat.zero_le _, rfl⟩ (.inl (weak_mk (by rw [hX]; rfl) rfl rfl (by simp [wk_cons, wk_nil, look_cons, closedD, closedC, encT_nil, encS_nil, encC_nil]))) ?_
  rintro k ⟨hk, hs⟩
  by_cases hlt : k < l.length
  · have hx : l[k]? = some l[k] := List.getElem?_eq_getElem hlt
    have hg := Go.Dm.encS_at hx
    have hd := drop_at hx
    have h1 : decide ((k : Int) < (l.length : Int)) = true := decide_eq_true (by omega)
    have hli : (k : Int) < (l.length : Int) := by omega
    have hk0 : (0 : Int) ≤ k := by omega
    have w1 : IntKind.i64.wrap ((k : Int) + 1) = k + 1 := wrap_i64 (by omega) (by omega)
    generalize l[k] = x at hx hg hd
    rw [hd, List.any_cons] at hs
    cases hb : (x == s)
    · rw [hb, Bool.false_or] at hs
      have hJ : k + 1 ≤ l.length ∧ ((l.drop (k + 1)).any fun x => x == s) = (l.any fun x => x == s) := ⟨by omega, hs⟩
      clear hs hd hx
      repeat' (first | simp (maxSteps := 1000000) only [*, go_sem, Nat.reduceLT, Nat.reduceLeDiff, Nat.reduceEqDiff, ↓reduceIte, Nat.reduceAdd, Nat.reduceSub, Nat.reduceMul, Int.reduceLT, Int.reduceLE, Int.reduceAdd, Int.reduceSub, Int.reduceMul, Int.reduceNeg, Int.reduceToNat, Int.reduceEq, Int.reduceBEq, Int.reduceBNe, Nat.reduceBEq, beq_self_eq_true, bne_self_eq_false] | with_reducible refine vcond_split (fun _ => ?_) (fun _ => ?_) | with_reducible refine vg_split (fun _ => ?_) (fun _ => ?_) | ((with_reducible apply DCalls.frz); (focus exact rfl); (focus exact rfl)) | ((with_reducible refine And.intro ?_ ?_); (focus (first | omega | decide | assumption | (simp only [decide_eq_true_eq, decide_eq_false_iff_not] at *; omega)))))
      exact qr_n (k + 1) hJ (by omega) (weak_mk rfl rfl rfl (by simp [wk_cons, wk_nil, look_cons, closedD, closedC, renT, renD, renC, encT_nil, encS_nil, encC_nil]))
    · rw [hb, Bool.true_or] at hs
      rw [← hs]
      clear hs hd hx
      repeat' (first | simp (maxSteps := 1000000) only [*, go_sem, Nat.reduceLT, Nat.reduceLeDiff, Nat.reduceEqDiff, ↓reduceIte, Nat.reduceAdd, Nat.reduceSub, Nat.reduceMul, Int.reduceLT, Int.reduceLE, Int.reduceAdd, Int.reduceSub, Int.reduceMul, Int.reduceNeg, Int.reduceToNat, Int.reduceEq, Int.reduceBEq, Int.reduceBNe, Nat.reduceBEq, beq_self_eq_true, bne_self_eq_false] | with_reducible refine vcond_split (fun _ => ?_) (fun _ => ?_) | with_reducible refine vg_split (fun _ => ?_) (fun _ => ?_) | ((with_reducible apply DCalls.frz); (focus exact rfl); (focus exact rfl)) | ((with_reducible refine And.intro ?_ ?_); (focus (first | omega | decide | assumption | (simp only [decide_eq_true_eq, decide_eq_false_iff_not] at *; omega)))))
  · have h1 : decide ((k : Int) < (l.length : Int)) = false := decide_eq_false (by omega)
    rw [List.drop_of_length_le (by omega), List.any_nil] at hs
    rw [← hs]
    clear hs
    repeat' (first | simp (maxSteps := 1000000) only [*, go_sem, Nat.reduceLT, Nat.reduceLeDiff, Nat.reduceEqDiff, ↓reduceIte, Nat.reduceAdd, Nat.reduceSub, Nat.reduceMul, Int.reduceLT, Int.reduceLE, Int.reduceAdd, Int.reduceSub, Int.reduceMul, Int.reduceNeg, Int.reduceToNat, Int.reduceEq, Int.reduceBEq, Int.reduceBNe, Nat.reduceBEq, beq_self_eq_true, bne_self_eq_false] | with_reducible refine vcond_split (fun _ => ?_) (fun _ => ?_) | with_reducible refine vg_split (fun _ => ?_) (fun _ => ?_) | ((with_reducible apply DCalls.frz); (focus exact rfl); (focus exact rfl)) | ((with_reducible refine And.intro ?_ ?_); (focus (first | omega | decide | assumption | (simp only [decide_eq_true_eq, decide_eq_false_iff_not] at *; omega)))))

/-- A row in the midst of an insertion. -/
def insRow (S R : List Cf) (x : Cf) (k : Nat) : List Cf := S.take k ++ x :: (S.drop k ++ R)
theorem insRow_at {S R : List Cf} {x : Cf} {k : Nat} (hk : k ≤ S.length) : (insRow S R x k)[k]? = some x := by
  unfold insRow
  rw [List.getElem?_append_right (by simp; omega)]
  simp [Nat.min_eq_left hk]
theorem insRow_ahead {S R : List Cf} {x y : Cf} {k : Nat} (hk : k + 1 ≤ S.length) (hy : S[k]? = some y) : (insRow S R x (k + 1))[k]? = some y := by
  unfold insRow
  rw [List.getElem?_append_left (by simp; omega), List.getElem?_take, if_pos (by omega), hy]
theorem insRow_len {S R : List Cf} {x : Cf} {k : Nat} (hk : k ≤ S.length) : (insRow S R x k).length = S.length + 1 + R.length := by
  unfold insRow
  simp only [List.length_append, List.length_cons, List.length_take, List.length_drop]; omega
theorem insRow_swap {S R : List Cf} {x y : Cf} {k : Nat} (hk : k + 1 ≤ S.length) (hy : S[k]? = some y) : ((insRow S R x (k + 1)).set (k + 1) y).set k x = insRow S R x k := by
  obtain ⟨h1, rfl⟩ := List.getElem?_eq_some_iff.1 hy
  unfold insRow
  have e1 : S.drop k = S[k] :: S.drop (k + 1) := List.drop_eq_getElem_cons h1
  have e2 : S.take (k + 1) = S.take k ++ [S[k]] := by rw [List.take_add_one, List.getElem?_eq_getElem h1]; rfl
  rw [e1, e2]
  have e3 : (S.take k).length = k := by simp; omega
  generalize S.take k = A at e3
  generalize S.drop (k + 1) = B
  generalize S[k] = z
  rw [List.append_assoc, List.set_append_right _ _ (by omega), List.set_append_right _ _ (by omega)]
  simp [e3]
theorem encF_set (t : List Cf) (i : Nat) (x : Cf) : (encF t).set i [.s x.p, .i .i64 x.k] = encF (t.set i x) := by
  unfold encF
  rw [List.map_set]; rfl
theorem ins_done {l : List Cf} {i k : Nat} {x : Cf} (hx : l[i]? = some x) (hk : k ≤ (sortC (l.take i)).length) (hb : ∀ y ∈ (sortC (l.take i)).drop k, ltC x y = true) (ha : ∀ y, (sortC (l.take i))[k - 1]? = some y → 0 < k → ltC x y = false) :
    insRow (sortC (l.take i)) (l.drop (i + 1)) x k = sortC (l.take (i + 1)) ++ l.drop (i + 1) := by
  have hS := sortC_sorted (l.take i)
  have hP := sortC_perm (l.take i)
  have hnx : l.take (i + 1) = l.take i ++ [x] := by rw [List.take_add_one, hx]; rfl
  rw [hnx]
  generalize sortC (l.take i) = S at *
  have e : S.take k ++ x :: S.drop k = sortC (l.take i ++ [x]) := by
    refine sortC_unique ?_ ?_
    · refine (List.perm_middle).trans ?_
      rw [List.take_append_drop]
      exact ((List.Perm.cons x hP).trans (List.perm_append_comm (l₁ := [x])))
    · refine List.pairwise_append.2 ⟨hS.sublist (List.take_sublist _ _), List.pairwise_cons.2 ⟨fun y hy => ltC_asymm (hb y hy), hS.sublist (List.drop_sublist _ _)⟩, fun y hy z hz => ?_⟩
      have hlast : ∀ y ∈ S.take k, ltC x y = false := by
        intro y hy
        obtain ⟨j, hj, rfl⟩ := List.mem_iff_getElem.1 hy
        have hjk : j < k := by simp at hj; omega
        rw [List.getElem_take]
        have hk1 : k - 1 < S.length := by omega
        have h1 := ha S[k - 1] (List.getElem?_eq_getElem hk1) (by omega)
        rcases Nat.lt_or_ge j (k - 1) with h | h
        · have h2 := List.pairwise_iff_getElem.1 hS j (k - 1) (by omega) hk1 h
          cases h3 : ltC x (S[j]'(by omega)) with
          | false => rfl
          | true =>
            cases h4 : ltC (S[j]'(by omega)) S[k - 1] with
            | true => rw [ltC_trans h3 h4] at h1; cases h1
            | false => rw [ltC_tri h4 h2] at h3; rw [h3] at h1; cases h1
        · have : j = k - 1 := by omega
          subst this; exact h1
      rcases List.mem_cons.1 hz with rfl | hz
      · exact hlast y hy
      · have : S = S.take k ++ S.drop k := (List.take_append_drop _ _).symm
        rw [this] at hS
        exact (List.pairwise_append.1 hS).2.2 y hy z hz
  unfold insRow
  rw [← e, List.append_assoc]
  rfl

theorem refOrder_c {l : List Cf} (hl : l.length ≤ 1000000) : DCalls Tryz.prog 80 [.c (.p (.sl 2 (encF l)))] [] fun r h => r = .c (.p (.sl 2 (encF (sortC l)))) ∧ h = [] := by
  have hs1 : sortC (l.take 1) ++ l.drop 1 = l := by
    cases l with
    | nil => simp [sortC]
    | cons x l => simp [sortC]
  refine ent tabOK hmix Tryz.func80 rfl rfl fun X0 hX => ?_
  simp only [Tryz.ntmps80, Tryz.f80, go_sem]
  repeat' (first | simp (maxSteps := 1000000) only [*, go_sem, Nat.reduceLT, Nat.reduceLeDiff, Nat.reduceEqDiff, ↓reduceIte, Nat.reduceAdd, Nat.reduceSub, Nat.reduceMul, Int.reduceLT, Int.reduceLE, Int.reduceAdd, Int.reduceSub, Int.reduceMul, Int.reduceNeg, Int.reduceToNat, Int.reduceEq, Int.reduceBEq, Int.reduceBNe, Nat.reduceBEq, beq_self_eq_true, bne_self_eq_false] | with_reducible refine vcond_split (fun _ => ?_) (fun _ => ?_) | with_reducible refine vg_split (fun _ => ?_) (fun _ => ?_) | ((with_reducible apply DCalls.frz); (focus exact rfl); (focus exact rfl)) | ((with_reducible refine And.intro ?_ ?_); (focus (first | omega | decide | assumption | (simp only [decide_eq_true_eq, decide_eq_false_iff_not] at *; omega)))))
  refine loop_ren tabOK hmix (α := Nat) (fun i => ⟨79, [(3, .c (.own 1 0 l.length)), (4, .c (.p (.i .i64 i)))], [.dead, .arr 2 (encF (sortC (l.take i) ++ l.drop i)) false]⟩)
    (fun i => 1 ≤ i ∧ (i ≤ l.length ∨ i = 1)) (fun i => l.length - i) 1 ⟨Nat.le_refl _, .inr rfl⟩ (.inl (weak_mk (by rw [hX]; rfl) (by rw [hs1]; rfl) rfl (by simp [wk_cons, wk_nil, look_cons, closedD, closedC, renT, renD, renC, encT_nil, encS_nil, encC_nil]))) ?_
  clear hs1
  rintro i ⟨hi, hi2⟩
  by_cases hlt : i < l.length
  · have hx : l[i]? = some l[i] := List.getElem?_eq_getElem hlt
    have hd := drop_at hx
    have h1 : decide ((i : Int) < (l.length : Int)) = true := decide_eq_true (by omega)
    have w1 : IntKind.i64.wrap ((i : Int) + 1) = i + 1 := wrap_i64 (by omega) (by omega)
    have hdone := fun k => ins_done (k := k) hx
    generalize l[i] = x at hx hd hdone
    have hSl : (sortC (l.take i)).length = i := by rw [sortC_len, List.length_take]; omega
    have hRl : (l.drop (i + 1)).length = l.length - (i + 1) := List.length_drop
    rw [hd]
    have hfin : 1 ≤ i + 1 ∧ (i + 1 ≤ l.length ∨ i + 1 = 1) := ⟨by omega, .inl (by omega)⟩
    have hrow0 : sortC (l.take i) ++ x :: l.drop (i + 1) = insRow (sortC (l.take i)) (l.drop (i + 1)) x i := by
      unfold insRow
      rw [List.take_of_length_le (l := sortC (l.take i)) (i := i) (by omega), List.drop_of_length_le (l := sortC (l.take i)) (i := i) (by omega)]; rfl
    rw [hrow0]
    clear hrow0 hd hx
    generalize hS : sortC (l.take i) = S at *
    clear hS
    have hil0 : (insRow S (l.drop (i + 1)) x i).length = l.length := by rw [insRow_len (by omega)]; omega
    repeat' (first | simp (maxSteps := 1000000) only [*, go_sem, Nat.reduceLT, Nat.reduceLeDiff, Nat.reduceEqDiff, ↓reduceIte, Nat.reduceAdd, Nat.reduceSub, Nat.reduceMul, Int.reduceLT, Int.reduceLE, Int.reduceAdd, Int.reduceSub, Int.reduceMul, Int.reduceNeg, Int.reduceToNat, Int.reduceEq, Int.reduceBEq, Int.reduceBNe, Nat.reduceBEq, beq_self_eq_true, bne_self_eq_false] | with_reducible refine vcond_split (fun _ => ?_) (fun _ => ?_) | with_reducible refine vg_split (fun _ => ?_) (fun _ => ?_) | ((with_reducible apply DCalls.frz); (focus exact rfl); (focus exact rfl)) | ((with_reducible refine And.intro ?_ ?_); (focus (first | omega | decide | assumption | (simp only [decide_eq_true_eq, decide_eq_false_iff_not] at *; omega)))))
    refine loop_ren tabOK hmix (α := Nat) (fun k => ⟨79, [(3, .c (.own 1 0 l.length)), (4, .c (.p (.i .i64 i))), (5, .c (.p (.i .i64 k)))], [.dead, .arr 2 (encF (insRow S (l.drop (i + 1)) x k)) false]⟩)
      (fun k => k ≤ S.length ∧ ∀ y ∈ S.drop k, ltC x y = true) (fun k => k) i ⟨by omega, by rw [List.drop_of_length_le (by omega)]; simp⟩ (.inl (weak_mk (by rw [hX]; rfl) rfl rfl (by simp [wk_cons, wk_nil, look_cons, closedD, closedC, renT, renD, renC, encT_nil, encS_nil, encC_nil]))) ?_
    rintro k ⟨hk, hgt⟩
    have hrl := insRow_len (S := S) (R := l.drop (i + 1)) (x := x) hk
    have hrl2 : (insRow S (l.drop (i + 1)) x k).length = l.length := by omega
    have hxat := encF_at (insRow_at (S := S) (R := l.drop (i + 1)) (x := x) hk)
    have hkl : (k : Int) < (l.length : Int) := by omega
    have hk0 : (0 : Int) ≤ k := by omega
    by_cases hz : k = 0
    · subst hz
      have hdn := hdone 0 hk hgt (fun y _ h => absurd h (by decide))
      have q0 : decide ((0 : Int) < ((0 : Nat) : Int)) = false := by decide
      rw [hdn]
      clear hdn hdone hgt hrl hrl2 hxat
      repeat' (first | simp (maxSteps := 1000000) only [*, go_sem, Nat.reduceLT, Nat.reduceLeDiff, Nat.reduceEqDiff, ↓reduceIte, Nat.reduceAdd, Nat.reduceSub, Nat.reduceMul, Int.reduceLT, Int.reduceLE, Int.reduceAdd, Int.reduceSub, Int.reduceMul, Int.reduceNeg, Int.reduceToNat, Int.reduceEq, Int.reduceBEq, Int.reduceBNe, Nat.reduceBEq, beq_self_eq_true, bne_self_eq_false] | ((refine vc_drawn (id := 6) tabOK hmix [] [0,1,2,3,4,5,6,7,8,9,10,11,12,13,14,15,16,17,18,19,20,21,22,23,24,25,26,27,28,29,30,31,32,33,34,35,36,37,38,39,40,41,42,43] (by decide +kernel) ?_); (repeat' (first | (refine ds_nil ?_) | ((refine ds_one ?_ rfl rfl ?_ ?_); (rotate_left 1); (focus ((repeat' (first | simp (maxSteps := 1000000) only [*, go_sem, Nat.reduceLT, Nat.reduceLeDiff, Nat.reduceEqDiff, ↓reduceIte, Nat.reduceAdd, Nat.reduceSub, Nat.reduceMul, Int.reduceLT, Int.reduceLE, Int.reduceAdd, Int.reduceSub, Int.reduceMul, Int.reduceNeg, Int.reduceToNat, Int.reduceEq, Int.reduceBEq, Int.reduceBNe, Nat.reduceBEq, beq_self_eq_true, bne_self_eq_false] | with_reducible refine vcond_split (fun _ => ?_) (fun _ => ?_) | with_reducible refine vg_split (fun _ => ?_) (fun _ => ?_) | ((with_reducible apply DCalls.frz); (focus exact rfl); (focus exact rfl)) | ((with_reducible refine And.intro ?_ ?_); (focus (first | omega | decide | assumption | (simp only [decide_eq_true_eq, decide_eq_false_iff_not] at *; omega)))))); exact rfl)); (simp only [putF_some, putF_none]))))) | with_reducible refine vcond_split (fun _ => ?_) (fun _ => ?_) | with_reducible refine vg_split (fun _ => ?_) (fun _ => ?_) | ((with_reducible apply DCalls.frz); (focus exact rfl); (focus exact rfl)) | ((with_reducible refine And.intro ?_ ?_); (focus (first | omega | decide | assumption | (simp only [decide_eq_true_eq, decide_eq_false_iff_not] at *; omega)))))
      exact qr_n (i + 1) hfin (by omega) (weak_mk rfl rfl rfl (by simp [wk_cons, wk_nil, look_cons, closedD, closedC, renT, renD, renC, encT_nil, encS_nil, encC_nil]))
    · obtain ⟨m, rfl⟩ : ∃ m, k = m + 1 := ⟨k - 1, by omega⟩
      have hm : S[m]? = some S[m] := List.getElem?_eq_getElem (by omega)
      have hyat := encF_at (insRow_ahead (S := S) (R := l.drop (i + 1)) (x := x) (by omega) hm)
      have hsw := insRow_swap (S := S) (R := l.drop (i + 1)) (x := x) (by omega) hm
      have hdr := drop_at hm
      have hdn := hdone (m + 1) hk hgt
      simp only [Nat.add_sub_cancel] at hdn
      generalize S[m] = y at hm hyat hsw hdr
      have q0 : decide ((0 : Int) < ((m + 1 : Nat) : Int)) = true := decide_eq_true (by omega)
      have w2 : IntKind.i64.wrap (((m + 1 : Nat) : Int) - 1) = m := by rw [wrap_i64 (by omega) (by omega)]; omega
      have hml : (m : Int) < (l.length : Int) := by omega
      have hm0 : (0 : Int) ≤ m := by omega
      have hJn : ltC x y = true → m ≤ i ∧ ∀ z ∈ S.drop m, ltC x z = true := fun h => ⟨by omega, fun z hz => by
        rw [hdr] at hz
        rcases List.mem_cons.1 hz with rfl | hz
        · exact h
        · exact hgt z hz⟩
      have hdn2 : ltC x y = false → insRow S (l.drop (i + 1)) x (m + 1) = sortC (l.take (i + 1)) ++ l.drop (i + 1) := fun h => hdn (fun z hz _ => by rw [hm] at hz; cases hz; exact h) 
      have hsw2 : ((encF (insRow S (l.drop (i + 1)) x (m + 1))).set (m + 1) [.s y.p, .i .i64 y.k]).set m [.s x.p, .i .i64 x.k] = encF (insRow S (l.drop (i + 1)) x m) := by
        rw [encF_set, encF_set, hsw]
      have hll : m + 1 < (encF (insRow S (l.drop (i + 1)) x (m + 1))).length := by rw [encF_len]; omega
      have hll2 : m < (encF (insRow S (l.drop (i + 1)) x (m + 1))).length := by rw [encF_len]; omega
      have hyat2 : ((encF (insRow S (l.drop (i + 1)) x (m + 1))).set (m + 1) [.s y.p, .i .i64 y.k]).getD m [] = [.s y.p, .i .i64 y.k] := by
        rw [List.getD_eq_getElem?_getD, List.getElem?_set_ne (by omega), ← List.getD_eq_getElem?_getD]
        exact hyat
      have hP1 := PLift.up hJn
      have hP2 := PLift.up hdn2
      have hP3 := PLift.up hfin
      have hP4 := PLift.up hsw2
      clear hJn hdn2 hdn hdone hgt hsw hsw2 hrl hm hdr hfin hz
      cases c1 : bltL x.p y.p
      · cases c2 : (x.p == y.p)
        · have hq : ltC x y = false := by unfold ltC; rw [c1, c2]; rfl
          have hdn3 := PLift.up (hP2.down hq)
          clear hP1 hP2 hP4
          repeat' (first | simp (maxSteps := 1000000) only [*, go_sem, Nat.reduceLT, Nat.reduceLeDiff, Nat.reduceEqDiff, ↓reduceIte, Nat.reduceAdd, Nat.reduceSub, Nat.reduceMul, Int.reduceLT, Int.reduceLE, Int.reduceAdd, Int.reduceSub, Int.reduceMul, Int.reduceNeg, Int.reduceToNat, Int.reduceEq, Int.reduceBEq, Int.reduceBNe, Nat.reduceBEq, beq_self_eq_true, bne_self_eq_false] | ((refine vc_drawn (id := 6) tabOK hmix [] [0,1,2,3,4,5,6,7,8,9,10,11,12,13,14,15,16,17,18,19,20,21,22,23,24,25,26,27,28,29,30,31,32,33,34,35,36,37,38,39,40,41,42,43] (by decide +kernel) ?_); (repeat' (first | (refine ds_nil ?_) | ((refine ds_one ?_ rfl rfl ?_ ?_); (rotate_left 1); (focus ((repeat' (first | simp (maxSteps := 1000000) only [*, go_sem, Nat.reduceLT, Nat.reduceLeDiff, Nat.reduceEqDiff, ↓reduceIte, Nat.reduceAdd, Nat.reduceSub, Nat.reduceMul, Int.reduceLT, Int.reduceLE, Int.reduceAdd, Int.reduceSub, Int.reduceMul, Int.reduceNeg, Int.reduceToNat, Int.reduceEq, Int.reduceBEq, Int.reduceBNe, Nat.reduceBEq, beq_self_eq_true, bne_self_eq_false] | with_reducible refine vcond_split (fun _ => ?_) (fun _ => ?_) | with_reducible refine vg_split (fun _ => ?_) (fun _ => ?_) | ((with_reducible apply DCalls.frz); (focus exact rfl); (focus exact rfl)) | ((with_reducible refine And.intro ?_ ?_); (focus (first | omega | decide | assumption | (simp only [decide_eq_true_eq, decide_eq_false_iff_not] at *; omega)))))); exact rfl)); (simp only [putF_some, putF_none]))))) | with_reducible refine vcond_split (fun _ => ?_) (fun _ => ?_) | with_reducible refine vg_split (fun _ => ?_) (fun _ => ?_) | ((with_reducible apply DCalls.frz); (focus exact rfl); (focus exact rfl)) | ((with_reducible refine And.intro ?_ ?_); (focus (first | omega | decide | assumption | (simp only [decide_eq_true_eq, decide_eq_false_iff_not] at *; omega)))))
          exact qr_n (i + 1) hP3.down (by omega) (weak_mk rfl (by rw [hdn3.down]; rfl) rfl (by simp [wk_cons, wk_nil, look_cons, closedD, closedC, renT, renD, renC, encT_nil, encS_nil, encC_nil]))
        · cases c3 : decide (x.k < y.k)
          · have hq : ltC x y = false := by unfold ltC; rw [c1, c2, c3]; rfl
            have hdn3 := PLift.up (hP2.down hq)
            clear hP1 hP2 hP4
            repeat' (first | simp (maxSteps := 1000000) only [*, go_sem, Nat.reduceLT, Nat.reduceLeDiff, Nat.reduceEqDiff, ↓reduceIte, Nat.reduceAdd, Nat.reduceSub, Nat.reduceMul, Int.reduceLT, Int.reduceLE, Int.reduceAdd, Int.reduceSub, Int.reduceMul, Int.reduceNeg, Int.reduceToNat, Int.reduceEq, Int.reduceBEq, Int.reduceBNe, Nat.reduceBEq, beq_self_eq_true, bne_self_eq_false] | ((refine vc_drawn (id := 6) tabOK hmix [] [0,1,2,3,4,5,6,7,8,9,10,11,12,13,14,15,16,17,18,19,20,21,22,23,24,25,26,27,28,29,30,31,32,33,34,35,36,37,38,39,40,41,42,43] (by decide +kernel) ?_); (repeat' (first | (refine ds_nil ?_) | ((refine ds_one ?_ rfl rfl ?_ ?_); (rotate_left 1); (focus ((repeat' (first | simp (maxSteps := 1000000) only [*, go_sem, Nat.reduceLT, Nat.reduceLeDiff, Nat.reduceEqDiff, ↓reduceIte, Nat.reduceAdd, Nat.reduceSub, Nat.reduceMul, Int.reduceLT, Int.reduceLE, Int.reduceAdd, Int.reduceSub, Int.reduceMul, Int.reduceNeg, Int.reduceToNat, Int.reduceEq, Int.reduceBEq, Int.reduceBNe, Nat.reduceBEq, beq_self_eq_true, bne_self_eq_false] | with_reducible refine vcond_split (fun _ => ?_) (fun _ => ?_) | with_reducible refine vg_split (fun _ => ?_) (fun _ => ?_) | ((with_reducible apply DCalls.frz); (focus exact rfl); (focus exact rfl)) | ((with_reducible refine And.intro ?_ ?_); (focus (first | omega | decide | assumption | (simp only [decide_eq_true_eq, decide_eq_false_iff_not] at *; omega)))))); exact rfl)); (simp only [putF_some, putF_none]))))) | with_reducible refine vcond_split (fun _ => ?_) (fun _ => ?_) | with_reducible refine vg_split (fun _ => ?_) (fun _ => ?_) | ((with_reducible apply DCalls.frz); (focus exact rfl); (focus exact rfl)) | ((with_reducible refine And.intro ?_ ?_); (focus (first | omega | decide | assumption | (simp only [decide_eq_true_eq, decide_eq_false_iff_not] at *; omega)))))
            exact qr_n (i + 1) hP3.down (by omega) (weak_mk rfl (by rw [hdn3.down]; rfl) rfl (by simp [wk_cons, wk_nil, look_cons, closedD, closedC, renT, renD, renC, encT_nil, encS_nil, encC_nil]))
          · have hq : ltC x y = true := by unfold ltC; rw [c1, c2, c3]; rfl
            repeat' (first | simp (maxSteps := 1000000) only [*, go_sem, Nat.reduceLT, Nat.reduceLeDiff, Nat.reduceEqDiff, ↓reduceIte, Nat.reduceAdd, Nat.reduceSub, Nat.reduceMul, Int.reduceLT, Int.reduceLE, Int.reduceAdd, Int.reduceSub, Int.reduceMul, Int.reduceNeg, Int.reduceToNat, Int.reduceEq, Int.reduceBEq, Int.reduceBNe, Nat.reduceBEq, beq_self_eq_true, bne_self_eq_false, List.length_set] | ((refine vc_drawn (id := 6) tabOK hmix [] [0,1,2,3,4,5,6,7,8,9,10,11,12,13,14,15,16,17,18,19,20,21,22,23,24,25,26,27,28,29,30,31,32,33,34,35,36,37,38,39,40,41,42,43] (by decide +kernel) ?_); (repeat' (first | (refine ds_nil ?_) | ((refine ds_one ?_ rfl rfl ?_ ?_); (rotate_left 1); (focus ((repeat' (first | simp (maxSteps := 1000000) only [*, go_sem, Nat.reduceLT, Nat.reduceLeDiff, Nat.reduceEqDiff, ↓reduceIte, Nat.reduceAdd, Nat.reduceSub, Nat.reduceMul, Int.reduceLT, Int.reduceLE, Int.reduceAdd, Int.reduceSub, Int.reduceMul, Int.reduceNeg, Int.reduceToNat, Int.reduceEq, Int.reduceBEq, Int.reduceBNe, Nat.reduceBEq, beq_self_eq_true, bne_self_eq_false, List.length_set] | with_reducible refine vcond_split (fun _ => ?_) (fun _ => ?_) | with_reducible refine vg_split (fun _ => ?_) (fun _ => ?_) | ((with_reducible apply DCalls.frz); (focus exact rfl); (focus exact rfl)) | ((with_reducible refine And.intro ?_ ?_); (focus (first | omega | decide | assumption | (simp only [decide_eq_true_eq, decide_eq_false_iff_not] at *; omega)))))); exact rfl)); (simp only [putF_some, putF_none]))))) | ((refine vc_drawn (id := 8) tabOK hmix [15,17] [0,1,5,6,7,8,9,10,11,12,13,14,15,2,3,4,16,17] (by decide +kernel) ?_); (repeat' (first | (refine ds_nil ?_) | ((refine ds_chg ?_ ?_ rfl rfl rfl ?_ ?_); (rotate_left 2); (focus ((repeat' (first | simp (maxSteps := 1000000) only [*, go_sem, Nat.reduceLT, Nat.reduceLeDiff, Nat.reduceEqDiff, ↓reduceIte, Nat.reduceAdd, Nat.reduceSub, Nat.reduceMul, Int.reduceLT, Int.reduceLE, Int.reduceAdd, Int.reduceSub, Int.reduceMul, Int.reduceNeg, Int.reduceToNat, Int.reduceEq, Int.reduceBEq, Int.reduceBNe, Nat.reduceBEq, beq_self_eq_true, bne_self_eq_false, List.length_set] | with_reducible refine vcond_split (fun _ => ?_) (fun _ => ?_) | with_reducible refine vg_split (fun _ => ?_) (fun _ => ?_) | ((with_reducible apply DCalls.frz); (focus exact rfl); (focus exact rfl)) | ((with_reducible refine And.intro ?_ ?_); (focus (first | omega | decide | assumption | (simp only [decide_eq_true_eq, decide_eq_false_iff_not] at *; omega)))))); (first | exact rfl | (refine And.intro ?_ ?_ <;> exact rfl)))); (simp only [putF_some, putF_none])) | ((refine ds_all ?_ rfl rfl rfl ?_ ?_); (rotate_left 1); (focus ((repeat' (first | exact allH_nil | refine allH_cons ?_ ?_)); (all_goals ((repeat' (first | simp (maxSteps := 1000000) only [*, go_sem, Nat.reduceLT, Nat.reduceLeDiff, Nat.reduceEqDiff, ↓reduceIte, Nat.reduceAdd, Nat.reduceSub, Nat.reduceMul, Int.reduceLT, Int.reduceLE, Int.reduceAdd, Int.reduceSub, Int.reduceMul, Int.reduceNeg, Int.reduceToNat, Int.reduceEq, Int.reduceBEq, Int.reduceBNe, Nat.reduceBEq, beq_self_eq_true, bne_self_eq_false, List.length_set] | with_reducible refine vcond_split (fun _ => ?_) (fun _ => ?_) | with_reducible refine vg_split (fun _ => ?_) (fun _ => ?_) | ((with_reducible apply DCalls.frz); (focus exact rfl); (focus exact rfl)) | ((with_reducible refine And.intro ?_ ?_); (focus (first | omega | decide | assumption | (simp only [decide_eq_true_eq, decide_eq_false_iff_not] at *; omega)))))); (try (first | exact rfl | omega)))))); (simp only [putF_some, putF_none]))))) | with_reducible refine vcond_split (fun _ => ?_) (fun _ => ?_) | with_reducible refine vg_split (fun _ => ?_) (fun _ => ?_) | ((with_reducible apply DCalls.frz); (focus exact rfl); (focus exact rfl)) | ((with_reducible refine And.intro ?_ ?_); (focus (first | omega | decide | assumption | (simp only [decide_eq_true_eq, decide_eq_false_iff_not] at *; omega)))))
            exact qr_n m (hP1.down hq) (by omega) (weak_mk rfl (by rw [hP4.down]; rfl) rfl (by simp [wk_cons, wk_nil, look_cons, closedD, closedC, renT, renD, renC, encT_nil, encS_nil, encC_nil]))
      · have hq : ltC x y = true := by unfold ltC; rw [c1]; rfl
        repeat' (first | simp (maxSteps := 1000000) only [*, go_sem, Nat.reduceLT, Nat.reduceLeDiff, Nat.reduceEqDiff, ↓reduceIte, Nat.reduceAdd, Nat.reduceSub, Nat.reduceMul, Int.reduceLT, Int.reduceLE, Int.reduceAdd, Int.reduceSub, Int.reduceMul, Int.reduceNeg, Int.reduceToNat, Int.reduceEq, Int.reduceBEq, Int.reduceBNe, Nat.reduceBEq, beq_self_eq_true, bne_self_eq_false, List.length_set] | ((refine vc_drawn (id := 6) tabOK hmix [] [0,1,2,3,4,5,6,7,8,9,10,11,12,13,14,15,16,17,18,19,20,21,22,23,24,25,26,27,28,29,30,31,32,33,34,35,36,37,38,39,40,41,42,43] (by decide +kernel) ?_); (repeat' (first | (refine ds_nil ?_) | ((refine ds_one ?_ rfl rfl ?_ ?_); (rotate_left 1); (focus ((repeat' (first | simp (maxSteps := 1000000) only [*, go_sem, Nat.reduceLT, Nat.reduceLeDiff, Nat.reduceEqDiff, ↓reduceIte, Nat.reduceAdd, Nat.reduceSub, Nat.reduceMul, Int.reduceLT, Int.reduceLE, Int.reduceAdd, Int.reduceSub, Int.reduceMul, Int.reduceNeg, Int.reduceToNat, Int.reduceEq, Int.reduceBEq, Int.reduceBNe, Nat.reduceBEq, beq_self_eq_true, bne_self_eq_false, List.length_set] | with_reducible refine vcond_split (fun _ => ?_) (fun _ => ?_) | with_reducible refine vg_split (fun _ => ?_) (fun _ => ?_) | ((with_reducible apply DCalls.frz); (focus exact rfl); (focus exact rfl)) | ((with_reducible refine And.intro ?_ ?_); (focus (first | omega | decide | assumption | (simp only [decide_eq_true_eq, decide_eq_false_iff_not] at *; omega)))))); exact rfl)); (simp only [putF_some, putF_none]))))) | ((refine vc_drawn (id := 8) tabOK hmix [15,17] [0,1,5,6,7,8,9,10,11,12,13,14,15,2,3,4,16,17] (by decide +kernel) ?_); (repeat' (first | (refine ds_nil ?_) | ((refine ds_chg ?_ ?_ rfl rfl rfl ?_ ?_); (rotate_left 2); (focus ((repeat' (first | simp (maxSteps := 1000000) only [*, go_sem, Nat.reduceLT, Nat.reduceLeDiff, Nat.reduceEqDiff, ↓reduceIte, Nat.reduceAdd, Nat.reduceSub, Nat.reduceMul, Int.reduceLT, Int.reduceLE, Int.reduceAdd, Int.reduceSub, Int.reduceMul, Int.reduceNeg, Int.reduceToNat, Int.reduceEq, Int.reduceBEq, Int.reduceBNe, Nat.reduceBEq, beq_self_eq_true, bne_self_eq_false, List.length_set] | with_reducible refine vcond_split (fun _ => ?_) (fun _ => ?_) | with_reducible refine vg_split (fun _ => ?_) (fun _ => ?_) | ((with_reducible apply DCalls.frz); (focus exact rfl); (focus exact rfl)) | ((with_reducible refine And.intro ?_ ?_); (focus (first | omega | decide | assumption | (simp only [decide_eq_true_eq, decide_eq_false_iff_not] at *; omega)))))); (first | exact rfl | (refine And.intro ?_ ?_ <;> exact rfl)))); (simp only [putF_some, putF_none])) | ((refine ds_all ?_ rfl rfl rfl ?_ ?_); (rotate_left 1); (focus ((repeat' (first | exact allH_nil | refine allH_cons ?_ ?_)); (all_goals ((repeat' (first | simp (maxSteps := 1000000) only [*, go_sem, Nat.reduceLT, Nat.reduceLeDiff, Nat.reduceEqDiff, ↓reduceIte, Nat.reduceAdd, Nat.reduceSub, Nat.reduceMul, Int.reduceLT, Int.reduceLE, Int.reduceAdd, Int.reduceSub, Int.reduceMul, Int.reduceNeg, Int.reduceToNat, Int.reduceEq, Int.reduceBEq, Int.reduceBNe, Nat.reduceBEq, beq_self_eq_true, bne_self_eq_false, List.length_set] | with_reducible refine vcond_split (fun _ => ?_) (fun _ => ?_) | with_reducible refine vg_split (fun _ => ?_) (fun _ => ?_) | ((with_reducible apply DCalls.frz); (focus exact rfl); (focus exact rfl)) | ((with_reducible refine And.intro ?_ ?_); (focus (first | omega | decide | assumption | (simp only [decide_eq_true_eq, decide_eq_false_iff_not] at *; omega)))))); (try (first | exact rfl | omega)))))); (simp only [putF_some, putF_none]))))) | with_reducible refine vcond_split (fun _ => ?_) (fun _ => ?_) | with_reducible refine vg_split (fun _ => ?_) (fun _ => ?_) | ((with_reducible apply DCalls.frz); (focus exact rfl); (focus exact rfl)) | ((with_reducible refine And.intro ?_ ?_); (focus (first | omega | decide | assumption | (simp only [decide_eq_true_eq, decide_eq_false_iff_not] at *; omega)))))
        exact qr_n m (hP1.down hq) (by omega) (weak_mk rfl (by rw [hP4.down]; rfl) rfl (by simp [wk_cons, wk_nil, look_cons, closedD, closedC, renT, renD, renC, encT_nil, encS_nil, encC_nil]))
  · have h1 : decide ((i : Int) < (l.length : Int)) = false := decide_eq_false (by omega)
    have e : sortC (l.take i) ++ l.drop i = sortC l := by
      rw [List.take_of_length_le (by omega), List.drop_of_length_le (by omega), List.append_nil]
    rw [e]
    have hsl : (sortC l).length = l.length := sortC_len l
    have hke : (sortC l).take l.length = sortC l := List.take_of_length_le (by omega)
    clear e
    repeat' (first | simp (maxSteps := 1000000) only [*, go_sem, Nat.reduceLT, Nat.reduceLeDiff, Nat.reduceEqDiff, ↓reduceIte, Nat.reduceAdd, Nat.reduceSub, Nat.reduceMul, Int.reduceLT, Int.reduceLE, Int.reduceAdd, Int.reduceSub, Int.reduceMul, Int.reduceNeg, Int.reduceToNat, Int.reduceEq, Int.reduceBEq, Int.reduceBNe, Nat.reduceBEq, beq_self_eq_true, bne_self_eq_false] | with_reducible refine vcond_split (fun _ => ?_) (fun _ => ?_) | with_reducible refine vg_split (fun _ => ?_) (fun _ => ?_) | ((with_reducible apply DCalls.frz); (focus exact rfl); (focus exact rfl)) | ((with_reducible refine And.intro ?_ ?_); (focus (first | omega | decide | assumption | (simp only [decide_eq_true_eq, decide_eq_false_iff_not] at *; omega)))))

theorem refMirror_c {l : List Cf} (hl : l.length ≤ 1000000) : DCalls Tryz.prog 34 [.c (.p (.sl 2 (encF l)))] [] fun r h => r = .c (.p (.sl 2 (encF (mirrorF l)))) ∧ h = [] := by
  have ho := refOrder_c (l := l.map mirC) (by rw [List.length_map]; exact hl)
  unfold mirrorF
  refine ent tabOK hmix Tryz.func34 rfl rfl fun X0 hX => ?_
  simp only [Tryz.ntmps34, Tryz.f34, go_sem]
  repeat' (first | simp (maxSteps := 1000000) only [*, go_sem, Nat.reduceLT, Nat.reduceLeDiff, Nat.reduceEqDiff, ↓reduceIte, Nat.reduceAdd, Nat.reduceSub, Nat.reduceMul, Int.reduceLT, Int.reduceLE, Int.reduceAdd, Int.reduceSub, Int.reduceMul, Int.reduceNeg, Int.reduceToNat, Int.reduceEq, Int.reduceBEq, Int.reduceBNe, Nat.reduceBEq, beq_self_eq_true, bne_self_eq_false] | with_reducible refine vcond_split (fun _ => ?_) (fun _ => ?_) | with_reducible refine vg_split (fun _ => ?_) (fun _ => ?_) | ((with_reducible apply DCalls.frz); (focus exact rfl); (focus exact rfl)) | ((with_reducible refine And.intro ?_ ?_); (focus (first | omega | decide | assumption | (simp only [decide_eq_true_eq, decide_eq_false_iff_not] at *; omega)))))
  refine vc_virt tabOK hmix 3 2 rfl ?_
  refine loop_ren tabOK hmix (α := Nat) (fun k => ⟨30, [(0, .c (.p (.sl 2 (encF l)))), (4, .c (.p (.i .i64 k))), (3, .c (.own 0 0 k))], [.arr 2 (encF ((l.take k).map mirC)) false]⟩)
    (fun k => k ≤ l.length) (fun k => l.length - k) 0 (Nat.zero_le _) (.inl (weak_mk (by rw [hX]; rfl) rfl rfl (by simp [wk_cons, wk_nil, look_cons, closedD, closedC, encT_nil, encS_nil, encC_nil]))) ?_
  intro k hk
  have hmn : min k l.length = k := Nat.min_eq_left hk
  have hln : ((l.take k).map mirC).length = k := by rw [List.length_map, List.length_take, hmn]
  by_cases hlt : k < l.length
  · have hx : l[k]? = some l[k] := List.getElem?_eq_getElem hlt
    have hg := encF_at hx
    have h1 : decide ((k : Int) < (l.length : Int)) = true := decide_eq_true (by omega)
    have hli : (k : Int) < (l.length : Int) := by omega
    have hk0 : (0 : Int) ≤ k := by omega
    have w1 : IntKind.i64.wrap ((k : Int) + 1) = k + 1 := wrap_i64 (by omega) (by omega)
    have hnx : (l.take (k + 1)).map mirC = (l.take k).map mirC ++ [⟨l[k].p, mirK l[k].k⟩] := by
      rw [List.take_add_one, hx, List.map_append]; rfl
    generalize l[k] = x at hx hg hnx
    generalize hrow : (l.take k).map mirC = row at hln hnx
    clear hx hrow ho
    by_cases q1 : (x.k == 2) = true
    · have hb : mirK x.k = 3 := by rw [eq_of_beq q1]; rfl
      rw [hb] at hnx
      clear hb
      repeat' (first | simp (maxSteps := 1000000) only [*, go_sem, Nat.reduceLT, Nat.reduceLeDiff, Nat.reduceEqDiff, ↓reduceIte, Nat.reduceAdd, Nat.reduceSub, Nat.reduceMul, Int.reduceLT, Int.reduceLE, Int.reduceAdd, Int.reduceSub, Int.reduceMul, Int.reduceNeg, Int.reduceToNat, Int.reduceEq, Int.reduceBEq, Int.reduceBNe, Nat.reduceBEq, beq_self_eq_true, bne_self_eq_false] | with_reducible refine vcond_split (fun _ => ?_) (fun _ => ?_) | with_reducible refine vg_split (fun _ => ?_) (fun _ => ?_) | ((with_reducible apply DCalls.frz); (focus exact rfl); (focus exact rfl)) | ((with_reducible refine And.intro ?_ ?_); (focus (first | omega | decide | assumption | (simp only [decide_eq_true_eq, decide_eq_false_iff_not] at *; omega)))))
      exact qr_ren (k + 1) 0 3 (by omega) (by omega) rfl rfl (weak_mk rfl (by rw [hnx]; rfl) rfl (by simp [wk_cons, wk_nil, look_cons, closedD, closedC, renT, renD, renC, encT_nil, encS_nil, encC_nil]))
    · have q1 : (x.k == 2) = false := by simpa using q1
      by_cases q2 : (x.k == 3) = true
      · have hb : mirK x.k = 2 := by rw [eq_of_beq q2]; rfl
        rw [hb] at hnx
        clear hb
        repeat' (first | simp (maxSteps := 1000000) only [*, go_sem, Nat.reduceLT, Nat.reduceLeDiff, Nat.reduceEqDiff, ↓reduceIte, Nat.reduceAdd, Nat.reduceSub, Nat.reduceMul, Int.reduceLT, Int.reduceLE, Int.reduceAdd, Int.reduceSub, Int.reduceMul, Int.reduceNeg, Int.reduceToNat, Int.reduceEq, Int.reduceBEq, Int.reduceBNe, Nat.reduceBEq, beq_self_eq_true, bne_self_eq_false] | with_reducible refine vcond_split (fun _ => ?_) (fun _ => ?_) | with_reducible refine vg_split (fun _ => ?_) (fun _ => ?_) | ((with_reducible apply DCalls.frz); (focus exact rfl); (focus exact rfl)) | ((with_reducible refine And.intro ?_ ?_); (focus (first | omega | decide | assumption | (simp only [decide_eq_true_eq, decide_eq_false_iff_not] at *; omega)))))
        exact qr_ren (k + 1) 0 3 (by omega) (by omega) rfl rfl (weak_mk rfl (by rw [hnx]; rfl) rfl (by simp [wk_cons, wk_nil, look_cons, closedD, closedC, renT, renD, renC, encT_nil, encS_nil, encC_nil]))
      · have q2 : (x.k == 3) = false := by simpa using q2
        have hb : mirK x.k = x.k := by simp only [mirK, q1, q2, Bool.false_eq_true, if_false]
        rw [hb] at hnx
        clear hb
        repeat' (first | simp (maxSteps := 1000000) only [*, go_sem, Nat.reduceLT, Nat.reduceLeDiff, Nat.reduceEqDiff, ↓reduceIte, Nat.reduceAdd, Nat.reduceSub, Nat.reduceMul, Int.reduceLT, Int.reduceLE, Int.reduceAdd, Int.reduceSub, Int.reduceMul, Int.reduceNeg, Int.reduceToNat, Int.reduceEq, Int.reduceBEq, Int.reduceBNe, Nat.reduceBEq, beq_self_eq_true, bne_self_eq_false] | with_reducible refine vcond_split (fun _ => ?_) (fun _ => ?_) | with_reducible refine vg_split (fun _ => ?_) (fun _ => ?_) | ((with_reducible apply DCalls.frz); (focus exact rfl); (focus exact rfl)) | ((with_reducible refine And.intro ?_ ?_); (focus (first | omega | decide | assumption | (simp only [decide_eq_true_eq, decide_eq_false_iff_not] at *; omega)))))
        exact qr_ren (k + 1) 0 3 (by omega) (by omega) rfl rfl (weak_mk rfl (by rw [hnx]; rfl) rfl (by simp [wk_cons, wk_nil, look_cons, closedD, closedC, renT, renD, renC, encT_nil, encS_nil, encC_nil]))
  · have h1 : decide ((k : Int) < (l.length : Int)) = false := decide_eq_false (by omega)
    have hk2 : k = l.length := by omega
    subst hk2
    rw [List.take_length]
    clear hmn
    have hml : (l.map mirC).take l.length = l.map mirC := List.take_of_length_le (by simp)
    repeat' (first | simp (maxSteps := 1000000) only [*, go_sem, Nat.reduceLT, Nat.reduceLeDiff, Nat.reduceEqDiff, ↓reduceIte, Nat.reduceAdd, Nat.reduceSub, Nat.reduceMul, Int.reduceLT, Int.reduceLE, Int.reduceAdd, Int.reduceSub, Int.reduceMul, Int.reduceNeg, Int.reduceToNat, Int.reduceEq, Int.reduceBEq, Int.reduceBNe, Nat.reduceBEq, beq_self_eq_true, bne_self_eq_false] | ((with_reducible refine useN (ho) ?_ ?_ ?_); (focus exact rfl); (focus exact fun _ => rfl)) | with_reducible refine vcond_split (fun _ => ?_) (fun _ => ?_) | with_reducible refine vg_split (fun _ => ?_) (fun _ => ?_) | ((with_reducible apply DCalls.frz); (focus exact rfl); (focus exact rfl)) | ((with_reducible refine And.intro ?_ ?_); (focus (first | omega | decide | assumption | (simp only [decide_eq_true_eq, decide_eq_false_iff_not] at *; omega)))))

end Go.Proofs.YtjanmkknbijecaaGreatDoor

end

section
/-
  Contracts: the document's pairs of files that went and came.
-/

set_option linter.unusedSimpArgs false
set_option linter.unusedVariables false
namespace Go.Proofs.YtjanmkknbijecaaGreatDoor
open Go Go.Dm
set_option maxRecDepth 100000
set_option maxHeartbeats 4000000

/-- Which changes some pair came from. -/
def usedR (l : List Ch) (out : List Pr) : List (List PV) := l.map fun c => [.b (takenF out c.p)]
theorem usedR_len (l : List Ch) (out : List Pr) : (usedR l out).length = l.length := by simp [usedR]
theorem usedR_at {l : List Ch} {out : List Pr} {k : Nat} {x : Ch} (h : l[k]? = some x) : (usedR l out).getD k [] = [.b (takenF out x.p)] := by
  simp only [usedR, List.getD_eq_getElem?_getD, List.getElem?_map, h]; rfl
theorem usedR_one (l : List Ch) (out : List Pr) : (∀ x ∈ usedR l out, x.length = 1) = True := eq_true fun x hx => by
  obtain ⟨y, _, rfl⟩ := List.mem_map.1 hx
  rfl
theorem usedR_nil (l : List Ch) : List.replicate l.length [PV.b false] = usedR l [] := by
  unfold usedR takenF
  simp [List.map_const']
theorem usedR_set {l : List Ch} (hs : l.Pairwise fun x y => bltL x.p y.p = true) {out : List Pr} {k : Nat} {y : Ch} (hy : l[k]? = some y) (a : List UInt8) : (usedR l out).set k [.b true] = usedR l (out ++ [⟨a, y.p⟩]) := by
  obtain ⟨h1, rfl⟩ := List.getElem?_eq_some_iff.1 hy
  refine List.ext_getElem (by simp [usedR]) fun j h2 h3 => ?_
  have hj : j < l.length := by simpa [usedR] using h3
  rw [List.getElem_set]
  simp only [usedR, List.getElem_map, takenF, List.any_append, List.any_cons, List.any_nil, Bool.or_false]
  by_cases hjk : k = j
  · subst hjk
    rw [if_pos rfl]; simp
  · rw [if_neg hjk]
    have : (l[k].p == l[j].p) = false := by
      rcases Nat.lt_or_ge k j with h | h
      · exact blt_ne (List.pairwise_iff_getElem.1 hs k j h1 hj h)
      · have := blt_ne (List.pairwise_iff_getElem.1 hs j k hj h1 (by omega))
        cases e : (l[k].p == l[j].p)
        · rfl
        · rw [eq_of_beq e] at this; simp at this
    rw [this, Bool.or_false]

theorem refPairs_c {l : List Ch} (hl : l.length ≤ 1000000) (hs : l.Pairwise fun x y => bltL x.p y.p = true) (hw : ∀ x ∈ l, x.o.wf ∧ x.n.wf) (hp : ∀ x ∈ l, x.p.length ≤ 1000000000 ∧ x.o.d.length ≤ 1000000000 ∧ x.n.d.length ≤ 1000000000) :
    DCalls Tryz.prog 77 [.c (.p (.sl 10 (encC l)))] [] fun r h => r = .c (.p (.sl 2 (encP (pairsG l)))) ∧ h = [] := by
  refine dcalls_wk ?_
  have hr := refRightC_c hl hp
  rw [← rightCs_ref hw] at hr
  unfold pairsG
  cases hrc : rightCs l
  · rw [hrc] at hr
    refine ent tabOK hmix Tryz.func77 rfl rfl fun X0 hX => ?_
    simp only [Tryz.ntmps77, Tryz.f77, go_sem]
    repeat' (first | simp (maxSteps := 1000000) only [*, go_sem, Nat.reduceLT, Nat.reduceLeDiff, Nat.reduceEqDiff, ↓reduceIte, Nat.reduceAdd, Nat.reduceSub, Nat.reduceMul, Int.reduceLT, Int.reduceLE, Int.reduceAdd, Int.reduceSub, Int.reduceMul, Int.reduceNeg, Int.reduceToNat, Int.reduceEq, Int.reduceBEq, Int.reduceBNe, Nat.reduceBEq, beq_self_eq_true, bne_self_eq_false] | ((with_reducible refine useF (hr) ?_ ?_ ?_); (focus exact rfl); (focus exact rfl)) | with_reducible refine vcond_split (fun _ => ?_) (fun _ => ?_) | with_reducible refine vg_split (fun _ => ?_) (fun _ => ?_) | ((with_reducible apply DCalls.frz); (focus exact rfl); (focus exact rfl)) | ((with_reducible refine And.intro ?_ ?_); (focus (first | omega | decide | assumption | (simp only [decide_eq_true_eq, decide_eq_false_iff_not] at *; omega)))))
    all_goals first | rfl | simp
  · rw [hrc] at hr
    rw [if_pos rfl]
    have hn0 := usedR_nil l
    have hul := usedR_len l
    have huo := usedR_one l
    have hl2 : (l.length : Int) ≤ 1000000 := by omega
    refine ent tabOK hmix Tryz.func77 rfl rfl fun X0 hX => ?_
    simp only [Tryz.ntmps77, Tryz.f77, go_sem]
    repeat' (first | simp (maxSteps := 1000000) only [*, go_sem, Nat.reduceLT, Nat.reduceLeDiff, Nat.reduceEqDiff, ↓reduceIte, Nat.reduceAdd, Nat.reduceSub, Nat.reduceMul, Int.reduceLT, Int.reduceLE, Int.reduceAdd, Int.reduceSub, Int.reduceMul, Int.reduceNeg, Int.reduceToNat, Int.reduceEq, Int.reduceBEq, Int.reduceBNe, Nat.reduceBEq, beq_self_eq_true, bne_self_eq_false] | ((with_reducible refine useF (hr) ?_ ?_ ?_); (focus exact rfl); (focus exact rfl)) | with_reducible refine vcond_split (fun _ => ?_) (fun _ => ?_) | with_reducible refine vg_split (fun _ => ?_) (fun _ => ?_) | ((with_reducible apply DCalls.frz); (focus exact rfl); (focus exact rfl)) | ((with_reducible refine And.intro ?_ ?_); (focus (first | omega | decide | assumption | (simp only [decide_eq_true_eq, decide_eq_false_iff_not] at *; omega)))))
    refine vc_virt tabOK hmix 4 2 rfl ?_
    refine loop_ren tabOK hmix (α := Nat × List Pr) (fun x => ⟨97, [(0, .c (.p (.sl 10 (encC l)))), (3, .c (.own 0 0 l.length)), (5, .c (.p (.i .i64 x.1))), (4, .c (.own 1 0 x.2.length))], [.arr 1 (usedR l x.2) false, .arr 2 (encP x.2) false]⟩)
      (fun x => x.1 ≤ l.length ∧ x.2.length ≤ x.1 ∧ (l.drop x.1).foldl (pairStep l) x.2 = pairsF l) (fun x => l.length - x.1) (0, []) ⟨Nat.zero_le _, Nat.le_refl _, rfl⟩ (.inl (weak_mk (by rw [hX]; rfl) (by rw [← hn0]; rfl) rfl (by simp [wk_cons, wk_nil, look_cons, closedD, closedC, renT, renD, renC, encT_nil, encS_nil, encC_nil]))) ?_
    clear hr hn0
    rintro ⟨i, out⟩ ⟨hi, hol, hJ⟩
    simp only at hi hol hJ
    by_cases hlt : i < l.length
    · have hx : l[i]? = some l[i] := List.getElem?_eq_getElem hlt
      have hg := encC_at hx
      have hd := drop_at hx
      have h1 : decide ((i : Int) < (l.length : Int)) = true := decide_eq_true (by omega)
      have hli : (i : Int) < (l.length : Int) := by omega
      have hi0 : (0 : Int) ≤ i := by omega
      have w1 : IntKind.i64.wrap ((i : Int) + 1) = i + 1 := wrap_i64 (by omega) (by omega)
      have hxd := (hp _ (List.getElem_mem hlt)).2.1
      generalize l[i] = x at hx hg hd hxd
      rw [hd, List.foldl_cons, pairStep] at hJ
      have n1 : (x.k != 2) = !(x.k == 2) := rfl
      have n2 : (x.o.k != 1) = !(x.o.k == 1) := rfl
      rw [n1, n2] at hJ
      clear hx hd
      cases q1 : (x.k == 2)
      · rw [q1] at hJ n1
        have hJ2 : i + 1 ≤ l.length ∧ out.length ≤ i + 1 ∧ (l.drop (i + 1)).foldl (pairStep l) out = pairsF l := ⟨by omega, by omega, by simpa using hJ⟩
        clear hJ
        repeat' (first | simp (maxSteps := 1000000) only [*, go_sem, Nat.reduceLT, Nat.reduceLeDiff, Nat.reduceEqDiff, ↓reduceIte, Nat.reduceAdd, Nat.reduceSub, Nat.reduceMul, Int.reduceLT, Int.reduceLE, Int.reduceAdd, Int.reduceSub, Int.reduceMul, Int.reduceNeg, Int.reduceToNat, Int.reduceEq, Int.reduceBEq, Int.reduceBNe, Nat.reduceBEq, beq_self_eq_true, bne_self_eq_false, Bool.not_false] | with_reducible refine vcond_split (fun _ => ?_) (fun _ => ?_) | with_reducible refine vg_split (fun _ => ?_) (fun _ => ?_) | ((with_reducible apply DCalls.frz); (focus exact rfl); (focus exact rfl)) | ((with_reducible refine And.intro ?_ ?_); (focus (first | omega | decide | assumption | (simp only [decide_eq_true_eq, decide_eq_false_iff_not] at *; omega)))))
        exact qr_n (i + 1, out) hJ2 (by simp only; omega) (weak_mk rfl rfl rfl (by simp [wk_cons, wk_nil, look_cons, closedD, closedC, renT, renD, renC, encT_nil, encS_nil, encC_nil]))
      · cases q2 : (x.o.k == 1)
        · rw [q1, q2] at hJ
          rw [q1] at n1
          rw [q2] at n2
          have hJ2 : i + 1 ≤ l.length ∧ out.length ≤ i + 1 ∧ (l.drop (i + 1)).foldl (pairStep l) out = pairsF l := ⟨by omega, by omega, by simpa using hJ⟩
          clear hJ
          repeat' (first | simp (maxSteps := 1000000) only [*, go_sem, Nat.reduceLT, Nat.reduceLeDiff, Nat.reduceEqDiff, ↓reduceIte, Nat.reduceAdd, Nat.reduceSub, Nat.reduceMul, Int.reduceLT, Int.reduceLE, Int.reduceAdd, Int.reduceSub, Int.reduceMul, Int.reduceNeg, Int.reduceToNat, Int.reduceEq, Int.reduceBEq, Int.reduceBNe, Nat.reduceBEq, beq_self_eq_true, bne_self_eq_false, Bool.not_false, Bool.not_true] | with_reducible refine vcond_split (fun _ => ?_) (fun _ => ?_) | with_reducible refine vg_split (fun _ => ?_) (fun _ => ?_) | ((with_reducible apply DCalls.frz); (focus exact rfl); (focus exact rfl)) | ((with_reducible refine And.intro ?_ ?_); (focus (first | omega | decide | assumption | (simp only [decide_eq_true_eq, decide_eq_false_iff_not] at *; omega)))))
          exact qr_n (i + 1, out) hJ2 (by simp only; omega) (weak_mk rfl rfl rfl (by simp [wk_cons, wk_nil, look_cons, closedD, closedC, renT, renD, renC, encT_nil, encS_nil, encC_nil]))
        · rw [q1, q2, Bool.not_true, Bool.or_false, if_neg (by decide)] at hJ
          rw [q1] at n1
          rw [q2] at n2
          have hJ2 := PLift.up hJ
          clear hJ
          repeat' (first | simp (maxSteps := 1000000) only [*, go_sem, Nat.reduceLT, Nat.reduceLeDiff, Nat.reduceEqDiff, ↓reduceIte, Nat.reduceAdd, Nat.reduceSub, Nat.reduceMul, Int.reduceLT, Int.reduceLE, Int.reduceAdd, Int.reduceSub, Int.reduceMul, Int.reduceNeg, Int.reduceToNat, Int.reduceEq, Int.reduceBEq, Int.reduceBNe, Nat.reduceBEq, beq_self_eq_true, bne_self_eq_false, Bool.not_false, Bool.not_true] | with_reducible refine vcond_split (fun _ => ?_) (fun _ => ?_) | with_reducible refine vg_split (fun _ => ?_) (fun _ => ?_) | ((with_reducible apply DCalls.frz); (focus exact rfl); (focus exact rfl)) | ((with_reducible refine And.intro ?_ ?_); (focus (first | omega | decide | assumption | (simp only [decide_eq_true_eq, decide_eq_false_iff_not] at *; omega)))))
          refine loop_ren tabOK hmix (α := Nat) (fun k => ⟨97, [(0, .c (.p (.sl 10 (encC l)))), (3, .c (.own 0 0 l.length)), (5, .c (.p (.i .i64 i))), (4, .c (.own 1 0 out.length)), (6, .c (.p (.i .i64 k)))], [.arr 1 (usedR l out) false, .arr 2 (encP out) false]⟩)
            (fun k => k ≤ l.length ∧ pickTo x.o.d out (l.drop k) = pickTo x.o.d out l) (fun k => l.length - k) 0 ⟨Nat.zero_le _, rfl⟩ (.inl (weak_mk (by rw [hX]; rfl) rfl rfl (by simp [wk_cons, wk_nil, look_cons, closedD, closedC, renT, renD, renC, encT_nil, encS_nil, encC_nil]))) ?_
          rintro k ⟨hk, hss⟩
          by_cases hkl : k < l.length
          · have hy : l[k]? = some l[k] := List.getElem?_eq_getElem hkl
            have hg2 := encC_at hy
            have hd2 := drop_at hy
            have h2 : decide ((k : Int) < (l.length : Int)) = true := decide_eq_true (by omega)
            have hli2 : (k : Int) < (l.length : Int) := by omega
            have hk0 : (0 : Int) ≤ k := by omega
            have w2 : IntKind.i64.wrap ((k : Int) + 1) = k + 1 := wrap_i64 (by omega) (by omega)
            have hyd := (hp _ (List.getElem_mem hkl)).2.2
            have hu := usedR_at (out := out) hy
            have hset := usedR_set hs (out := out) hy x.p
            generalize l[k] = y at hy hg2 hd2 hyd hu hset
            rw [hd2, pickTo] at hss
            clear hy hd2
            have hob : out.length ≤ 1000000 := by omega
            have ceq : (y.n.d == x.o.d) = (x.o.d == y.n.d) := by
              rw [Bool.eq_iff_iff]
              simp only [beq_iff_eq]
              exact ⟨fun h => h.symm, fun h => h.symm⟩
            cases c4 : takenF out y.p <;> cases c1 : (y.k == 1) <;> cases c2 : (y.n.k == 1) <;> cases c3 : (x.o.d == y.n.d)
            all_goals rw [c1, c2, c3, c4] at hss
            all_goals rw [c3] at ceq
            all_goals rw [c4] at hu
            case false.true.true.true =>
              rw [if_pos (by decide)] at hss
              have hJ3 := hJ2.down
              rw [← hss] at hJ3
              have hJ4 : i + 1 ≤ l.length ∧ (out ++ [(⟨x.p, y.p⟩ : Pr)]).length ≤ i + 1 ∧ (l.drop (i + 1)).foldl (pairStep l) (out ++ [(⟨x.p, y.p⟩ : Pr)]) = pairsF l := ⟨by omega, by simp; omega, hJ3⟩
              have hset2 := PLift.up hset
              clear hss hJ2 hJ3 hset
              repeat' (first | simp (maxSteps := 1000000) only [*, go_sem, Nat.reduceLT, Nat.reduceLeDiff, Nat.reduceEqDiff, ↓reduceIte, Nat.reduceAdd, Nat.reduceSub, Nat.reduceMul, Int.reduceLT, Int.reduceLE, Int.reduceAdd, Int.reduceSub, Int.reduceMul, Int.reduceNeg, Int.reduceToNat, Int.reduceEq, Int.reduceBEq, Int.reduceBNe, Nat.reduceBEq, beq_self_eq_true, bne_self_eq_false, Bool.not_false, Bool.not_true] | ((refine vc_drawn (id := 12) tabOK hmix [] [0,1,2,3,4,5,6,7,8,9,10,11,12,13,14,15,16,17,18,19,20,21,22,23,24,25,26,27,28,29,30,31,32,33,34,35,36,37,38] (by decide +kernel) ?_); (repeat' (first | (refine ds_nil ?_) | ((refine ds_one ?_ rfl rfl ?_ ?_); (rotate_left 1); (focus ((repeat' (first | simp (maxSteps := 1000000) only [*, go_sem, Nat.reduceLT, Nat.reduceLeDiff, Nat.reduceEqDiff, ↓reduceIte, Nat.reduceAdd, Nat.reduceSub, Nat.reduceMul, Int.reduceLT, Int.reduceLE, Int.reduceAdd, Int.reduceSub, Int.reduceMul, Int.reduceNeg, Int.reduceToNat, Int.reduceEq, Int.reduceBEq, Int.reduceBNe, Nat.reduceBEq, beq_self_eq_true, bne_self_eq_false, Bool.not_false, Bool.not_true] | with_reducible refine vcond_split (fun _ => ?_) (fun _ => ?_) | with_reducible refine vg_split (fun _ => ?_) (fun _ => ?_) | ((with_reducible apply DCalls.frz); (focus exact rfl); (focus exact rfl)) | ((with_reducible refine And.intro ?_ ?_); (focus (first | omega | decide | assumption | (simp only [decide_eq_true_eq, decide_eq_false_iff_not] at *; omega)))))); exact rfl)); (simp only [putF_some, putF_none]))))) | ((refine vc_drawn (id := 14) tabOK hmix [12,13] [1,2,3,4,5,6,7,8,9,10,11,12,0,13,14] (by decide +kernel) ?_); (repeat' (first | (refine ds_nil ?_) | ((refine ds_chg ?_ ?_ rfl rfl rfl ?_ ?_); (rotate_left 2); (focus ((repeat' (first | simp (maxSteps := 1000000) only [*, go_sem, Nat.reduceLT, Nat.reduceLeDiff, Nat.reduceEqDiff, ↓reduceIte, Nat.reduceAdd, Nat.reduceSub, Nat.reduceMul, Int.reduceLT, Int.reduceLE, Int.reduceAdd, Int.reduceSub, Int.reduceMul, Int.reduceNeg, Int.reduceToNat, Int.reduceEq, Int.reduceBEq, Int.reduceBNe, Nat.reduceBEq, beq_self_eq_true, bne_self_eq_false, Bool.not_false, Bool.not_true] | with_reducible refine vcond_split (fun _ => ?_) (fun _ => ?_) | with_reducible refine vg_split (fun _ => ?_) (fun _ => ?_) | ((with_reducible apply DCalls.frz); (focus exact rfl); (focus exact rfl)) | ((with_reducible refine And.intro ?_ ?_); (focus (first | omega | decide | assumption | (simp only [decide_eq_true_eq, decide_eq_false_iff_not] at *; omega)))))); (first | exact rfl | (refine And.intro ?_ ?_ <;> exact rfl)))); (simp only [putF_some, putF_none])) | ((refine ds_all ?_ rfl rfl rfl ?_ ?_); (rotate_left 1); (focus ((repeat' (first | exact allH_nil | refine allH_cons ?_ ?_)); (all_goals ((repeat' (first | simp (maxSteps := 1000000) only [*, go_sem, Nat.reduceLT, Nat.reduceLeDiff, Nat.reduceEqDiff, ↓reduceIte, Nat.reduceAdd, Nat.reduceSub, Nat.reduceMul, Int.reduceLT, Int.reduceLE, Int.reduceAdd, Int.reduceSub, Int.reduceMul, Int.reduceNeg, Int.reduceToNat, Int.reduceEq, Int.reduceBEq, Int.reduceBNe, Nat.reduceBEq, beq_self_eq_true, bne_self_eq_false, Bool.not_false, Bool.not_true] | with_reducible refine vcond_split (fun _ => ?_) (fun _ => ?_) | with_reducible refine vg_split (fun _ => ?_) (fun _ => ?_) | ((with_reducible apply DCalls.frz); (focus exact rfl); (focus exact rfl)) | ((with_reducible refine And.intro ?_ ?_); (focus (first | omega | decide | assumption | (simp only [decide_eq_true_eq, decide_eq_false_iff_not] at *; omega)))))); (try (first | exact rfl | omega)))))); (simp only [putF_some, putF_none]))))) | with_reducible refine vcond_split (fun _ => ?_) (fun _ => ?_) | with_reducible refine vg_split (fun _ => ?_) (fun _ => ?_) | ((with_reducible apply DCalls.frz); (focus exact rfl); (focus exact rfl)) | ((with_reducible refine And.intro ?_ ?_); (focus (first | omega | decide | assumption | (simp only [decide_eq_true_eq, decide_eq_false_iff_not] at *; omega)))))
              exact qr_ren (i + 1, out ++ [⟨x.p, y.p⟩]) 1 3 hJ4 (by simp only; omega) rfl rfl (weak_mk rfl (by rw [← hset2.down]; rfl) rfl (by simp [wk_cons, wk_nil, look_cons, closedD, closedC, renT, renD, renC, encT_nil, encS_nil, encC_nil]))
            all_goals
              rw [if_neg (by decide)] at hss
              have hs2 : k + 1 ≤ l.length ∧ pickTo x.o.d out (l.drop (k + 1)) = pickTo x.o.d out l := ⟨by omega, hss⟩
              clear hss hJ2 hset
              repeat' (first | simp (maxSteps := 1000000) only [*, go_sem, Nat.reduceLT, Nat.reduceLeDiff, Nat.reduceEqDiff, ↓reduceIte, Nat.reduceAdd, Nat.reduceSub, Nat.reduceMul, Int.reduceLT, Int.reduceLE, Int.reduceAdd, Int.reduceSub, Int.reduceMul, Int.reduceNeg, Int.reduceToNat, Int.reduceEq, Int.reduceBEq, Int.reduceBNe, Nat.reduceBEq, beq_self_eq_true, bne_self_eq_false, Bool.not_false, Bool.not_true] | ((refine vc_drawn (id := 12) tabOK hmix [] [0,1,2,3,4,5,6,7,8,9,10,11,12,13,14,15,16,17,18,19,20,21,22,23,24,25,26,27,28,29,30,31,32,33,34,35,36,37,38] (by decide +kernel) ?_); (repeat' (first | (refine ds_nil ?_) | ((refine ds_one ?_ rfl rfl ?_ ?_); (rotate_left 1); (focus ((repeat' (first | simp (maxSteps := 1000000) only [*, go_sem, Nat.reduceLT, Nat.reduceLeDiff, Nat.reduceEqDiff, ↓reduceIte, Nat.reduceAdd, Nat.reduceSub, Nat.reduceMul, Int.reduceLT, Int.reduceLE, Int.reduceAdd, Int.reduceSub, Int.reduceMul, Int.reduceNeg, Int.reduceToNat, Int.reduceEq, Int.reduceBEq, Int.reduceBNe, Nat.reduceBEq, beq_self_eq_true, bne_self_eq_false, Bool.not_false, Bool.not_true] | with_reducible refine vcond_split (fun _ => ?_) (fun _ => ?_) | with_reducible refine vg_split (fun _ => ?_) (fun _ => ?_) | ((with_reducible apply DCalls.frz); (focus exact rfl); (focus exact rfl)) | ((with_reducible refine And.intro ?_ ?_); (focus (first | omega | decide | assumption | (simp only [decide_eq_true_eq, decide_eq_false_iff_not] at *; omega)))))); exact rfl)); (simp only [putF_some, putF_none]))))) | with_reducible refine vcond_split (fun _ => ?_) (fun _ => ?_) | with_reducible refine vg_split (fun _ => ?_) (fun _ => ?_) | ((with_reducible apply DCalls.frz); (focus exact rfl); (focus exact rfl)) | ((with_reducible refine And.intro ?_ ?_); (focus (first | omega | decide | assumption | (simp only [decide_eq_true_eq, decide_eq_false_iff_not] at *; omega)))))
              exact qr_n (k + 1) hs2 (by omega) (weak_mk rfl rfl rfl (by simp [wk_cons, wk_nil, look_cons, closedD, closedC, renT, renD, renC, encT_nil, encS_nil, encC_nil]))
          · have h2 : decide ((k : Int) < (l.length : Int)) = false := decide_eq_false (by omega)
            rw [List.drop_of_length_le (by omega), pickTo] at hss
            have hJ3 := hJ2.down
            rw [← hss] at hJ3
            have hJ4 : i + 1 ≤ l.length ∧ out.length ≤ i + 1 ∧ (l.drop (i + 1)).foldl (pairStep l) out = pairsF l := ⟨by omega, by omega, hJ3⟩
            clear hss hJ2 hJ3
            repeat' (first | simp (maxSteps := 1000000) only [*, go_sem, Nat.reduceLT, Nat.reduceLeDiff, Nat.reduceEqDiff, ↓reduceIte, Nat.reduceAdd, Nat.reduceSub, Nat.reduceMul, Int.reduceLT, Int.reduceLE, Int.reduceAdd, Int.reduceSub, Int.reduceMul, Int.reduceNeg, Int.reduceToNat, Int.reduceEq, Int.reduceBEq, Int.reduceBNe, Nat.reduceBEq, beq_self_eq_true, bne_self_eq_false] | with_reducible refine vcond_split (fun _ => ?_) (fun _ => ?_) | with_reducible refine vg_split (fun _ => ?_) (fun _ => ?_) | ((with_reducible apply DCalls.frz); (focus exact rfl); (focus exact rfl)) | ((with_reducible refine And.intro ?_ ?_); (focus (first | omega | decide | assumption | (simp only [decide_eq_true_eq, decide_eq_false_iff_not] at *; omega)))))
            exact qr_n (i + 1, out) hJ4 (by simp only; omega) (weak_mk rfl rfl rfl (by simp [wk_cons, wk_nil, look_cons, closedD, closedC, renT, renD, renC, encT_nil, encS_nil, encC_nil]))
    · have h1 : decide ((i : Int) < (l.length : Int)) = false := decide_eq_false (by omega)
      rw [List.drop_of_length_le (by omega), List.foldl_nil] at hJ
      rw [← hJ]
      clear hJ
      repeat' (first | simp (maxSteps := 1000000) only [*, go_sem, Nat.reduceLT, Nat.reduceLeDiff, Nat.reduceEqDiff, ↓reduceIte, Nat.reduceAdd, Nat.reduceSub, Nat.reduceMul, Int.reduceLT, Int.reduceLE, Int.reduceAdd, Int.reduceSub, Int.reduceMul, Int.reduceNeg, Int.reduceToNat, Int.reduceEq, Int.reduceBEq, Int.reduceBNe, Nat.reduceBEq, beq_self_eq_true, bne_self_eq_false] | with_reducible refine vcond_split (fun _ => ?_) (fun _ => ?_) | with_reducible refine vg_split (fun _ => ?_) (fun _ => ?_) | ((with_reducible apply DCalls.frz); (focus exact rfl); (focus exact rfl)) | ((with_reducible refine And.intro ?_ ?_); (focus (first | omega | decide | assumption | (simp only [decide_eq_true_eq, decide_eq_false_iff_not] at *; omega)))))
      all_goals first | rfl | (rw [List.take_of_length_le (by simp)]) | simp

end Go.Proofs.YtjanmkknbijecaaGreatDoor

end

section
/-
  Contracts: the document's merge.
-/

set_option linter.unusedSimpArgs false
set_option linter.unusedVariables false
namespace Go.Proofs.YtjanmkknbijecaaGreatDoor
open Go Go.Dm
set_option maxRecDepth 100000
set_option maxHeartbeats 8000000

theorem stuck_any (bad : List Cf) (d : List UInt8) : (bad.map Cf.p).any (fun x => x == d) = bad.any fun c => c.p == d := by rw [List.any_map]; rfl

theorem refMerge_c {b o t : List It} (hb : OkT b) (ho : OkT o) (ht : OkT t) :
    DCalls Tryz.prog 32 [.c (.p (.sl 5 (encT b))), .c (.p (.sl 5 (encT o))), .c (.p (.sl 5 (encT t)))] [] fun r h => r = .tup [.c (.p (.sl 5 (encT (mergeF b o t).1))), .c (.p (.sl 2 (encF (mergeF b o t).2)))] ∧ h = [] := by
  refine dcalls_wk ?_
  have e1 := hb.len
  have e2 := ho.len
  have e3 := ht.len
  have hp := paths_c (ts := [b, o, t]) (by simp) (by intro s hs; simp at hs; rcases hs with rfl | rfl | rfl <;> assumption)
  simp only [List.map_cons, List.map_nil, List.foldl_cons, List.foldl_nil, paths3_ref] at hp
  have hpl := paths3_len b o t
  have hd1 := refDiff_c hb ho
  rw [refDiff_eq hb ho] at hd1
  have hd2 := refDiff_c hb ht
  rw [refDiff_eq hb ht] at hd2
  have l1 := diffF_len b o
  have l2 := diffF_len b t
  have bnd : ∀ {s u : List It}, OkT s → OkT u → ∀ x ∈ diffF s u, x.p.length ≤ 1000000000 ∧ x.o.d.length ≤ 1000000000 ∧ x.n.d.length ≤ 1000000000 := fun hs hu x hx => by
    obtain ⟨h1, h2⟩ := diffF_nodes hx
    exact ⟨(diffF_bnd hs.s hu.s x hx).1, by rw [h1]; exact Nat.le_trans (hs.getd _) (by decide), by rw [h2]; exact Nat.le_trans (hu.getd _) (by decide)⟩
  have p1 := refPairs_c (l := diffF b o) (by omega) (diffF_srt b o) (fun x hx => diffF_wf hb ho hx) (bnd hb ho)
  have p2 := refPairs_c (l := diffF b t) (by omega) (diffF_srt b t) (fun x hx => diffF_wf hb ht hx) (bnd hb ht)
  have m1 := pairsG_len (diffF b o)
  have m2 := pairsG_len (diffF b t)
  have hAl : (pairsG (diffF b o)).length ≤ 240 := by omega
  have hBl : (pairsG (diffF b t)).length ≤ 240 := by omega
  have hml : (mergeF b o t) = if (badF b o t).length == 0 then (outF b o t, []) else ([], badF b o t) := rfl
  have hbe : badF b o t = sortC (mgCs b o t (paths3 b o t) ++ (renamedF (pairsG (diffF b o)) (pairsG (diffF b t)) ++ orphansF (outF b o t) (mgCs b o t (paths3 b o t)))) := by
    rw [badF_eq]
    refine sortC_unique ((sortC_perm _).trans ?_) (sortC_sorted _)
    unfold allF
    exact List.Perm.append_left _ List.perm_append_comm
  have hol0 := mgIs_len b o t (paths3 b o t)
  have hbl0 := mgCs_len b o t (paths3 b o t)
  have hrl := renamed_len (pairsG (diffF b o)) (pairsG (diffF b t))
  have hor := orphans_len (outF b o t) (mgCs b o t (paths3 b o t))
  have hopl := outF_plen hb.s ho.s ht.s
  rw [hml, hbe]
  clear hml hbe bnd l1 l2 m1 m2
  unfold outF at *
  generalize paths3 b o t = ps at *
  generalize diffF b o = D1 at *
  generalize diffF b t = D2 at *
  generalize pairsG D1 = A at *
  generalize pairsG D2 = B at *
  refine entS tabOK Tryz.func32 rfl rfl fun X0 hX => ?_
  simp only [Tryz.ntmps32, Tryz.f32, go_sem]
  refine swp_first tabOK hmix ?_
  repeat' (first | simp (maxSteps := 1000000) only [*, go_sem, Nat.reduceLT, Nat.reduceLeDiff, Nat.reduceEqDiff, ↓reduceIte, Nat.reduceAdd, Nat.reduceSub, Nat.reduceMul, Int.reduceLT, Int.reduceLE, Int.reduceAdd, Int.reduceSub, Int.reduceMul, Int.reduceNeg, Int.reduceToNat, Int.reduceEq, Int.reduceBEq, Int.reduceBNe, Nat.reduceBEq, beq_self_eq_true, bne_self_eq_false] | with_reducible refine vcond_split (fun _ => ?_) (fun _ => ?_) | with_reducible refine vg_split (fun _ => ?_) (fun _ => ?_) | ((with_reducible apply DCalls.frz); (focus exact rfl); (focus exact rfl)) | ((with_reducible refine And.intro ?_ ?_); (focus (first | omega | decide | assumption | (simp only [decide_eq_true_eq, decide_eq_false_iff_not] at *; omega)))))
  refine swp_first tabOK hmix ?_
  repeat' (first | simp (maxSteps := 1000000) only [*, go_sem, Nat.reduceLT, Nat.reduceLeDiff, Nat.reduceEqDiff, ↓reduceIte, Nat.reduceAdd, Nat.reduceSub, Nat.reduceMul, Int.reduceLT, Int.reduceLE, Int.reduceAdd, Int.reduceSub, Int.reduceMul, Int.reduceNeg, Int.reduceToNat, Int.reduceEq, Int.reduceBEq, Int.reduceBNe, Nat.reduceBEq, beq_self_eq_true, bne_self_eq_false] | with_reducible refine vcond_split (fun _ => ?_) (fun _ => ?_) | with_reducible refine vg_split (fun _ => ?_) (fun _ => ?_) | ((with_reducible apply DCalls.frz); (focus exact rfl); (focus exact rfl)) | ((with_reducible refine And.intro ?_ ?_); (focus (first | omega | decide | assumption | (simp only [decide_eq_true_eq, decide_eq_false_iff_not] at *; omega)))))
  refine swp_first tabOK hmix ?_
  repeat' (first | simp (maxSteps := 1000000) only [*, go_sem, Nat.reduceLT, Nat.reduceLeDiff, Nat.reduceEqDiff, ↓reduceIte, Nat.reduceAdd, Nat.reduceSub, Nat.reduceMul, Int.reduceLT, Int.reduceLE, Int.reduceAdd, Int.reduceSub, Int.reduceMul, Int.reduceNeg, Int.reduceToNat, Int.reduceEq, Int.reduceBEq, Int.reduceBNe, Nat.reduceBEq, beq_self_eq_true, bne_self_eq_false] | with_reducible refine vcond_split (fun _ => ?_) (fun _ => ?_) | with_reducible refine vg_split (fun _ => ?_) (fun _ => ?_) | ((with_reducible apply DCalls.frz); (focus exact rfl); (focus exact rfl)) | ((with_reducible refine And.intro ?_ ?_); (focus (first | omega | decide | assumption | (simp only [decide_eq_true_eq, decide_eq_false_iff_not] at *; omega)))))
  refine swp_first tabOK hmix ?_
  repeat' (first | simp (maxSteps := 1000000) only [*, go_sem, Nat.reduceLT, Nat.reduceLeDiff, Nat.reduceEqDiff, ↓reduceIte, Nat.reduceAdd, Nat.reduceSub, Nat.reduceMul, Int.reduceLT, Int.reduceLE, Int.reduceAdd, Int.reduceSub, Int.reduceMul, Int.reduceNeg, Int.reduceToNat, Int.reduceEq, Int.reduceBEq, Int.reduceBNe, Nat.reduceBEq, beq_self_eq_true, bne_self_eq_false] | ((with_reducible refine useN (hp) ?_ ?_ ?_); (focus exact rfl); (focus exact fun _ => rfl)) | with_reducible refine vcond_split (fun _ => ?_) (fun _ => ?_) | with_reducible refine vg_split (fun _ => ?_) (fun _ => ?_) | ((with_reducible apply DCalls.frz); (focus exact rfl); (focus exact rfl)) | ((with_reducible refine And.intro ?_ ?_); (focus (first | omega | decide | assumption | (simp only [decide_eq_true_eq, decide_eq_false_iff_not] at *; omega)))))
  refine swp_first tabOK hmix ?_
  repeat' (first | simp (maxSteps := 1000000) only [*, go_sem, Nat.reduceLT, Nat.reduceLeDiff, Nat.reduceEqDiff, ↓reduceIte, Nat.reduceAdd, Nat.reduceSub, Nat.reduceMul, Int.reduceLT, Int.reduceLE, Int.reduceAdd, Int.reduceSub, Int.reduceMul, Int.reduceNeg, Int.reduceToNat, Int.reduceEq, Int.reduceBEq, Int.reduceBNe, Nat.reduceBEq, beq_self_eq_true, bne_self_eq_false] | with_reducible refine vcond_split (fun _ => ?_) (fun _ => ?_) | with_reducible refine vg_split (fun _ => ?_) (fun _ => ?_) | ((with_reducible apply DCalls.frz); (focus exact rfl); (focus exact rfl)) | ((with_reducible refine And.intro ?_ ?_); (focus (first | omega | decide | assumption | (simp only [decide_eq_true_eq, decide_eq_false_iff_not] at *; omega)))))
  refine swp_join tabOK hmix (α := Unit) (fun _ => ⟨186, [(0, .c (.p (.sl 5 (encT b)))), (1, .c (.p (.sl 5 (encT o)))), (2, .c (.p (.sl 5 (encT t)))), (8, .c (.p (.sl 5 (encT (mgIs b o t ps))))), (9, .c (.own 1 0 (mgCs b o t ps).length)), (11, .c (.p (.sl 1 (Go.Dm.encS ((mgCs b o t ps).map Cf.p)))))],
      [.arr 1 [[.sl 5 (encT b)], [.sl 5 (encT o)], [.sl 5 (encT t)]] true, .arr 2 (encF (mgCs b o t ps)) false]⟩) (fun _ => True) ?_ ?_
  · repeat' (first | simp (maxSteps := 1000000) only [*, go_sem, Nat.reduceLT, Nat.reduceLeDiff, Nat.reduceEqDiff, ↓reduceIte, Nat.reduceAdd, Nat.reduceSub, Nat.reduceMul, Int.reduceLT, Int.reduceLE, Int.reduceAdd, Int.reduceSub, Int.reduceMul, Int.reduceNeg, Int.reduceToNat, Int.reduceEq, Int.reduceBEq, Int.reduceBNe, Nat.reduceBEq, beq_self_eq_true, bne_self_eq_false] | with_reducible refine vcond_split (fun _ => ?_) (fun _ => ?_) | with_reducible refine vg_split (fun _ => ?_) (fun _ => ?_) | ((with_reducible apply DCalls.frz); (focus exact rfl); (focus exact rfl)) | ((with_reducible refine And.intro ?_ ?_); (focus (first | omega | decide | assumption | (simp only [decide_eq_true_eq, decide_eq_false_iff_not] at *; omega)))))
    refine vc_virt tabOK hmix 9 2 rfl ?_
    refine vc_virt tabOK hmix 8 5 rfl ?_
    refine vc_virt tabOK hmix 11 1 rfl ?_
    refine loop_renS (α := Nat × List It × List Cf) (fun x => ⟨186, [(0, .c (.p (.sl 5 (encT b)))), (1, .c (.p (.sl 5 (encT o)))), (2, .c (.p (.sl 5 (encT t)))), (10, .c (.p (.sl 1 (Go.Dm.encS ps)))), (12, .c (.p (.i .i64 x.1))), (9, .c (.own 1 0 x.2.2.length)), (8, .c (.own 2 0 x.2.1.length)), (11, .c (.own 3 0 x.2.2.length))],
        [.arr 1 [[.sl 5 (encT b)], [.sl 5 (encT o)], [.sl 5 (encT t)]] true, .arr 2 (encF x.2.2) false, .arr 5 (encT x.2.1) false, .arr 1 (Go.Dm.encS (x.2.2.map Cf.p)) false]⟩)
      (fun x => x.1 ≤ ps.length ∧ x.2.1.length ≤ x.1 ∧ x.2.2.length ≤ x.1 ∧ x.2.1 ++ mgIs b o t (ps.drop x.1) = mgIs b o t ps ∧ x.2.2 ++ mgCs b o t (ps.drop x.1) = mgCs b o t ps) (fun x => ps.length - x.1) (0, [], []) ⟨Nat.zero_le _, Nat.le_refl _, Nat.le_refl _, rfl, rfl⟩ (.inl (weak_mk (by first | rfl | (rw [hX]; rfl)) rfl rfl (by simp [wk_cons, wk_nil, look_cons, closedD, closedC, renT, renD, renC, encT_nil, encS_nil, encC_nil]))) ?_
    clear hp hd1 hd2 p1 p2 hor hrl hopl
    rintro ⟨k, out, bad⟩ ⟨hk, hol, hbl, hJ, hK⟩
    simp only at hk hol hbl hJ hK
    have hsl : (bad.map Cf.p).length = bad.length := List.length_map _
    by_cases hlt : k < ps.length
    · have hx : ps[k]? = some ps[k] := List.getElem?_eq_getElem hlt
      have hd := drop_at hx
      have hg := Go.Dm.encS_at hx
      have h1 : decide ((k : Int) < (ps.length : Int)) = true := decide_eq_true (by omega)
      have hli : (k : Int) < (ps.length : Int) := by omega
      have hk0 : (0 : Int) ≤ k := by omega
      have w1 : IntKind.i64.wrap ((k : Int) + 1) = k + 1 := wrap_i64 (by omega) (by omega)
      generalize ps[k] = p at hx hg hd
      have g1 := getR_c (t := b) (p := p) (by omega)
      have g2 := getR_c (t := o) (p := p) (by omega)
      have g3 := getR_c (t := t) (p := p) (by omega)
      rw [hd] at hJ hK
      have eJ : mgIs b o t (p :: ps.drop (k + 1)) = mgI b o t p ++ mgIs b o t (ps.drop (k + 1)) := rfl
      have eK : mgCs b o t (p :: ps.drop (k + 1)) = mgC b o t p ++ mgCs b o t (ps.drop (k + 1)) := rfl
      rw [eJ] at hJ
      rw [eK] at hK
      unfold mgI at hJ
      unfold mgC at hK
      unfold mgN at hJ hK
      have hnc := nodeR_c (k := ((getR b p).getD nd0).k) (m := ((getR b p).getD nd0).m) (t := ((getR b p).getD nd0).t) (d := ((getR b p).getD nd0).d) (k1 := ((getR o p).getD nd0).k) (m1 := ((getR o p).getD nd0).m) (t1 := ((getR o p).getD nd0).t) (d1 := ((getR o p).getD nd0).d) (k2 := ((getR t p).getD nd0).k) (m2 := ((getR t p).getD nd0).m) (t2 := ((getR t p).getD nd0).t) (d2 := ((getR t p).getD nd0).d) (getR b p).isSome (getR o p).isSome (getR t p).isSome
      simp only [nd_eta] at hnc
      have hlaw := node_law2 (hb.gett p) (ho.gett p) (ht.gett p) (getR b p).isSome (getR o p).isSome (getR t p).isSome
      generalize (getR b p).getD nd0 = x at g1 hnc hJ hK hlaw
      generalize (getR b p).isSome = u at g1 hnc hJ hK hlaw
      generalize (getR o p).getD nd0 = y at g2 hnc hJ hK hlaw
      generalize (getR o p).isSome = v at g2 hnc hJ hK hlaw
      generalize (getR t p).getD nd0 = z at g3 hnc hJ hK hlaw
      generalize (getR t p).isSome = w at g3 hnc hJ hK hlaw
      generalize nodeR x y z u v w = N' at hnc hlaw
      generalize nodeM x y z u v w = N at hlaw hJ hK
      obtain ⟨n, ok, kk⟩ := N
      obtain ⟨n', ok', kk'⟩ := N'
      simp only at hnc hJ hK hlaw
      obtain ⟨rfl, rfl, hnn⟩ := hlaw
      clear hx hd eJ eK
      have n1 : (kk' != 0) = !(kk' == 0) := rfl
      cases hq : (kk' == 0)
      · rw [n1, hq, if_pos (by decide)] at hJ hK
        rw [hq] at n1
        rw [List.nil_append] at hJ
        have hJ2 : k + 1 ≤ ps.length ∧ out.length ≤ k + 1 ∧ (bad ++ [(⟨p, kk'⟩ : Cf)]).length ≤ k + 1 ∧ out ++ mgIs b o t (ps.drop (k + 1)) = mgIs b o t ps ∧ (bad ++ [(⟨p, kk'⟩ : Cf)]) ++ mgCs b o t (ps.drop (k + 1)) = mgCs b o t ps := ⟨by omega, by omega, by simp; omega, hJ, by simpa using hK⟩
        have hmp : (bad ++ [(⟨p, kk'⟩ : Cf)]).map Cf.p = bad.map Cf.p ++ [p] := by simp
        clear hJ hK hq hnn
        generalize bad.map Cf.p = sk at hsl hmp
        refine swp_first tabOK hmix ?_
        repeat' (first | simp (maxSteps := 1000000) only [*, go_sem, Nat.reduceLT, Nat.reduceLeDiff, Nat.reduceEqDiff, ↓reduceIte, Nat.reduceAdd, Nat.reduceSub, Nat.reduceMul, Int.reduceLT, Int.reduceLE, Int.reduceAdd, Int.reduceSub, Int.reduceMul, Int.reduceNeg, Int.reduceToNat, Int.reduceEq, Int.reduceBEq, Int.reduceBNe, Nat.reduceBEq, beq_self_eq_true, bne_self_eq_false] | with_reducible refine vcond_split (fun _ => ?_) (fun _ => ?_) | with_reducible refine vg_split (fun _ => ?_) (fun _ => ?_) | ((with_reducible apply DCalls.frz); (focus exact rfl); (focus exact rfl)) | ((with_reducible refine And.intro ?_ ?_); (focus (first | omega | decide | assumption | (simp only [decide_eq_true_eq, decide_eq_false_iff_not] at *; omega)))))
        refine swp_seq_block ?_
        refine swp_vc tabOK hmix ?_
        repeat' (first | simp (maxSteps := 1000000) only [*, go_sem, Nat.reduceLT, Nat.reduceLeDiff, Nat.reduceEqDiff, ↓reduceIte, Nat.reduceAdd, Nat.reduceSub, Nat.reduceMul, Int.reduceLT, Int.reduceLE, Int.reduceAdd, Int.reduceSub, Int.reduceMul, Int.reduceNeg, Int.reduceToNat, Int.reduceEq, Int.reduceBEq, Int.reduceBNe, Nat.reduceBEq, beq_self_eq_true, bne_self_eq_false, Bool.not_false, Bool.not_true] | ((with_reducible refine useN (g1) ?_ ?_ ?_); (focus exact rfl); (focus exact fun _ => rfl)) | ((with_reducible refine useN (g2) ?_ ?_ ?_); (focus exact rfl); (focus exact fun _ => rfl)) | ((with_reducible refine useN (g3) ?_ ?_ ?_); (focus exact rfl); (focus exact fun _ => rfl)) | ((with_reducible refine useN (hnc) ?_ ?_ ?_); (focus exact rfl); (focus exact fun _ => rfl)) | with_reducible refine vcond_split (fun _ => ?_) (fun _ => ?_) | with_reducible refine vg_split (fun _ => ?_) (fun _ => ?_) | ((with_reducible apply DCalls.frz); (focus exact rfl); (focus exact rfl)) | ((with_reducible refine And.intro ?_ ?_); (focus (first | omega | decide | assumption | (simp only [decide_eq_true_eq, decide_eq_false_iff_not] at *; omega)))))
        refine swp_ren 1 9 (by first | rfl | (rw [hX]; rfl)) rfl ?_
        refine swp_vc tabOK hmix ?_
        repeat' (first | simp (maxSteps := 1000000) only [*, go_sem, Nat.reduceLT, Nat.reduceLeDiff, Nat.reduceEqDiff, ↓reduceIte, Nat.reduceAdd, Nat.reduceSub, Nat.reduceMul, Int.reduceLT, Int.reduceLE, Int.reduceAdd, Int.reduceSub, Int.reduceMul, Int.reduceNeg, Int.reduceToNat, Int.reduceEq, Int.reduceBEq, Int.reduceBNe, Nat.reduceBEq, beq_self_eq_true, bne_self_eq_false] | with_reducible refine vcond_split (fun _ => ?_) (fun _ => ?_) | with_reducible refine vg_split (fun _ => ?_) (fun _ => ?_) | ((with_reducible apply DCalls.frz); (focus exact rfl); (focus exact rfl)) | ((with_reducible refine And.intro ?_ ?_); (focus (first | omega | decide | assumption | (simp only [decide_eq_true_eq, decide_eq_false_iff_not] at *; omega)))))
        exact qr_ren (k + 1, out, bad ++ [⟨p, kk'⟩]) 3 11 hJ2 (by simp only; omega) (by first | rfl | (rw [hX]; rfl)) rfl (weak_mk (by first | rfl | (rw [hX]; rfl)) (by simp only [hmp]; rfl) rfl (by simp [wk_cons, wk_nil, look_cons, closedD, closedC, renT, renD, renC, encT_nil, encS_nil, encC_nil]))
      · rw [n1, hq, if_neg (by decide)] at hJ hK
        rw [hq] at n1
        rw [List.nil_append] at hK
        cases ok'
        · rw [if_neg (by decide), List.nil_append] at hJ
          have hJ2 : k + 1 ≤ ps.length ∧ out.length ≤ k + 1 ∧ bad.length ≤ k + 1 ∧ out ++ mgIs b o t (ps.drop (k + 1)) = mgIs b o t ps ∧ bad ++ mgCs b o t (ps.drop (k + 1)) = mgCs b o t ps := ⟨by omega, by omega, by omega, hJ, hK⟩
          clear hJ hK hq hnn
          refine swp_first tabOK hmix ?_
          repeat' (first | simp (maxSteps := 1000000) only [*, go_sem, Nat.reduceLT, Nat.reduceLeDiff, Nat.reduceEqDiff, ↓reduceIte, Nat.reduceAdd, Nat.reduceSub, Nat.reduceMul, Int.reduceLT, Int.reduceLE, Int.reduceAdd, Int.reduceSub, Int.reduceMul, Int.reduceNeg, Int.reduceToNat, Int.reduceEq, Int.reduceBEq, Int.reduceBNe, Nat.reduceBEq, beq_self_eq_true, bne_self_eq_false] | with_reducible refine vcond_split (fun _ => ?_) (fun _ => ?_) | with_reducible refine vg_split (fun _ => ?_) (fun _ => ?_) | ((with_reducible apply DCalls.frz); (focus exact rfl); (focus exact rfl)) | ((with_reducible refine And.intro ?_ ?_); (focus (first | omega | decide | assumption | (simp only [decide_eq_true_eq, decide_eq_false_iff_not] at *; omega)))))
          refine swp_seq_block ?_
          refine swp_vc tabOK hmix ?_
          repeat' (first | simp (maxSteps := 1000000) only [*, go_sem, Nat.reduceLT, Nat.reduceLeDiff, Nat.reduceEqDiff, ↓reduceIte, Nat.reduceAdd, Nat.reduceSub, Nat.reduceMul, Int.reduceLT, Int.reduceLE, Int.reduceAdd, Int.reduceSub, Int.reduceMul, Int.reduceNeg, Int.reduceToNat, Int.reduceEq, Int.reduceBEq, Int.reduceBNe, Nat.reduceBEq, beq_self_eq_true, bne_self_eq_false, Bool.not_false, Bool.not_true] | ((with_reducible refine useN (g1) ?_ ?_ ?_); (focus exact rfl); (focus exact fun _ => rfl)) | ((with_reducible refine useN (g2) ?_ ?_ ?_); (focus exact rfl); (focus exact fun _ => rfl)) | ((with_reducible refine useN (g3) ?_ ?_ ?_); (focus exact rfl); (focus exact fun _ => rfl)) | ((with_reducible refine useN (hnc) ?_ ?_ ?_); (focus exact rfl); (focus exact fun _ => rfl)) | with_reducible refine vcond_split (fun _ => ?_) (fun _ => ?_) | with_reducible refine vg_split (fun _ => ?_) (fun _ => ?_) | ((with_reducible apply DCalls.frz); (focus exact rfl); (focus exact rfl)) | ((with_reducible refine And.intro ?_ ?_); (focus (first | omega | decide | assumption | (simp only [decide_eq_true_eq, decide_eq_false_iff_not] at *; omega)))))
          refine swp_vc tabOK hmix ?_
          repeat' (first | simp (maxSteps := 1000000) only [*, go_sem, Nat.reduceLT, Nat.reduceLeDiff, Nat.reduceEqDiff, ↓reduceIte, Nat.reduceAdd, Nat.reduceSub, Nat.reduceMul, Int.reduceLT, Int.reduceLE, Int.reduceAdd, Int.reduceSub, Int.reduceMul, Int.reduceNeg, Int.reduceToNat, Int.reduceEq, Int.reduceBEq, Int.reduceBNe, Nat.reduceBEq, beq_self_eq_true, bne_self_eq_false] | with_reducible refine vcond_split (fun _ => ?_) (fun _ => ?_) | with_reducible refine vg_split (fun _ => ?_) (fun _ => ?_) | ((with_reducible apply DCalls.frz); (focus exact rfl); (focus exact rfl)) | ((with_reducible refine And.intro ?_ ?_); (focus (first | omega | decide | assumption | (simp only [decide_eq_true_eq, decide_eq_false_iff_not] at *; omega)))))
          exact qr_n (k + 1, out, bad) hJ2 (by simp only; omega) (weak_mk (by first | rfl | (rw [hX]; rfl)) rfl rfl (by simp [wk_cons, wk_nil, look_cons, closedD, closedC, renT, renD, renC, encT_nil, encS_nil, encC_nil]))
        · rw [if_pos rfl] at hJ
          rw [← hnn rfl] at hJ
          have hJ2 : k + 1 ≤ ps.length ∧ (out ++ [(⟨p, n'⟩ : It)]).length ≤ k + 1 ∧ bad.length ≤ k + 1 ∧ (out ++ [(⟨p, n'⟩ : It)]) ++ mgIs b o t (ps.drop (k + 1)) = mgIs b o t ps ∧ bad ++ mgCs b o t (ps.drop (k + 1)) = mgCs b o t ps := ⟨by omega, by simp; omega, by omega, by simpa using hJ, hK⟩
          clear hJ hK hq hnn
          refine swp_first tabOK hmix ?_
          repeat' (first | simp (maxSteps := 1000000) only [*, go_sem, Nat.reduceLT, Nat.reduceLeDiff, Nat.reduceEqDiff, ↓reduceIte, Nat.reduceAdd, Nat.reduceSub, Nat.reduceMul, Int.reduceLT, Int.reduceLE, Int.reduceAdd, Int.reduceSub, Int.reduceMul, Int.reduceNeg, Int.reduceToNat, Int.reduceEq, Int.reduceBEq, Int.reduceBNe, Nat.reduceBEq, beq_self_eq_true, bne_self_eq_false] | with_reducible refine vcond_split (fun _ => ?_) (fun _ => ?_) | with_reducible refine vg_split (fun _ => ?_) (fun _ => ?_) | ((with_reducible apply DCalls.frz); (focus exact rfl); (focus exact rfl)) | ((with_reducible refine And.intro ?_ ?_); (focus (first | omega | decide | assumption | (simp only [decide_eq_true_eq, decide_eq_false_iff_not] at *; omega)))))
          refine swp_seq_block ?_
          refine swp_vc tabOK hmix ?_
          repeat' (first | simp (maxSteps := 1000000) only [*, go_sem, Nat.reduceLT, Nat.reduceLeDiff, Nat.reduceEqDiff, ↓reduceIte, Nat.reduceAdd, Nat.reduceSub, Nat.reduceMul, Int.reduceLT, Int.reduceLE, Int.reduceAdd, Int.reduceSub, Int.reduceMul, Int.reduceNeg, Int.reduceToNat, Int.reduceEq, Int.reduceBEq, Int.reduceBNe, Nat.reduceBEq, beq_self_eq_true, bne_self_eq_false, Bool.not_false, Bool.not_true] | ((with_reducible refine useN (g1) ?_ ?_ ?_); (focus exact rfl); (focus exact fun _ => rfl)) | ((with_reducible refine useN (g2) ?_ ?_ ?_); (focus exact rfl); (focus exact fun _ => rfl)) | ((with_reducible refine useN (g3) ?_ ?_ ?_); (focus exact rfl); (focus exact fun _ => rfl)) | ((with_reducible refine useN (hnc) ?_ ?_ ?_); (focus exact rfl); (focus exact fun _ => rfl)) | ((refine vc_drawn (id := 16) tabOK hmix [7,8] [1,2,3,4,5,6,7,0,8,9] (by decide +kernel) ?_); (repeat' (first | (refine ds_nil ?_) | ((refine ds_chg ?_ ?_ rfl rfl rfl ?_ ?_); (rotate_left 2); (focus ((repeat' (first | simp (maxSteps := 1000000) only [*, go_sem, Nat.reduceLT, Nat.reduceLeDiff, Nat.reduceEqDiff, ↓reduceIte, Nat.reduceAdd, Nat.reduceSub, Nat.reduceMul, Int.reduceLT, Int.reduceLE, Int.reduceAdd, Int.reduceSub, Int.reduceMul, Int.reduceNeg, Int.reduceToNat, Int.reduceEq, Int.reduceBEq, Int.reduceBNe, Nat.reduceBEq, beq_self_eq_true, bne_self_eq_false, Bool.not_false, Bool.not_true] | ((with_reducible refine useN (g1) ?_ ?_ ?_); (focus exact rfl); (focus exact fun _ => rfl)) | ((with_reducible refine useN (g2) ?_ ?_ ?_); (focus exact rfl); (focus exact fun _ => rfl)) | ((with_reducible refine useN (g3) ?_ ?_ ?_); (focus exact rfl); (focus exact fun _ => rfl)) | ((with_reducible refine useN (hnc) ?_ ?_ ?_); (focus exact rfl); (focus exact fun _ => rfl)) | with_reducible refine vcond_split (fun _ => ?_) (fun _ => ?_) | with_reducible refine vg_split (fun _ => ?_) (fun _ => ?_) | ((with_reducible apply DCalls.frz); (focus exact rfl); (focus exact rfl)) | ((with_reducible refine And.intro ?_ ?_); (focus (first | omega | decide | assumption | (simp only [decide_eq_true_eq, decide_eq_false_iff_not] at *; omega)))))); (first | exact rfl | (refine And.intro ?_ ?_ <;> exact rfl)))); (simp only [putF_some, putF_none])) | ((refine ds_all ?_ rfl rfl rfl ?_ ?_); (rotate_left 1); (focus ((repeat' (first | exact allH_nil | refine allH_cons ?_ ?_)); (all_goals ((repeat' (first | simp (maxSteps := 1000000) only [*, go_sem, Nat.reduceLT, Nat.reduceLeDiff, Nat.reduceEqDiff, ↓reduceIte, Nat.reduceAdd, Nat.reduceSub, Nat.reduceMul, Int.reduceLT, Int.reduceLE, Int.reduceAdd, Int.reduceSub, Int.reduceMul, Int.reduceNeg, Int.reduceToNat, Int.reduceEq, Int.reduceBEq, Int.reduceBNe, Nat.reduceBEq, beq_self_eq_true, bne_self_eq_false, Bool.not_false, Bool.not_true] | ((with_reducible refine useN (g1) ?_ ?_ ?_); (focus exact rfl); (focus exact fun _ => rfl)) | ((with_reducible refine useN (g2) ?_ ?_ ?_); (focus exact rfl); (focus exact fun _ => rfl)) | ((with_reducible refine useN (g3) ?_ ?_ ?_); (focus exact rfl); (focus exact fun _ => rfl)) | ((with_reducible refine useN (hnc) ?_ ?_ ?_); (focus exact rfl); (focus exact fun _ => rfl)) | with_reducible refine vcond_split (fun _ => ?_) (fun _ => ?_) | with_reducible refine vg_split (fun _ => ?_) (fun _ => ?_) | ((with_reducible apply DCalls.frz); (focus exact rfl); (focus exact rfl)) | ((with_reducible refine And.intro ?_ ?_); (focus (first | omega | decide | assumption | (simp only [decide_eq_true_eq, decide_eq_false_iff_not] at *; omega)))))); (try (first | exact rfl | omega)))))); (simp only [putF_some, putF_none]))))) | with_reducible refine vcond_split (fun _ => ?_) (fun _ => ?_) | with_reducible refine vg_split (fun _ => ?_) (fun _ => ?_) | ((with_reducible apply DCalls.frz); (focus exact rfl); (focus exact rfl)) | ((with_reducible refine And.intro ?_ ?_); (focus (first | omega | decide | assumption | (simp only [decide_eq_true_eq, decide_eq_false_iff_not] at *; omega)))))
          refine swp_vc tabOK hmix ?_
          repeat' (first | simp (maxSteps := 1000000) only [*, go_sem, Nat.reduceLT, Nat.reduceLeDiff, Nat.reduceEqDiff, ↓reduceIte, Nat.reduceAdd, Nat.reduceSub, Nat.reduceMul, Int.reduceLT, Int.reduceLE, Int.reduceAdd, Int.reduceSub, Int.reduceMul, Int.reduceNeg, Int.reduceToNat, Int.reduceEq, Int.reduceBEq, Int.reduceBNe, Nat.reduceBEq, beq_self_eq_true, bne_self_eq_false] | with_reducible refine vcond_split (fun _ => ?_) (fun _ => ?_) | with_reducible refine vg_split (fun _ => ?_) (fun _ => ?_) | ((with_reducible apply DCalls.frz); (focus exact rfl); (focus exact rfl)) | ((with_reducible refine And.intro ?_ ?_); (focus (first | omega | decide | assumption | (simp only [decide_eq_true_eq, decide_eq_false_iff_not] at *; omega)))))
          exact qr_ren (k + 1, out ++ [⟨p, n'⟩], bad) 2 9 hJ2 (by simp only; omega) (by first | rfl | (rw [hX]; rfl)) rfl (weak_mk (by first | rfl | (rw [hX]; rfl)) rfl rfl (by simp [wk_cons, wk_nil, look_cons, closedD, closedC, renT, renD, renC, encT_nil, encS_nil, encC_nil]))
    · have h1 : decide ((k : Int) < (ps.length : Int)) = false := decide_eq_false (by omega)
      rw [List.drop_of_length_le (by omega)] at hJ hK
      have eJ : out = mgIs b o t ps := by rw [← hJ]; simp [mgIs]
      have eK : bad = mgCs b o t ps := by rw [← hK]; simp [mgCs]
      clear hJ hK
      rw [← eJ, ← eK]
      clear eJ eK
      refine swp_first tabOK hmix ?_
      repeat' (first | simp (maxSteps := 1000000) only [*, go_sem, Nat.reduceLT, Nat.reduceLeDiff, Nat.reduceEqDiff, ↓reduceIte, Nat.reduceAdd, Nat.reduceSub, Nat.reduceMul, Int.reduceLT, Int.reduceLE, Int.reduceAdd, Int.reduceSub, Int.reduceMul, Int.reduceNeg, Int.reduceToNat, Int.reduceEq, Int.reduceBEq, Int.reduceBNe, Nat.reduceBEq, beq_self_eq_true, bne_self_eq_false] | with_reducible refine vcond_split (fun _ => ?_) (fun _ => ?_) | with_reducible refine vg_split (fun _ => ?_) (fun _ => ?_) | ((with_reducible apply DCalls.frz); (focus exact rfl); (focus exact rfl)) | ((with_reducible refine And.intro ?_ ?_); (focus (first | omega | decide | assumption | (simp only [decide_eq_true_eq, decide_eq_false_iff_not] at *; omega)))))
      exact qj_data2 () 8 2 0 out.length 11 3 0 bad.length trivial rfl (pvOf_row rfl (by rw [encT_len])) rfl (pvOf_row rfl (by rw [Go.Dm.encS_len, hsl])) (weak_mk (by first | rfl | (rw [hX]; rfl)) rfl rfl (by simp [wk_cons, wk_nil, look_cons, closedD, closedC, renT, renD, renC, encT_nil, encS_nil, encC_nil]))
  rintro - -
  have hoq : ∀ x ∈ mgIs b o t ps, x.p.length ≤ 4611686018427387904 := fun x hx => Nat.le_trans (hopl x hx) (by decide)
  clear hp hopl
  generalize hO : mgIs b o t ps = out at *
  generalize hC : mgCs b o t ps = bad at *
  clear hO hC
  refine swp_first tabOK hmix ?_
  repeat' (first | simp (maxSteps := 1000000) only [*, go_sem, Nat.reduceLT, Nat.reduceLeDiff, Nat.reduceEqDiff, ↓reduceIte, Nat.reduceAdd, Nat.reduceSub, Nat.reduceMul, Int.reduceLT, Int.reduceLE, Int.reduceAdd, Int.reduceSub, Int.reduceMul, Int.reduceNeg, Int.reduceToNat, Int.reduceEq, Int.reduceBEq, Int.reduceBNe, Nat.reduceBEq, beq_self_eq_true, bne_self_eq_false] | ((with_reducible refine useN (hd1) ?_ ?_ ?_); (focus exact rfl); (focus exact fun _ => rfl)) | ((with_reducible refine useN (p1) ?_ ?_ ?_); (focus exact rfl); (focus exact fun _ => rfl)) | with_reducible refine vcond_split (fun _ => ?_) (fun _ => ?_) | with_reducible refine vg_split (fun _ => ?_) (fun _ => ?_) | ((with_reducible apply DCalls.frz); (focus exact rfl); (focus exact rfl)) | ((with_reducible refine And.intro ?_ ?_); (focus (first | omega | decide | assumption | (simp only [decide_eq_true_eq, decide_eq_false_iff_not] at *; omega)))))
  refine swp_first tabOK hmix ?_
  repeat' (first | simp (maxSteps := 1000000) only [*, go_sem, Nat.reduceLT, Nat.reduceLeDiff, Nat.reduceEqDiff, ↓reduceIte, Nat.reduceAdd, Nat.reduceSub, Nat.reduceMul, Int.reduceLT, Int.reduceLE, Int.reduceAdd, Int.reduceSub, Int.reduceMul, Int.reduceNeg, Int.reduceToNat, Int.reduceEq, Int.reduceBEq, Int.reduceBNe, Nat.reduceBEq, beq_self_eq_true, bne_self_eq_false] | ((with_reducible refine useN (hd2) ?_ ?_ ?_); (focus exact rfl); (focus exact fun _ => rfl)) | ((with_reducible refine useN (p2) ?_ ?_ ?_); (focus exact rfl); (focus exact fun _ => rfl)) | with_reducible refine vcond_split (fun _ => ?_) (fun _ => ?_) | with_reducible refine vg_split (fun _ => ?_) (fun _ => ?_) | ((with_reducible apply DCalls.frz); (focus exact rfl); (focus exact rfl)) | ((with_reducible refine And.intro ?_ ?_); (focus (first | omega | decide | assumption | (simp only [decide_eq_true_eq, decide_eq_false_iff_not] at *; omega)))))
  clear hd1 hd2 p1 p2
  obtain ⟨bd1, hb1⟩ : ∃ bd1 : List Cf, bd1 = bad ++ renamedF A B := ⟨_, rfl⟩
  have hB1 := PLift.up hb1
  have hbl1 : bd1.length ≤ 1000 := by rw [hb1, List.length_append]; omega
  clear hb1
  refine swp_join tabOK hmix (α := Unit) (fun _ => ⟨186, [(8, .c (.p (.sl 5 (encT out)))), (9, .c (.own 1 0 bd1.length)), (11, .c (.p (.sl 1 (Go.Dm.encS (bad.map Cf.p)))))],
      [.arr 1 [[.sl 5 (encT b)], [.sl 5 (encT o)], [.sl 5 (encT t)]] true, .arr 2 (encF bd1) false]⟩) (fun _ => True) ?_ ?_
  · repeat' (first | simp (maxSteps := 1000000) only [*, go_sem, Nat.reduceLT, Nat.reduceLeDiff, Nat.reduceEqDiff, ↓reduceIte, Nat.reduceAdd, Nat.reduceSub, Nat.reduceMul, Int.reduceLT, Int.reduceLE, Int.reduceAdd, Int.reduceSub, Int.reduceMul, Int.reduceNeg, Int.reduceToNat, Int.reduceEq, Int.reduceBEq, Int.reduceBNe, Nat.reduceBEq, beq_self_eq_true, bne_self_eq_false] | with_reducible refine vcond_split (fun _ => ?_) (fun _ => ?_) | with_reducible refine vg_split (fun _ => ?_) (fun _ => ?_) | ((with_reducible apply DCalls.frz); (focus exact rfl); (focus exact rfl)) | ((with_reducible refine And.intro ?_ ?_); (focus (first | omega | decide | assumption | (simp only [decide_eq_true_eq, decide_eq_false_iff_not] at *; omega)))))
    refine loop_ren tabOK hmix (α := Nat × List Cf) (fun x => ⟨186, [(8, .c (.p (.sl 5 (encT out)))), (11, .c (.p (.sl 1 (Go.Dm.encS (bad.map Cf.p))))), (22, .c (.p (.sl 2 (encP A)))), (23, .c (.p (.sl 2 (encP B)))), (24, .c (.p (.i .i64 x.1))), (9, .c (.own 1 0 x.2.length))],
        [.arr 1 [[.sl 5 (encT b)], [.sl 5 (encT o)], [.sl 5 (encT t)]] true, .arr 2 (encF x.2) false]⟩)
      (fun x => x.1 ≤ A.length ∧ x.2.length ≤ bad.length + x.1 ∧ x.2 ++ (A.drop x.1).flatMap (renF B) = bd1) (fun x => A.length - x.1) (0, bad) ⟨Nat.zero_le _, by simp, hB1.down.symm⟩ (.inl (weak_mk (by first | rfl | (rw [hX]; rfl)) rfl rfl (by simp [wk_cons, wk_nil, look_cons, closedD, closedC, renT, renD, renC, encT_nil, encS_nil, encC_nil]))) ?_
    rintro ⟨i, bd⟩ ⟨hi, hol, hJ⟩
    simp only at hi hol hJ
    by_cases hlt : i < A.length
    · have hx : A[i]? = some A[i] := List.getElem?_eq_getElem hlt
      have hg := encP_at hx
      have hd := drop_at hx
      have h1 : decide ((i : Int) < (A.length : Int)) = true := decide_eq_true (by omega)
      have hli : (i : Int) < (A.length : Int) := by omega
      have hi0 : (0 : Int) ≤ i := by omega
      have w1 : IntKind.i64.wrap ((i : Int) + 1) = i + 1 := wrap_i64 (by omega) (by omega)
      generalize A[i] = x at hx hg hd
      have hto := refTo_c (l := B) (p := x.a) (by omega)
      rw [hd, List.flatMap_cons, renF] at hJ
      clear hx hd
      have hob : bd.length ≤ 1000000 := by omega
      cases htx : toF B x.a with
      | none =>
        rw [htx] at hto hJ
        simp only [Option.getD_none, Option.isSome_none, List.nil_append] at hto hJ
        have hJ2 : i + 1 ≤ A.length ∧ bd.length ≤ bad.length + (i + 1) ∧ bd ++ (A.drop (i + 1)).flatMap (renF B) = bd1 := ⟨by omega, by omega, hJ⟩
        clear hJ htx
        repeat' (first | simp (maxSteps := 1000000) only [*, go_sem, Nat.reduceLT, Nat.reduceLeDiff, Nat.reduceEqDiff, ↓reduceIte, Nat.reduceAdd, Nat.reduceSub, Nat.reduceMul, Int.reduceLT, Int.reduceLE, Int.reduceAdd, Int.reduceSub, Int.reduceMul, Int.reduceNeg, Int.reduceToNat, Int.reduceEq, Int.reduceBEq, Int.reduceBNe, Nat.reduceBEq, beq_self_eq_true, bne_self_eq_false] | ((with_reducible refine useF (hto) ?_ ?_ ?_); (focus exact rfl); (focus exact rfl)) | with_reducible refine vcond_split (fun _ => ?_) (fun _ => ?_) | with_reducible refine vg_split (fun _ => ?_) (fun _ => ?_) | ((with_reducible apply DCalls.frz); (focus exact rfl); (focus exact rfl)) | ((with_reducible refine And.intro ?_ ?_); (focus (first | omega | decide | assumption | (simp only [decide_eq_true_eq, decide_eq_false_iff_not] at *; omega)))))
        exact qr_n (i + 1, bd) hJ2 (by simp only; omega) (weak_mk (by first | rfl | (rw [hX]; rfl)) rfl rfl (by simp [wk_cons, wk_nil, look_cons, closedD, closedC, renT, renD, renC, encT_nil, encS_nil, encC_nil]))
      | some q =>
        rw [htx] at hto hJ
        simp only [Option.getD_some, Option.isSome_some] at hto hJ
        have n1 : (q != x.b) = !(q == x.b) := rfl
        rw [n1] at hJ
        clear htx
        cases hq : (q == x.b)
        · rw [hq, if_pos (by decide)] at hJ
          rw [hq] at n1
          have hJ2 : i + 1 ≤ A.length ∧ (bd ++ [(⟨x.a, 6⟩ : Cf)]).length ≤ bad.length + (i + 1) ∧ (bd ++ [(⟨x.a, 6⟩ : Cf)]) ++ (A.drop (i + 1)).flatMap (renF B) = bd1 := ⟨by omega, by simp; omega, by simpa using hJ⟩
          clear hJ
          repeat' (first | simp (maxSteps := 1000000) only [*, go_sem, Nat.reduceLT, Nat.reduceLeDiff, Nat.reduceEqDiff, ↓reduceIte, Nat.reduceAdd, Nat.reduceSub, Nat.reduceMul, Int.reduceLT, Int.reduceLE, Int.reduceAdd, Int.reduceSub, Int.reduceMul, Int.reduceNeg, Int.reduceToNat, Int.reduceEq, Int.reduceBEq, Int.reduceBNe, Nat.reduceBEq, beq_self_eq_true, bne_self_eq_false, Bool.not_false, Bool.not_true] | ((with_reducible refine useF (hto) ?_ ?_ ?_); (focus exact rfl); (focus exact rfl)) | with_reducible refine vcond_split (fun _ => ?_) (fun _ => ?_) | with_reducible refine vg_split (fun _ => ?_) (fun _ => ?_) | ((with_reducible apply DCalls.frz); (focus exact rfl); (focus exact rfl)) | ((with_reducible refine And.intro ?_ ?_); (focus (first | omega | decide | assumption | (simp only [decide_eq_true_eq, decide_eq_false_iff_not] at *; omega)))))
          exact qr_ren (i + 1, bd ++ [⟨x.a, 6⟩]) 1 3 hJ2 (by simp only; omega) (by first | rfl | (rw [hX]; rfl)) rfl (weak_mk (by first | rfl | (rw [hX]; rfl)) rfl rfl (by simp [wk_cons, wk_nil, look_cons, closedD, closedC, renT, renD, renC, encT_nil, encS_nil, encC_nil]))
        · rw [hq, if_neg (by decide), List.nil_append] at hJ
          rw [hq] at n1
          have hJ2 : i + 1 ≤ A.length ∧ bd.length ≤ bad.length + (i + 1) ∧ bd ++ (A.drop (i + 1)).flatMap (renF B) = bd1 := ⟨by omega, by omega, hJ⟩
          clear hJ
          repeat' (first | simp (maxSteps := 1000000) only [*, go_sem, Nat.reduceLT, Nat.reduceLeDiff, Nat.reduceEqDiff, ↓reduceIte, Nat.reduceAdd, Nat.reduceSub, Nat.reduceMul, Int.reduceLT, Int.reduceLE, Int.reduceAdd, Int.reduceSub, Int.reduceMul, Int.reduceNeg, Int.reduceToNat, Int.reduceEq, Int.reduceBEq, Int.reduceBNe, Nat.reduceBEq, beq_self_eq_true, bne_self_eq_false, Bool.not_false, Bool.not_true] | ((with_reducible refine useF (hto) ?_ ?_ ?_); (focus exact rfl); (focus exact rfl)) | with_reducible refine vcond_split (fun _ => ?_) (fun _ => ?_) | with_reducible refine vg_split (fun _ => ?_) (fun _ => ?_) | ((with_reducible apply DCalls.frz); (focus exact rfl); (focus exact rfl)) | ((with_reducible refine And.intro ?_ ?_); (focus (first | omega | decide | assumption | (simp only [decide_eq_true_eq, decide_eq_false_iff_not] at *; omega)))))
          exact qr_n (i + 1, bd) hJ2 (by simp only; omega) (weak_mk (by first | rfl | (rw [hX]; rfl)) rfl rfl (by simp [wk_cons, wk_nil, look_cons, closedD, closedC, renT, renD, renC, encT_nil, encS_nil, encC_nil]))
    · have h1 : decide ((i : Int) < (A.length : Int)) = false := decide_eq_false (by omega)
      rw [List.drop_of_length_le (by omega), List.flatMap_nil, List.append_nil] at hJ
      rw [← hJ]
      clear hJ
      repeat' (first | simp (maxSteps := 1000000) only [*, go_sem, Nat.reduceLT, Nat.reduceLeDiff, Nat.reduceEqDiff, ↓reduceIte, Nat.reduceAdd, Nat.reduceSub, Nat.reduceMul, Int.reduceLT, Int.reduceLE, Int.reduceAdd, Int.reduceSub, Int.reduceMul, Int.reduceNeg, Int.reduceToNat, Int.reduceEq, Int.reduceBEq, Int.reduceBNe, Nat.reduceBEq, beq_self_eq_true, bne_self_eq_false] | with_reducible refine vcond_split (fun _ => ?_) (fun _ => ?_) | with_reducible refine vg_split (fun _ => ?_) (fun _ => ?_) | ((with_reducible apply DCalls.frz); (focus exact rfl); (focus exact rfl)) | ((with_reducible refine And.intro ?_ ?_); (focus (first | omega | decide | assumption | (simp only [decide_eq_true_eq, decide_eq_false_iff_not] at *; omega)))))
      exact qj_n () trivial (weak_mk (by first | rfl | (rw [hX]; rfl)) rfl rfl (by simp [wk_cons, wk_nil, look_cons, closedD, closedC, renT, renD, renC, encT_nil, encS_nil, encC_nil]))
  rintro - -
  obtain ⟨bd2, hb2⟩ : ∃ bd2 : List Cf, bd2 = bd1 ++ orphansF out bad := ⟨_, rfl⟩
  have hB2 := PLift.up hb2
  have hbl2 : bd2.length ≤ 2000 := by rw [hb2, List.length_append]; omega
  clear hb2
  refine swp_join tabOK hmix (α := Unit) (fun _ => ⟨186, [(8, .c (.p (.sl 5 (encT out)))), (9, .c (.own 1 0 bd2.length))],
      [.arr 1 [[.sl 5 (encT b)], [.sl 5 (encT o)], [.sl 5 (encT t)]] true, .arr 2 (encF bd2) false]⟩) (fun _ => True) ?_ ?_
  · repeat' (first | simp (maxSteps := 1000000) only [*, go_sem, Nat.reduceLT, Nat.reduceLeDiff, Nat.reduceEqDiff, ↓reduceIte, Nat.reduceAdd, Nat.reduceSub, Nat.reduceMul, Int.reduceLT, Int.reduceLE, Int.reduceAdd, Int.reduceSub, Int.reduceMul, Int.reduceNeg, Int.reduceToNat, Int.reduceEq, Int.reduceBEq, Int.reduceBNe, Nat.reduceBEq, beq_self_eq_true, bne_self_eq_false] | with_reducible refine vcond_split (fun _ => ?_) (fun _ => ?_) | with_reducible refine vg_split (fun _ => ?_) (fun _ => ?_) | ((with_reducible apply DCalls.frz); (focus exact rfl); (focus exact rfl)) | ((with_reducible refine And.intro ?_ ?_); (focus (first | omega | decide | assumption | (simp only [decide_eq_true_eq, decide_eq_false_iff_not] at *; omega)))))
    refine loop_ren tabOK hmix (α := Nat × List Cf) (fun x => ⟨186, [(8, .c (.p (.sl 5 (encT out)))), (11, .c (.p (.sl 1 (Go.Dm.encS (bad.map Cf.p))))), (27, .c (.p (.i .i64 x.1))), (9, .c (.own 1 0 x.2.length))],
        [.arr 1 [[.sl 5 (encT b)], [.sl 5 (encT o)], [.sl 5 (encT t)]] true, .arr 2 (encF x.2) false]⟩)
      (fun x => x.1 ≤ out.length ∧ x.2.length ≤ bd1.length + x.1 ∧ x.2 ++ (out.drop x.1).flatMap (orphF out bad) = bd2) (fun x => out.length - x.1) (0, bd1) ⟨Nat.zero_le _, by simp, hB2.down.symm⟩ (.inl (weak_mk (by first | rfl | (rw [hX]; rfl)) rfl rfl (by simp [wk_cons, wk_nil, look_cons, closedD, closedC, renT, renD, renC, encT_nil, encS_nil, encC_nil]))) ?_
    rintro ⟨i, bd⟩ ⟨hi, hol, hJ⟩
    simp only at hi hol hJ
    by_cases hlt : i < out.length
    · have hx : out[i]? = some out[i] := List.getElem?_eq_getElem hlt
      have hg := encT_at hx
      have hd := drop_at hx
      have h1 : decide ((i : Int) < (out.length : Int)) = true := decide_eq_true (by omega)
      have hli : (i : Int) < (out.length : Int) := by omega
      have hi0 : (0 : Int) ≤ i := by omega
      have w1 : IntKind.i64.wrap ((i : Int) + 1) = i + 1 := wrap_i64 (by omega) (by omega)
      have hxp := hoq _ (List.getElem_mem hlt)
      generalize out[i] = x at hx hg hd hxp
      have hdr := dirOfR_c (p := x.p) hxp
      have hdi := isDirR_c (t := out) (p := dirOfR x.p) (by omega)
      have hin := refIn_c (l := bad.map Cf.p) (s := dirOfR x.p) (by rw [List.length_map]; omega)
      rw [stuck_any] at hin
      rw [hd, List.flatMap_cons, orphF] at hJ
      generalize dirOfR x.p = d at hdr hdi hin hJ
      generalize (bad.any fun c => c.p == d) = b2 at hin hJ
      generalize isDirR out d = b1 at hdi hJ
      clear hx hd
      have hob : bd.length ≤ 1000000 := by omega
      cases b1 <;> cases b2
      case false.false =>
        rw [if_pos (by decide)] at hJ
        have hJ2 : i + 1 ≤ out.length ∧ (bd ++ [(⟨x.p, 7⟩ : Cf)]).length ≤ bd1.length + (i + 1) ∧ (bd ++ [(⟨x.p, 7⟩ : Cf)]) ++ (out.drop (i + 1)).flatMap (orphF out bad) = bd2 := ⟨by omega, by simp; omega, by simpa using hJ⟩
        clear hJ
        repeat' (first | simp (maxSteps := 1000000) only [*, go_sem, Nat.reduceLT, Nat.reduceLeDiff, Nat.reduceEqDiff, ↓reduceIte, Nat.reduceAdd, Nat.reduceSub, Nat.reduceMul, Int.reduceLT, Int.reduceLE, Int.reduceAdd, Int.reduceSub, Int.reduceMul, Int.reduceNeg, Int.reduceToNat, Int.reduceEq, Int.reduceBEq, Int.reduceBNe, Nat.reduceBEq, beq_self_eq_true, bne_self_eq_false, Bool.not_true, Bool.not_false] | ((with_reducible refine useF (hdr) ?_ ?_ ?_); (focus exact rfl); (focus exact rfl)) | ((with_reducible refine useF (hdi) ?_ ?_ ?_); (focus exact rfl); (focus exact rfl)) | ((with_reducible refine useF (hin) ?_ ?_ ?_); (focus exact rfl); (focus exact rfl)) | with_reducible refine vcond_split (fun _ => ?_) (fun _ => ?_) | with_reducible refine vg_split (fun _ => ?_) (fun _ => ?_) | ((with_reducible apply DCalls.frz); (focus exact rfl); (focus exact rfl)) | ((with_reducible refine And.intro ?_ ?_); (focus (first | omega | decide | assumption | (simp only [decide_eq_true_eq, decide_eq_false_iff_not] at *; omega)))))
        exact qr_ren (i + 1, bd ++ [⟨x.p, 7⟩]) 1 3 hJ2 (by simp only; omega) (by first | rfl | (rw [hX]; rfl)) rfl (weak_mk (by first | rfl | (rw [hX]; rfl)) rfl rfl (by simp [wk_cons, wk_nil, look_cons, closedD, closedC, renT, renD, renC, encT_nil, encS_nil, encC_nil]))
      all_goals
        rw [if_neg (by decide), List.nil_append] at hJ
        have hJ2 : i + 1 ≤ out.length ∧ bd.length ≤ bd1.length + (i + 1) ∧ bd ++ (out.drop (i + 1)).flatMap (orphF out bad) = bd2 := ⟨by omega, by omega, hJ⟩
        clear hJ
        repeat' (first | simp (maxSteps := 1000000) only [*, go_sem, Nat.reduceLT, Nat.reduceLeDiff, Nat.reduceEqDiff, ↓reduceIte, Nat.reduceAdd, Nat.reduceSub, Nat.reduceMul, Int.reduceLT, Int.reduceLE, Int.reduceAdd, Int.reduceSub, Int.reduceMul, Int.reduceNeg, Int.reduceToNat, Int.reduceEq, Int.reduceBEq, Int.reduceBNe, Nat.reduceBEq, beq_self_eq_true, bne_self_eq_false, Bool.not_true, Bool.not_false] | ((with_reducible refine useF (hdr) ?_ ?_ ?_); (focus exact rfl); (focus exact rfl)) | ((with_reducible refine useF (hdi) ?_ ?_ ?_); (focus exact rfl); (focus exact rfl)) | ((with_reducible refine useF (hin) ?_ ?_ ?_); (focus exact rfl); (focus exact rfl)) | with_reducible refine vcond_split (fun _ => ?_) (fun _ => ?_) | with_reducible refine vg_split (fun _ => ?_) (fun _ => ?_) | ((with_reducible apply DCalls.frz); (focus exact rfl); (focus exact rfl)) | ((with_reducible refine And.intro ?_ ?_); (focus (first | omega | decide | assumption | (simp only [decide_eq_true_eq, decide_eq_false_iff_not] at *; omega)))))
        exact qr_n (i + 1, bd) hJ2 (by simp only; omega) (weak_mk (by first | rfl | (rw [hX]; rfl)) rfl rfl (by simp [wk_cons, wk_nil, look_cons, closedD, closedC, renT, renD, renC, encT_nil, encS_nil, encC_nil]))
    · have h1 : decide ((i : Int) < (out.length : Int)) = false := decide_eq_false (by omega)
      rw [List.drop_of_length_le (by omega), List.flatMap_nil, List.append_nil] at hJ
      rw [← hJ]
      clear hJ
      repeat' (first | simp (maxSteps := 1000000) only [*, go_sem, Nat.reduceLT, Nat.reduceLeDiff, Nat.reduceEqDiff, ↓reduceIte, Nat.reduceAdd, Nat.reduceSub, Nat.reduceMul, Int.reduceLT, Int.reduceLE, Int.reduceAdd, Int.reduceSub, Int.reduceMul, Int.reduceNeg, Int.reduceToNat, Int.reduceEq, Int.reduceBEq, Int.reduceBNe, Nat.reduceBEq, beq_self_eq_true, bne_self_eq_false] | with_reducible refine vcond_split (fun _ => ?_) (fun _ => ?_) | with_reducible refine vg_split (fun _ => ?_) (fun _ => ?_) | ((with_reducible apply DCalls.frz); (focus exact rfl); (focus exact rfl)) | ((with_reducible refine And.intro ?_ ?_); (focus (first | omega | decide | assumption | (simp only [decide_eq_true_eq, decide_eq_false_iff_not] at *; omega)))))
      exact qj_n () trivial (weak_mk (by first | rfl | (rw [hX]; rfl)) rfl rfl (by simp [wk_cons, wk_nil, look_cons, closedD, closedC, renT, renD, renC, encT_nil, encS_nil, encC_nil]))
  rintro - -
  refine swp_vc tabOK hmix ?_
  have hall : bad ++ (renamedF A B ++ orphansF out bad) = bd2 := by rw [hB2.down, hB1.down, List.append_assoc]
  rw [hall]
  have hor2 := refOrder_c (l := bd2) (by omega)
  have hsl := sortC_len bd2
  clear hall hB1 hB2 hbl1 hbl2
  generalize bd2 = all at *
  by_cases h0 : all.length = 0
  · have hb0 : decide ((0 : Int) < (all.length : Int)) = false := decide_eq_false (by omega)
    have hq0 : ((sortC all).length == 0) = true := by rw [hsl, h0]; rfl
    rw [hq0, if_pos rfl]
    clear hsl h0
    simp only
    repeat' (first | simp (maxSteps := 1000000) only [*, go_sem, Nat.reduceLT, Nat.reduceLeDiff, Nat.reduceEqDiff, ↓reduceIte, Nat.reduceAdd, Nat.reduceSub, Nat.reduceMul, Int.reduceLT, Int.reduceLE, Int.reduceAdd, Int.reduceSub, Int.reduceMul, Int.reduceNeg, Int.reduceToNat, Int.reduceEq, Int.reduceBEq, Int.reduceBNe, Nat.reduceBEq, beq_self_eq_true, bne_self_eq_false] | ((with_reducible refine useN (hor2) ?_ ?_ ?_); (focus exact rfl); (focus exact fun _ => rfl)) | with_reducible refine vcond_split (fun _ => ?_) (fun _ => ?_) | with_reducible refine vg_split (fun _ => ?_) (fun _ => ?_) | ((with_reducible apply DCalls.frz); (focus exact rfl); (focus exact rfl)) | ((with_reducible refine And.intro ?_ ?_); (focus (first | omega | decide | assumption | (simp only [decide_eq_true_eq, decide_eq_false_iff_not] at *; omega)))))
    all_goals first | (simp; done) | trace_state
  · have hb0 : decide ((0 : Int) < (all.length : Int)) = true := decide_eq_true (by omega)
    have hq0 : ((sortC all).length == 0) = false := by rw [hsl]; simpa using h0
    rw [hq0, if_neg (by decide)]
    clear hsl h0
    simp only
    repeat' (first | simp (maxSteps := 1000000) only [*, go_sem, Nat.reduceLT, Nat.reduceLeDiff, Nat.reduceEqDiff, ↓reduceIte, Nat.reduceAdd, Nat.reduceSub, Nat.reduceMul, Int.reduceLT, Int.reduceLE, Int.reduceAdd, Int.reduceSub, Int.reduceMul, Int.reduceNeg, Int.reduceToNat, Int.reduceEq, Int.reduceBEq, Int.reduceBNe, Nat.reduceBEq, beq_self_eq_true, bne_self_eq_false] | ((with_reducible refine useN (hor2) ?_ ?_ ?_); (focus exact rfl); (focus exact fun _ => rfl)) | with_reducible refine vcond_split (fun _ => ?_) (fun _ => ?_) | with_reducible refine vg_split (fun _ => ?_) (fun _ => ?_) | ((with_reducible apply DCalls.frz); (focus exact rfl); (focus exact rfl)) | ((with_reducible refine And.intro ?_ ?_); (focus (first | omega | decide | assumption | (simp only [decide_eq_true_eq, decide_eq_false_iff_not] at *; omega)))))
    all_goals first | (simp; done) | trace_state

end Go.Proofs.YtjanmkknbijecaaGreatDoor

end
