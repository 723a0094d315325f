/-
  Contracts: pairs of files that went and came.
-/
import Derived.Test.YtjanmkknbijecaaGreatDoorM1
import Derived.Test.YtjanmkknbijecaaGreatDoorJ1
import Derived.Test.YtjanmkknbijecaaGreatDoorSM
import Derived.Test.YtjanmkknbijecaaGreatDoorVE
set_option linter.unusedSimpArgs false
set_option linter.unusedVariables false
namespace Go.Proofs.YtjanmkknbijecaaGreatDoor
open Go Go.Dm
set_option maxRecDepth 100000
set_option maxHeartbeats 4000000

theorem takenL_c {l : List Pr} {p : List UInt8} (hl : l.length ≤ 1000000) : DCalls Tryz.prog 158 [.c (.own 0 0 l.length), .c (.p (.s p))] [.arr 2 (encP l) false] fun r h => r = .c (.p (.b (takenF l p))) ∧ h = [.arr 2 (encP l) false] := by
  refine ent tabOK hmix Tryz.func158 rfl rfl fun X0 hX => ?_
  simp only [Tryz.ntmps158, Tryz.f158, go_sem]
  repeat' (first | simp (maxSteps := 1000000) only [*, go_sem, Nat.reduceLT, Nat.reduceLeDiff, Nat.reduceEqDiff, ↓reduceIte, Nat.reduceAdd, Nat.reduceSub, Nat.reduceMul, Int.reduceLT, Int.reduceLE, Int.reduceAdd, Int.reduceSub, Int.reduceMul, Int.reduceNeg, Int.reduceToNat, Int.reduceEq, Int.reduceBEq, Int.reduceBNe, Nat.reduceBEq, beq_self_eq_true, bne_self_eq_false] | with_reducible refine vcond_split (fun _ => ?_) (fun _ => ?_) | with_reducible refine vg_split (fun _ => ?_) (fun _ => ?_) | ((with_reducible apply DCalls.frz); (focus exact rfl); (focus exact rfl)) | ((with_reducible refine And.intro ?_ ?_); (focus (first | omega | decide | assumption | (simp only [decide_eq_true_eq, decide_eq_false_iff_not] at *; omega)))))
  refine loop_ren tabOK hmix (α := Nat) (fun k => ⟨18, [(1, .c (.p (.s p))), (7, .c (.own 0 0 l.length)), (8, .c (.p (.i .i64 l.length))), (9, .c (.p (.i .i64 k)))], [.arr 2 (encP l) false]⟩)
    (fun k => k ≤ l.length ∧ takenF (l.drop k) p = takenF l p) (fun k => l.length - k) 0 ⟨Nat.zero_le _, rfl⟩ (.inl (weak_mk (by rw [hX]; rfl) rfl rfl (by simp [wk_cons, wk_nil, look_cons, closedD, closedC, encT_nil, encS_nil, encC_nil]))) ?_
  rintro k ⟨hk, hs⟩
  by_cases hlt : k < l.length
  · have hx : l[k]? = some l[k] := List.getElem?_eq_getElem hlt
    have hg := encP_at hx
    have hd := drop_at hx
    have h1 : decide ((k : Int) < (l.length : Int)) = true := decide_eq_true (by omega)
    have hli : (k : Int) < (l.length : Int) := by omega
    have hk0 : (0 : Int) ≤ k := by omega
    have w1 : IntKind.i64.wrap ((k : Int) + 1) = k + 1 := wrap_i64 (by omega) (by omega)
    generalize l[k] = x at hx hg hd
    rw [hd] at hs
    unfold takenF at hs
    rw [List.any_cons] at hs
    cases hb : (x.b == p)
    · rw [hb, Bool.false_or] at hs
      have hJ : k + 1 ≤ l.length ∧ takenF (l.drop (k + 1)) p = takenF l p := ⟨by omega, hs⟩
      clear hs hd hx
      repeat' (first | simp (maxSteps := 1000000) only [*, go_sem, Nat.reduceLT, Nat.reduceLeDiff, Nat.reduceEqDiff, ↓reduceIte, Nat.reduceAdd, Nat.reduceSub, Nat.reduceMul, Int.reduceLT, Int.reduceLE, Int.reduceAdd, Int.reduceSub, Int.reduceMul, Int.reduceNeg, Int.reduceToNat, Int.reduceEq, Int.reduceBEq, Int.reduceBNe, Nat.reduceBEq, beq_self_eq_true, bne_self_eq_false] | with_reducible refine vcond_split (fun _ => ?_) (fun _ => ?_) | with_reducible refine vg_split (fun _ => ?_) (fun _ => ?_) | ((with_reducible apply DCalls.frz); (focus exact rfl); (focus exact rfl)) | ((with_reducible refine And.intro ?_ ?_); (focus (first | omega | decide | assumption | (simp only [decide_eq_true_eq, decide_eq_false_iff_not] at *; omega)))))
      exact qr_n (k + 1) hJ (by omega) (weak_mk rfl rfl rfl (by simp [wk_cons, wk_nil, look_cons, closedD, closedC, renT, renD, renC, encT_nil, encS_nil, encC_nil]))
    · rw [hb, Bool.true_or] at hs
      have hJ : takenF l p = true := hs.symm
      rw [hJ]
      clear hs hd hx hJ
      repeat' (first | simp (maxSteps := 1000000) only [*, go_sem, Nat.reduceLT, Nat.reduceLeDiff, Nat.reduceEqDiff, ↓reduceIte, Nat.reduceAdd, Nat.reduceSub, Nat.reduceMul, Int.reduceLT, Int.reduceLE, Int.reduceAdd, Int.reduceSub, Int.reduceMul, Int.reduceNeg, Int.reduceToNat, Int.reduceEq, Int.reduceBEq, Int.reduceBNe, Nat.reduceBEq, beq_self_eq_true, bne_self_eq_false] | with_reducible refine vcond_split (fun _ => ?_) (fun _ => ?_) | with_reducible refine vg_split (fun _ => ?_) (fun _ => ?_) | ((with_reducible apply DCalls.frz); (focus exact rfl); (focus exact rfl)) | ((with_reducible refine And.intro ?_ ?_); (focus (first | omega | decide | assumption | (simp only [decide_eq_true_eq, decide_eq_false_iff_not] at *; omega)))))
  · have h1 : decide ((k : Int) < (l.length : Int)) = false := decide_eq_false (by omega)
    rw [List.drop_of_length_le (by omega)] at hs
    have hJ : takenF l p = false := hs.symm
    rw [hJ]
    clear hs hJ
    repeat' (first | simp (maxSteps := 1000000) only [*, go_sem, Nat.reduceLT, Nat.reduceLeDiff, Nat.reduceEqDiff, ↓reduceIte, Nat.reduceAdd, Nat.reduceSub, Nat.reduceMul, Int.reduceLT, Int.reduceLE, Int.reduceAdd, Int.reduceSub, Int.reduceMul, Int.reduceNeg, Int.reduceToNat, Int.reduceEq, Int.reduceBEq, Int.reduceBNe, Nat.reduceBEq, beq_self_eq_true, bne_self_eq_false] | with_reducible refine vcond_split (fun _ => ?_) (fun _ => ?_) | with_reducible refine vg_split (fun _ => ?_) (fun _ => ?_) | ((with_reducible apply DCalls.frz); (focus exact rfl); (focus exact rfl)) | ((with_reducible refine And.intro ?_ ?_); (focus (first | omega | decide | assumption | (simp only [decide_eq_true_eq, decide_eq_false_iff_not] at *; omega)))))

theorem taken_k {h : DHeap} {i n : Nat} {l : List Pr} {p : List UInt8} {K : DV → DHeap → Prop} (hl : l.length ≤ 1000000) (h0 : h[i]? = some (.arr 2 (encP l) false)) (hn : n = l.length) (hk : K (.c (.p (.b (takenF l p)))) h) :
    DCalls Tryz.prog 158 [.c (.own i 0 n), .c (.p (.s p))] h K := by
  subst hn
  exact DCalls.lent (i := i) [none, some (.s p)] (takenL_c hl) h0 rfl hk

theorem pairs_c {l : List Ch} (hl : l.length ≤ 1000000) (hp : ∀ x ∈ l, x.p.length ≤ 1000000000 ∧ x.o.t < 18446744073709551616 ∧ x.n.t < 18446744073709551616) :
    DCalls Tryz.prog 115 [.c (.p (.sl 10 (encC l)))] [] fun r h => r = .c (.p (.sl 2 (encP (pairsG l)))) ∧ h = [] := by
  refine dcalls_wk ?_
  have hr := diffRightG_c hl hp
  unfold pairsG
  clear hp
  cases hrc : rightCs l
  · rw [hrc] at hr
    refine ent tabOK hmix Tryz.func115 rfl rfl fun X0 hX => ?_
    simp only [Tryz.ntmps115, Tryz.f115, go_sem]
    repeat' (first | simp (maxSteps := 1000000) only [*, go_sem, Nat.reduceLT, Nat.reduceLeDiff, Nat.reduceEqDiff, ↓reduceIte, Nat.reduceAdd, Nat.reduceSub, Nat.reduceMul, Int.reduceLT, Int.reduceLE, Int.reduceAdd, Int.reduceSub, Int.reduceMul, Int.reduceNeg, Int.reduceToNat, Int.reduceEq, Int.reduceBEq, Int.reduceBNe, Nat.reduceBEq, beq_self_eq_true, bne_self_eq_false] | ((with_reducible refine useF (hr) ?_ ?_ ?_); (focus exact rfl); (focus exact rfl)) | with_reducible refine vcond_split (fun _ => ?_) (fun _ => ?_) | with_reducible refine vg_split (fun _ => ?_) (fun _ => ?_) | ((with_reducible apply DCalls.frz); (focus exact rfl); (focus exact rfl)) | ((with_reducible refine And.intro ?_ ?_); (focus (first | omega | decide | assumption | (simp only [decide_eq_true_eq, decide_eq_false_iff_not] at *; omega)))))
    all_goals first | rfl | simp
  · rw [hrc] at hr
    rw [if_pos rfl]
    refine ent tabOK hmix Tryz.func115 rfl rfl fun X0 hX => ?_
    simp only [Tryz.ntmps115, Tryz.f115, go_sem]
    repeat' (first | simp (maxSteps := 1000000) only [*, go_sem, Nat.reduceLT, Nat.reduceLeDiff, Nat.reduceEqDiff, ↓reduceIte, Nat.reduceAdd, Nat.reduceSub, Nat.reduceMul, Int.reduceLT, Int.reduceLE, Int.reduceAdd, Int.reduceSub, Int.reduceMul, Int.reduceNeg, Int.reduceToNat, Int.reduceEq, Int.reduceBEq, Int.reduceBNe, Nat.reduceBEq, beq_self_eq_true, bne_self_eq_false] | ((with_reducible refine useF (hr) ?_ ?_ ?_); (focus exact rfl); (focus exact rfl)) | with_reducible refine vcond_split (fun _ => ?_) (fun _ => ?_) | with_reducible refine vg_split (fun _ => ?_) (fun _ => ?_) | ((with_reducible apply DCalls.frz); (focus exact rfl); (focus exact rfl)) | ((with_reducible refine And.intro ?_ ?_); (focus (first | omega | decide | assumption | (simp only [decide_eq_true_eq, decide_eq_false_iff_not] at *; omega)))))
    refine vc_virt tabOK hmix 3 2 rfl ?_
    refine loop_ren tabOK hmix (α := Nat × List Pr) (fun x => ⟨68, [(0, .c (.p (.sl 10 (encC l)))), (11, .c (.p (.sl 10 (encC l)))), (12, .c (.p (.i .i64 l.length))), (13, .c (.p (.i .i64 x.1))), (3, .c (.own 0 0 x.2.length))], [.arr 2 (encP x.2) false]⟩)
      (fun x => x.1 ≤ l.length ∧ x.2.length ≤ x.1 ∧ (l.drop x.1).foldl (pairStep l) x.2 = pairsF l) (fun x => l.length - x.1) (0, []) ⟨Nat.zero_le _, Nat.le_refl _, rfl⟩ (.inl (weak_mk (by rw [hX]; rfl) rfl rfl (by simp [wk_cons, wk_nil, look_cons, closedD, closedC, encT_nil, encS_nil, encC_nil]))) ?_
    clear hr
    rintro ⟨i, out⟩ ⟨hi, hol, hJ⟩
    simp only at hi hol hJ
    by_cases hlt : i < l.length
    · have hx : l[i]? = some l[i] := List.getElem?_eq_getElem hlt
      have hg := encC_at hx
      have hd := drop_at hx
      have h1 : decide ((i : Int) < (l.length : Int)) = true := decide_eq_true (by omega)
      have hli : (i : Int) < (l.length : Int) := by omega
      have hi0 : (0 : Int) ≤ i := by omega
      have w1 : IntKind.i64.wrap ((i : Int) + 1) = i + 1 := wrap_i64 (by omega) (by omega)
      generalize l[i] = x at hx hg hd
      rw [hd, List.foldl_cons, pairStep] at hJ
      have n1 : (x.k != 2) = !(x.k == 2) := rfl
      have n2 : (x.o.k != 1) = !(x.o.k == 1) := rfl
      rw [n1, n2] at hJ
      clear hx hd
      cases q1 : (x.k == 2)
      · rw [q1] at hJ n1
        have hJ2 : i + 1 ≤ l.length ∧ out.length ≤ i + 1 ∧ (l.drop (i + 1)).foldl (pairStep l) out = pairsF l := ⟨by omega, by omega, by simpa using hJ⟩
        clear hJ
        repeat' (first | simp (maxSteps := 1000000) only [*, go_sem, Nat.reduceLT, Nat.reduceLeDiff, Nat.reduceEqDiff, ↓reduceIte, Nat.reduceAdd, Nat.reduceSub, Nat.reduceMul, Int.reduceLT, Int.reduceLE, Int.reduceAdd, Int.reduceSub, Int.reduceMul, Int.reduceNeg, Int.reduceToNat, Int.reduceEq, Int.reduceBEq, Int.reduceBNe, Nat.reduceBEq, beq_self_eq_true, bne_self_eq_false, Bool.not_false] | with_reducible refine vcond_split (fun _ => ?_) (fun _ => ?_) | with_reducible refine vg_split (fun _ => ?_) (fun _ => ?_) | ((with_reducible apply DCalls.frz); (focus exact rfl); (focus exact rfl)) | ((with_reducible refine And.intro ?_ ?_); (focus (first | omega | decide | assumption | (simp only [decide_eq_true_eq, decide_eq_false_iff_not] at *; omega)))))
        exact qr_n (i + 1, out) hJ2 (by simp only; omega) (weak_mk rfl rfl rfl (by simp [wk_cons, wk_nil, look_cons, closedD, closedC, renT, renD, renC, encT_nil, encS_nil, encC_nil]))
      · cases q2 : (x.o.k == 1)
        · rw [q1, q2] at hJ
          rw [q1] at n1
          rw [q2] at n2
          have hJ2 : i + 1 ≤ l.length ∧ out.length ≤ i + 1 ∧ (l.drop (i + 1)).foldl (pairStep l) out = pairsF l := ⟨by omega, by omega, by simpa using hJ⟩
          clear hJ
          repeat' (first | simp (maxSteps := 1000000) only [*, go_sem, Nat.reduceLT, Nat.reduceLeDiff, Nat.reduceEqDiff, ↓reduceIte, Nat.reduceAdd, Nat.reduceSub, Nat.reduceMul, Int.reduceLT, Int.reduceLE, Int.reduceAdd, Int.reduceSub, Int.reduceMul, Int.reduceNeg, Int.reduceToNat, Int.reduceEq, Int.reduceBEq, Int.reduceBNe, Nat.reduceBEq, beq_self_eq_true, bne_self_eq_false, Bool.not_false, Bool.not_true] | with_reducible refine vcond_split (fun _ => ?_) (fun _ => ?_) | with_reducible refine vg_split (fun _ => ?_) (fun _ => ?_) | ((with_reducible apply DCalls.frz); (focus exact rfl); (focus exact rfl)) | ((with_reducible refine And.intro ?_ ?_); (focus (first | omega | decide | assumption | (simp only [decide_eq_true_eq, decide_eq_false_iff_not] at *; omega)))))
          exact qr_n (i + 1, out) hJ2 (by simp only; omega) (weak_mk rfl rfl rfl (by simp [wk_cons, wk_nil, look_cons, closedD, closedC, renT, renD, renC, encT_nil, encS_nil, encC_nil]))
        · rw [q1, q2, Bool.not_true, Bool.or_false, if_neg (by decide)] at hJ
          rw [q1] at n1
          rw [q2] at n2
          have hJ2 := PLift.up hJ
          clear hJ
          repeat' (first | simp (maxSteps := 1000000) only [*, go_sem, Nat.reduceLT, Nat.reduceLeDiff, Nat.reduceEqDiff, ↓reduceIte, Nat.reduceAdd, Nat.reduceSub, Nat.reduceMul, Int.reduceLT, Int.reduceLE, Int.reduceAdd, Int.reduceSub, Int.reduceMul, Int.reduceNeg, Int.reduceToNat, Int.reduceEq, Int.reduceBEq, Int.reduceBNe, Nat.reduceBEq, beq_self_eq_true, bne_self_eq_false, Bool.not_false, Bool.not_true] | with_reducible refine vcond_split (fun _ => ?_) (fun _ => ?_) | with_reducible refine vg_split (fun _ => ?_) (fun _ => ?_) | ((with_reducible apply DCalls.frz); (focus exact rfl); (focus exact rfl)) | ((with_reducible refine And.intro ?_ ?_); (focus (first | omega | decide | assumption | (simp only [decide_eq_true_eq, decide_eq_false_iff_not] at *; omega)))))
          refine loop_ren tabOK hmix (α := Nat) (fun k => ⟨68, [(0, .c (.p (.sl 10 (encC l)))), (11, .c (.p (.sl 10 (encC l)))), (12, .c (.p (.i .i64 l.length))), (13, .c (.p (.i .i64 i))), (3, .c (.own 0 0 out.length)), (5, .c (.ptr 1 0)), (26, .c (.p (.sl 10 (encC l)))), (27, .c (.p (.i .i64 l.length))), (28, .c (.p (.i .i64 k)))],
              [.arr 2 (encP out) false, .box [.p (.s x.p), .p (.i .i64 x.k), .p (.i .i64 x.o.k), .p (.i .i64 x.o.m), .p (.f x.o.t), .p (.sl 1 (encB x.o.d)), .p (.i .i64 x.n.k), .p (.i .i64 x.n.m), .p (.f x.n.t), .p (.sl 1 (encB x.n.d))]]⟩)
            (fun k => k ≤ l.length ∧ pickTo x.o.d out (l.drop k) = pickTo x.o.d out l) (fun k => l.length - k) 0 ⟨Nat.zero_le _, rfl⟩ (.inl (weak_mk (by rw [hX]; rfl) rfl rfl (by simp [wk_cons, wk_nil, look_cons, closedD, closedC, closedK, closedB]))) ?_
          rintro k ⟨hk, hs⟩
          by_cases hkl : k < l.length
          · have hy : l[k]? = some l[k] := List.getElem?_eq_getElem hkl
            have hg2 := encC_at hy
            have hd2 := drop_at hy
            have h2 : decide ((k : Int) < (l.length : Int)) = true := decide_eq_true (by omega)
            have hli2 : (k : Int) < (l.length : Int) := by omega
            have hk0 : (0 : Int) ≤ k := by omega
            have w2 : IntKind.i64.wrap ((k : Int) + 1) = k + 1 := wrap_i64 (by omega) (by omega)
            generalize l[k] = y at hy hg2 hd2
            rw [hd2, pickTo] at hs
            clear hy hd2
            have hob : out.length ≤ 1000000 := by omega
            cases c1 : (y.k == 1) <;> cases c2 : (y.n.k == 1) <;> cases c3 : (x.o.d == y.n.d) <;> cases c4 : takenF out y.p
            all_goals rw [c1, c2, c3, c4] at hs
            case true.true.true.false =>
              rw [if_pos (by decide)] at hs
              have hJ3 := hJ2.down
              rw [← hs] at hJ3
              have hJ4 : i + 1 ≤ l.length ∧ (out ++ [(⟨x.p, y.p⟩ : Pr)]).length ≤ i + 1 ∧ (l.drop (i + 1)).foldl (pairStep l) (out ++ [(⟨x.p, y.p⟩ : Pr)]) = pairsF l := ⟨by omega, by simp; omega, hJ3⟩
              clear hs hJ2 hJ3
              repeat' (first | simp (maxSteps := 1000000) only [*, go_sem, Nat.reduceLT, Nat.reduceLeDiff, Nat.reduceEqDiff, ↓reduceIte, Nat.reduceAdd, Nat.reduceSub, Nat.reduceMul, Int.reduceLT, Int.reduceLE, Int.reduceAdd, Int.reduceSub, Int.reduceMul, Int.reduceNeg, Int.reduceToNat, Int.reduceEq, Int.reduceBEq, Int.reduceBNe, Nat.reduceBEq, beq_self_eq_true, bne_self_eq_false, Bool.not_false, Bool.not_true] | ((with_reducible refine useF (bytesEqual_c) ?_ ?_ ?_); (focus exact rfl); (focus exact rfl)) | refine taken_k hob rfl rfl ?_ | with_reducible refine vcond_split (fun _ => ?_) (fun _ => ?_) | with_reducible refine vg_split (fun _ => ?_) (fun _ => ?_) | ((with_reducible apply DCalls.frz); (focus exact rfl); (focus exact rfl)) | ((with_reducible refine And.intro ?_ ?_); (focus (first | omega | decide | assumption | (simp only [decide_eq_true_eq, decide_eq_false_iff_not] at *; omega)))))
              exact qr_ren (i + 1, out ++ [⟨x.p, y.p⟩]) 0 4 hJ4 (by simp only; omega) rfl rfl (weak_mk rfl rfl rfl (by simp [wk_cons, wk_nil, look_cons, closedD, closedC, renT, renD, renC, encT_nil, encS_nil, encC_nil]))
            all_goals
              rw [if_neg (by decide)] at hs
              have hs2 : k + 1 ≤ l.length ∧ pickTo x.o.d out (l.drop (k + 1)) = pickTo x.o.d out l := ⟨by omega, hs⟩
              clear hs hJ2
              repeat' (first | simp (maxSteps := 1000000) only [*, go_sem, Nat.reduceLT, Nat.reduceLeDiff, Nat.reduceEqDiff, ↓reduceIte, Nat.reduceAdd, Nat.reduceSub, Nat.reduceMul, Int.reduceLT, Int.reduceLE, Int.reduceAdd, Int.reduceSub, Int.reduceMul, Int.reduceNeg, Int.reduceToNat, Int.reduceEq, Int.reduceBEq, Int.reduceBNe, Nat.reduceBEq, beq_self_eq_true, bne_self_eq_false, Bool.not_false, Bool.not_true] | ((with_reducible refine useF (bytesEqual_c) ?_ ?_ ?_); (focus exact rfl); (focus exact rfl)) | refine taken_k hob rfl rfl ?_ | with_reducible refine vcond_split (fun _ => ?_) (fun _ => ?_) | with_reducible refine vg_split (fun _ => ?_) (fun _ => ?_) | ((with_reducible apply DCalls.frz); (focus exact rfl); (focus exact rfl)) | ((with_reducible refine And.intro ?_ ?_); (focus (first | omega | decide | assumption | (simp only [decide_eq_true_eq, decide_eq_false_iff_not] at *; omega)))))
              exact qr_n (k + 1) hs2 (by omega) (weak_mk rfl rfl rfl (by simp [wk_cons, wk_nil, look_cons, closedD, closedC, closedK, closedB]))
          · have h2 : decide ((k : Int) < (l.length : Int)) = false := decide_eq_false (by omega)
            rw [List.drop_of_length_le (by omega), pickTo] at hs
            have hJ3 := hJ2.down
            rw [← hs] at hJ3
            have hJ4 : i + 1 ≤ l.length ∧ out.length ≤ i + 1 ∧ (l.drop (i + 1)).foldl (pairStep l) out = pairsF l := ⟨by omega, by omega, hJ3⟩
            clear hs hJ2 hJ3
            repeat' (first | simp (maxSteps := 1000000) only [*, go_sem, Nat.reduceLT, Nat.reduceLeDiff, Nat.reduceEqDiff, ↓reduceIte, Nat.reduceAdd, Nat.reduceSub, Nat.reduceMul, Int.reduceLT, Int.reduceLE, Int.reduceAdd, Int.reduceSub, Int.reduceMul, Int.reduceNeg, Int.reduceToNat, Int.reduceEq, Int.reduceBEq, Int.reduceBNe, Nat.reduceBEq, beq_self_eq_true, bne_self_eq_false] | with_reducible refine vcond_split (fun _ => ?_) (fun _ => ?_) | with_reducible refine vg_split (fun _ => ?_) (fun _ => ?_) | ((with_reducible apply DCalls.frz); (focus exact rfl); (focus exact rfl)) | ((with_reducible refine And.intro ?_ ?_); (focus (first | omega | decide | assumption | (simp only [decide_eq_true_eq, decide_eq_false_iff_not] at *; omega)))))
            exact qr_n (i + 1, out) hJ4 (by simp only; omega) (weak_mk rfl rfl rfl (by simp [wk_cons, wk_nil, look_cons, closedD, closedC, renT, renD, renC, encT_nil, encS_nil, encC_nil]))
    · have h1 : decide ((i : Int) < (l.length : Int)) = false := decide_eq_false (by omega)
      rw [List.drop_of_length_le (by omega), List.foldl_nil] at hJ
      rw [← hJ]
      clear hJ
      repeat' (first | simp (maxSteps := 1000000) only [*, go_sem, Nat.reduceLT, Nat.reduceLeDiff, Nat.reduceEqDiff, ↓reduceIte, Nat.reduceAdd, Nat.reduceSub, Nat.reduceMul, Int.reduceLT, Int.reduceLE, Int.reduceAdd, Int.reduceSub, Int.reduceMul, Int.reduceNeg, Int.reduceToNat, Int.reduceEq, Int.reduceBEq, Int.reduceBNe, Nat.reduceBEq, beq_self_eq_true, bne_self_eq_false] | with_reducible refine vcond_split (fun _ => ?_) (fun _ => ?_) | with_reducible refine vg_split (fun _ => ?_) (fun _ => ?_) | ((with_reducible apply DCalls.frz); (focus exact rfl); (focus exact rfl)) | ((with_reducible refine And.intro ?_ ?_); (focus (first | omega | decide | assumption | (simp only [decide_eq_true_eq, decide_eq_false_iff_not] at *; omega)))))
      all_goals first | rfl | (rw [List.take_of_length_le (by simp)]) | simp

end Go.Proofs.YtjanmkknbijecaaGreatDoor
