/-
  Chapter 12's example, and refusals: the closed sentence, walked.
-/
import Derived.Test.YtfiopamaiolfhabGreatDoorN31
import Derived.Test.YtfiopamaiolfhabGreatDoorN33
import Derived.Test.YtfiopamaiolfhabGreatDoorN33L
import Derived.Test.YtfiopamaiolfhabGreatDoorN27
import Derived.Test.YtfiopamaiolfhabGreatDoorN8
import Derived.Test.YtfiopamaiolfhabGreatDoorVE
import Derived.Test.YtfiopamaiolfhabGreatDoorVM
import Derived.Test.YtfiopamaiolfhabGreatDoorLA
set_option linter.unusedSimpArgs false
set_option linter.unusedVariables false
namespace Go.Proofs.YtfiopamaiolfhabGreatDoor
open Go Go.Dm Go.Proofs
set_option maxRecDepth 100000
set_option maxHeartbeats 8000000

def u12 : List It := [it12 [100], it12 [100, 47, 97]]
def f12 : List It := [⟨[100], ⟨1, 0, 0, []⟩⟩]
theorem u12_ok : OkT u12 := ⟨⟨by decide +kernel, by
  intro x hx
  simp only [u12, List.mem_cons, List.not_mem_nil, or_false] at hx
  rcases hx with rfl | rfl <;> exact ⟨by decide, by decide +kernel, by decide +kernel, by decide⟩, by decide⟩, by
  intro x hx
  simp only [u12, List.mem_cons, List.not_mem_nil, or_false] at hx
  rcases hx with rfl | rfl <;> decide +kernel⟩
theorem f12_ok : OkT f12 := ⟨⟨by decide +kernel, by
  intro x hx
  simp only [f12, List.mem_cons, List.not_mem_nil, or_false] at hx
  rcases hx with rfl <;> exact ⟨by decide, by decide +kernel, by decide +kernel, by decide⟩, by decide⟩, by
  intro x hx
  simp only [f12, List.mem_cons, List.not_mem_nil, or_false] at hx
  rcases hx with rfl <;> decide +kernel⟩
theorem n12_ok : OkT ([] : List It) := ⟨⟨by decide +kernel, (fun x hx => by cases hx), by decide⟩, (fun x hx => by cases hx)⟩
def one12 : List En := [⟨[100, 47, 97], 2, false, nd0⟩]
def two12 : List En := [⟨[100], 1, false, ⟨1, 0, 0, []⟩⟩]
def thr12 : List En := [⟨[100], 2, false, nd0⟩]
def xy12 : List En := [⟨[120, 47, 121], 1, false, ⟨2, 493, 0, []⟩⟩]
def bad12 : List En := [⟨[97], 3, false, nd0⟩]
def bel12 : List En := [⟨[97], 2, false, nd0⟩, ⟨[97, 47, 98], 2, false, nd0⟩]
def opq12 : List En := [⟨[97], 1, true, ⟨1, 0, 0, []⟩⟩]
theorem make_one : makeF u12 w12 = one12 := by
  unfold makeF opqM opqB
  simp only [namesF_len]
  kernel_rfl
theorem make_two : makeF u12 f12 = two12 := by
  unfold makeF opqM opqB
  simp only [namesF_len]
  kernel_rfl
theorem make_thr : makeF u12 [] = thr12 := by
  unfold makeF opqM opqB
  simp only [namesF_len]
  kernel_rfl
theorem make_non : makeF w12 w12 = [] := by
  unfold makeF opqM opqB
  simp only [namesF_len]
  kernel_rfl
theorem xy12_ok : OkE xy12 := ⟨fun x hx => List.all_eq_true.1 (show xy12.all mayE = true by decide +kernel) x hx, by decide +kernel, by decide +kernel, by decide, by decide⟩
theorem ent_wk (p : List UInt8) (k : Int) (o : Bool) (a b : Int) : wkPs [.s p, .i .i64 k, .b o, .i .i64 a, .i .i64 b, .f 0, .nil] (En.cs ⟨p, k, o, ⟨a, b, 0, []⟩⟩) :=
  ⟨.inl rfl, .inl rfl, .inl rfl, .inl rfl, .inl rfl, .inl rfl, .inr ⟨rfl, 1, rfl⟩, True.intro⟩

theorem layerKnown_law : DCalls Tryz.prog 3 [] [] fun r h => r = .c (.p (.b true)) ∧ h = [] := by
  have q1 : wkRows [row12 [100], row12 [100, 47, 97]] (encT u12) := ⟨row12_wk _, row12_wk _, True.intro⟩
  have q2 : wkRows [row12 [100]] (encT w12) := ⟨row12_wk _, True.intro⟩
  have q3 : wkRows [[.s [100], .i .i64 1, .i .i64 0, .f 0, .nil]] (encT f12) := ⟨⟨.inl rfl, .inl rfl, .inl rfl, .inl rfl, .inr ⟨rfl, 1, rfl⟩, True.intro⟩, True.intro⟩
  have a1 := DCalls.wkR2 q1 q2 (layerMake_c u12_ok w12_ok)
  have a2 := DCalls.wkR2 q1 q3 (layerMake_c u12_ok f12_ok)
  have a3 := DCalls.wkA (args := [.c (.p (.sl 5 [row12 [100], row12 [100, 47, 97]])), .c (.p .nil)]) (args' := [.c (.p (.sl 5 [row12 [100], row12 [100, 47, 97]])), .c (.p (.sl 5 (encT [])))]) ⟨wkD_rfl, wkD_nil, trivial⟩ (DCalls.wkR2 q1 (wkRows_refl _) (layerMake_c u12_ok n12_ok))
  have a4 := DCalls.wkR2 q2 q2 (layerMake_c w12_ok w12_ok)
  have a5 := DCalls.wkR2 q1 (wkRows_refl _) (layerOver_c u12_ok (make_ok u12_ok n12_ok))
  have q6 : wkRows [[.s [120, 47, 121], .i .i64 1, .b false, .i .i64 2, .i .i64 493, .f 0, .nil]] (encE xy12) := ⟨ent_wk _ _ _ _ _, True.intro⟩
  have a6 := DCalls.wkA (args := [.c (.p .nil), .c (.p (.sl 7 [[.s [120, 47, 121], .i .i64 1, .b false, .i .i64 2, .i .i64 493, .f 0, .nil]]))]) (args' := [.c (.p (.sl 5 (encT []))), .c (.p (.sl 7 [[.s [120, 47, 121], .i .i64 1, .b false, .i .i64 2, .i .i64 493, .f 0, .nil]]))]) ⟨wkD_nil, wkD_rfl, trivial⟩ (DCalls.wkR2 (wkRows_refl _) q6 (layerOver_c n12_ok xy12_ok))
  rw [over_make u12_ok n12_ok] at a5
  simp only at a5
  rw [show (overF [] xy12).2 = false by decide +kernel] at a6
  generalize (overF [] xy12).1 = t6 at a6
  rw [make_one] at a1
  rw [make_two] at a2
  rw [make_thr] at a3 a5
  rw [make_non] at a4
  have hr1 : rightE one12 = true := by decide +kernel
  have b1 := layerLayO_c (l := one12) (by decide) (by decide) (by decide) hr1
  have hw1 : ∀ x ∈ one12, x.n.wf := by
    intro x hx
    simp only [one12, List.mem_cons, List.not_mem_nil, or_false] at hx
    subst hx
    exact nd0_plain.1
  have hA : (layEs one12).length ≤ 1000000 := by decide +kernel
  have b2 := layerReadL_c (z := layEs one12) (by omega)
  rw [readEs_lay hr1 hw1 (by decide)] at b2
  simp only at b2
  have b3 := layerRead_c (z := layEs one12 ++ [1]) (by rw [List.length_append]; simp only [List.length_cons, List.length_nil]; omega)
  rw [show (readEs (layEs one12 ++ [1])).2 = 2 by decide +kernel] at b3
  generalize (readEs (layEs one12 ++ [1])).1 = m3 at b3
  have p4 : wkRows [[.s [97], .i .i64 3, .b false, .i .i64 0, .i .i64 0, .f 0, .nil]] (encE bad12) := ⟨ent_wk _ _ _ _ _, True.intro⟩
  have b4 := DCalls.wkR1 p4 (layerLayN_c (l := bad12) (by decide) (by decide) (by decide) (by decide +kernel))
  have b5 := layerSame_c (a := one12) (b := one12) (by decide) (by decide)
  rw [sameEs_refl (fun x hx => show x.n.t < 18446744073709551616 from hw1 x hx)] at b5
  have p6 : wkRows [[.s [97], .i .i64 2, .b false, .i .i64 0, .i .i64 0, .f 0, .nil], [.s [97, 47, 98], .i .i64 2, .b false, .i .i64 0, .i .i64 0, .f 0, .nil]] (encE bel12) := ⟨ent_wk _ _ _ _ _, ent_wk _ _ _ _ _, True.intro⟩
  have b6 := DCalls.wkR1 p6 (layerRightG_c (l := bel12) (by decide) (by decide) (by decide))
  rw [show rightE bel12 = false by decide +kernel] at b6
  have p7 : wkRows [[.s [97], .i .i64 1, .b true, .i .i64 1, .i .i64 0, .f 0, .nil]] (encE opq12) := ⟨ent_wk _ _ _ _ _, True.intro⟩
  have b7 := DCalls.wkR1 p7 (layerRightG_c (l := opq12) (by decide) (by decide) (by decide))
  rw [show rightE opq12 = false by decide +kernel] at b7
  generalize layEs one12 = A at b1 b2 b3 hA
  have g1 : (encE one12).getD 0 [] = [.s [100, 47, 97], .i .i64 2, .b false, .i .i64 0, .i .i64 0, .f 0, .sl 1 (encB [])] := rfl
  have g2 : (encE two12).getD 0 [] = [.s [100], .i .i64 1, .b false, .i .i64 1, .i .i64 0, .f 0, .sl 1 (encB [])] := rfl
  have g3 : (encE thr12).getD 0 [] = [.s [100], .i .i64 2, .b false, .i .i64 0, .i .i64 0, .f 0, .sl 1 (encB [])] := rfl
  have l1 : one12.length = 1 := rfl
  have l2 : two12.length = 1 := rfl
  have l3 : thr12.length = 1 := rfl
  have eA : encB A ++ [[.i .u8 1]] = encB (A ++ [1]) := by simp [encB]
  have eT : (A ++ [1]).take (A.length + 1) = A ++ [1] := List.take_of_length_le (by simp)
  clear hw1 hr1 q1 q2 q3 q6 p4 p6 p7
  unfold row12 at a1 a2 a3 a4 a5
  generalize one12 = L1 at *
  generalize two12 = L2 at *
  generalize thr12 = L3 at *
  refine entS tabOK Tryz.func3 rfl rfl fun X0 hX => ?_
  simp only [Tryz.ntmps3, Tryz.f3, go_sem]
  refine swp_first tabOK hmix ?_
  repeat' (first | simp (maxSteps := 1000000) only [*, go_sem, Nat.reduceLT, Nat.reduceLeDiff, Nat.reduceEqDiff, ↓reduceIte, Nat.reduceAdd, Nat.reduceSub, Nat.reduceMul, Int.reduceLT, Int.reduceLE, Int.reduceAdd, Int.reduceSub, Int.reduceMul, Int.reduceNeg, Int.reduceToNat, Int.reduceEq, Int.reduceBEq, Int.reduceBNe, Nat.reduceBEq, beq_self_eq_true, bne_self_eq_false] | with_reducible refine vcond_split (fun _ => ?_) (fun _ => ?_) | with_reducible refine vg_split (fun _ => ?_) (fun _ => ?_) | ((with_reducible apply DCalls.frz); (focus exact rfl); (focus exact rfl)) | ((with_reducible refine And.intro ?_ ?_); (focus (first | omega | decide | assumption | (simp only [decide_eq_true_eq, decide_eq_false_iff_not] at *; omega)))))
  refine swp_first tabOK hmix ?_
  repeat' (first | simp (maxSteps := 1000000) only [*, go_sem, Nat.reduceLT, Nat.reduceLeDiff, Nat.reduceEqDiff, ↓reduceIte, Nat.reduceAdd, Nat.reduceSub, Nat.reduceMul, Int.reduceLT, Int.reduceLE, Int.reduceAdd, Int.reduceSub, Int.reduceMul, Int.reduceNeg, Int.reduceToNat, Int.reduceEq, Int.reduceBEq, Int.reduceBNe, Nat.reduceBEq, beq_self_eq_true, bne_self_eq_false] | ((with_reducible refine useF (d12_c) ?_ ?_ ?_); (focus exact rfl); (focus exact rfl)) | ((with_reducible refine useN (a1) ?_ ?_ ?_); (focus exact rfl); (focus exact fun _ => rfl)) | with_reducible refine vcond_split (fun _ => ?_) (fun _ => ?_) | with_reducible refine vg_split (fun _ => ?_) (fun _ => ?_) | ((with_reducible apply DCalls.frz); (focus exact rfl); (focus exact rfl)) | ((with_reducible refine And.intro ?_ ?_); (focus (first | omega | decide | assumption | (simp only [decide_eq_true_eq, decide_eq_false_iff_not] at *; omega)))))
  refine swp_first tabOK hmix ?_
  repeat' (first | simp (maxSteps := 1000000) only [*, go_sem, Nat.reduceLT, Nat.reduceLeDiff, Nat.reduceEqDiff, ↓reduceIte, Nat.reduceAdd, Nat.reduceSub, Nat.reduceMul, Int.reduceLT, Int.reduceLE, Int.reduceAdd, Int.reduceSub, Int.reduceMul, Int.reduceNeg, Int.reduceToNat, Int.reduceEq, Int.reduceBEq, Int.reduceBNe, Nat.reduceBEq, beq_self_eq_true, bne_self_eq_false] | with_reducible refine vcond_split (fun _ => ?_) (fun _ => ?_) | with_reducible refine vg_split (fun _ => ?_) (fun _ => ?_) | ((with_reducible apply DCalls.frz); (focus exact rfl); (focus exact rfl)) | ((with_reducible refine And.intro ?_ ?_); (focus (first | omega | decide | assumption | (simp only [decide_eq_true_eq, decide_eq_false_iff_not] at *; omega)))))
  obtain ⟨V, hV0, hV1, hV2, hV3, hV4, hV5, hV6⟩ : ∃ V : Nat → DV, V 0 = .agg [.p (.s [100]), .p (.i .i64 2), .p (.i .i64 493), .p (.f 0), .p .nil] ∧ V 1 = .agg [.p (.s [100, 47, 97]), .p (.i .i64 2), .p (.i .i64 493), .p (.f 0), .p .nil] ∧ V 2 = .c (.p (.sl 5 [[.s [100], .i .i64 2, .i .i64 493, .f 0, .nil], [.s [100, 47, 97], .i .i64 2, .i .i64 493, .f 0, .nil]])) ∧ V 3 = .agg [.p (.s [100]), .p (.i .i64 1), .p (.i .i64 0), .p (.f 0), .p .nil] ∧ V 4 = .c (.p (.sl 5 [[.s [100], .i .i64 1, .i .i64 0, .f 0, .nil]])) ∧ V 5 = .c (.p (.sl 7 (encE L2))) ∧ V 6 = .c (.p (.sl 7 (encE L2))) :=
    ⟨fun i => match i with
      | 0 => .agg [.p (.s [100]), .p (.i .i64 2), .p (.i .i64 493), .p (.f 0), .p .nil]
      | 1 => .agg [.p (.s [100, 47, 97]), .p (.i .i64 2), .p (.i .i64 493), .p (.f 0), .p .nil]
      | 2 => .c (.p (.sl 5 [[.s [100], .i .i64 2, .i .i64 493, .f 0, .nil], [.s [100, 47, 97], .i .i64 2, .i .i64 493, .f 0, .nil]]))
      | 3 => .agg [.p (.s [100]), .p (.i .i64 1), .p (.i .i64 0), .p (.f 0), .p .nil]
      | 4 => .c (.p (.sl 5 [[.s [100], .i .i64 1, .i .i64 0, .f 0, .nil]]))
      | 5 => .c (.p (.sl 7 (encE L2)))
      | 6 => .c (.p (.sl 7 (encE L2)))
      | _ => .jk, rfl, rfl, rfl, rfl, rfl, rfl, rfl⟩
  refine swp_first tabOK hmix ?_
  refine WD.swp_drawnF tabOK hmix [] [0, 1, 2, 3, 4, 5, 6] 5 V (fun _ _ => [.arr 5 [[.s [100], .i .i64 2, .i .i64 493, .f 0, .nil], [.s [100, 47, 97], .i .i64 2, .i .i64 493, .f 0, .nil]] true, .arr 5 [[.s [100], .i .i64 2, .i .i64 493, .f 0, .nil]] true, .box [.p (.s [100]), .p (.i .i64 1), .p (.i .i64 0), .p (.f 0), .p .nil]]) ?_ rfl rfl ⟨?_, ?_, ?_, ?_, ?_, ?_, ?_, trivial⟩ ?_
  · decide +kernel
  · refine WD.good_see rfl rfl ?_
    repeat' (first | simp (maxSteps := 1000000) only [*, go_sem, Nat.reduceLT, Nat.reduceLeDiff, Nat.reduceEqDiff, ↓reduceIte, Nat.reduceAdd, Nat.reduceSub, Nat.reduceMul, Int.reduceLT, Int.reduceLE, Int.reduceAdd, Int.reduceSub, Int.reduceMul, Int.reduceNeg, Int.reduceToNat, Int.reduceEq, Int.reduceBEq, Int.reduceBNe, Nat.reduceBEq, beq_self_eq_true, bne_self_eq_false, dstOf, List.getElem?_toArray, List.getElem?_cons_zero, List.getElem?_cons_succ, Option.bind_some, putF_some, putF_none] | ((with_reducible refine useF (d12_c) ?_ ?_ ?_); (focus exact rfl); (focus exact rfl)) | ((with_reducible refine useN (a2) ?_ ?_ ?_); (focus exact rfl); (focus exact fun _ => rfl)) | with_reducible refine vcond_split (fun _ => ?_) (fun _ => ?_) | with_reducible refine vg_split (fun _ => ?_) (fun _ => ?_) | ((with_reducible apply DCalls.frz); (focus exact rfl); (focus exact rfl)) | ((with_reducible refine And.intro ?_ ?_); (focus (first | omega | decide | assumption | (simp only [decide_eq_true_eq, decide_eq_false_iff_not] at *; omega)))))
    all_goals first | exact ⟨rfl, rfl⟩ | rfl | trace_state
  · refine WD.good_see rfl rfl ?_
    repeat' (first | simp (maxSteps := 1000000) only [*, go_sem, Nat.reduceLT, Nat.reduceLeDiff, Nat.reduceEqDiff, ↓reduceIte, Nat.reduceAdd, Nat.reduceSub, Nat.reduceMul, Int.reduceLT, Int.reduceLE, Int.reduceAdd, Int.reduceSub, Int.reduceMul, Int.reduceNeg, Int.reduceToNat, Int.reduceEq, Int.reduceBEq, Int.reduceBNe, Nat.reduceBEq, beq_self_eq_true, bne_self_eq_false, dstOf, List.getElem?_toArray, List.getElem?_cons_zero, List.getElem?_cons_succ, Option.bind_some, putF_some, putF_none] | ((with_reducible refine useF (d12_c) ?_ ?_ ?_); (focus exact rfl); (focus exact rfl)) | ((with_reducible refine useN (a2) ?_ ?_ ?_); (focus exact rfl); (focus exact fun _ => rfl)) | with_reducible refine vcond_split (fun _ => ?_) (fun _ => ?_) | with_reducible refine vg_split (fun _ => ?_) (fun _ => ?_) | ((with_reducible apply DCalls.frz); (focus exact rfl); (focus exact rfl)) | ((with_reducible refine And.intro ?_ ?_); (focus (first | omega | decide | assumption | (simp only [decide_eq_true_eq, decide_eq_false_iff_not] at *; omega)))))
    all_goals first | exact ⟨rfl, rfl⟩ | rfl | trace_state
  · refine WD.good_data (k := 5) (es := [[.s [100], .i .i64 2, .i .i64 493, .f 0, .nil], [.s [100, 47, 97], .i .i64 2, .i .i64 493, .f 0, .nil]]) rfl rfl (by assumption) ?_
    repeat' (first | simp (maxSteps := 1000000) only [*, go_sem, Nat.reduceLT, Nat.reduceLeDiff, Nat.reduceEqDiff, ↓reduceIte, Nat.reduceAdd, Nat.reduceSub, Nat.reduceMul, Int.reduceLT, Int.reduceLE, Int.reduceAdd, Int.reduceSub, Int.reduceMul, Int.reduceNeg, Int.reduceToNat, Int.reduceEq, Int.reduceBEq, Int.reduceBNe, Nat.reduceBEq, beq_self_eq_true, bne_self_eq_false, dstOf, List.getElem?_toArray, List.getElem?_cons_zero, List.getElem?_cons_succ, Option.bind_some, putF_some, putF_none] | ((with_reducible refine useF (d12_c) ?_ ?_ ?_); (focus exact rfl); (focus exact rfl)) | ((with_reducible refine useN (a2) ?_ ?_ ?_); (focus exact rfl); (focus exact fun _ => rfl)) | with_reducible refine vcond_split (fun _ => ?_) (fun _ => ?_) | with_reducible refine vg_split (fun _ => ?_) (fun _ => ?_) | ((with_reducible apply DCalls.frz); (focus exact rfl); (focus exact rfl)) | ((with_reducible refine And.intro ?_ ?_); (focus (first | omega | decide | assumption | (simp only [decide_eq_true_eq, decide_eq_false_iff_not] at *; omega)))))
    all_goals first | exact ⟨rfl, rfl⟩ | rfl | trace_state
  · refine WD.good_see rfl rfl ?_
    repeat' (first | simp (maxSteps := 1000000) only [*, go_sem, Nat.reduceLT, Nat.reduceLeDiff, Nat.reduceEqDiff, ↓reduceIte, Nat.reduceAdd, Nat.reduceSub, Nat.reduceMul, Int.reduceLT, Int.reduceLE, Int.reduceAdd, Int.reduceSub, Int.reduceMul, Int.reduceNeg, Int.reduceToNat, Int.reduceEq, Int.reduceBEq, Int.reduceBNe, Nat.reduceBEq, beq_self_eq_true, bne_self_eq_false, dstOf, List.getElem?_toArray, List.getElem?_cons_zero, List.getElem?_cons_succ, Option.bind_some, putF_some, putF_none] | ((with_reducible refine useF (d12_c) ?_ ?_ ?_); (focus exact rfl); (focus exact rfl)) | ((with_reducible refine useN (a2) ?_ ?_ ?_); (focus exact rfl); (focus exact fun _ => rfl)) | with_reducible refine vcond_split (fun _ => ?_) (fun _ => ?_) | with_reducible refine vg_split (fun _ => ?_) (fun _ => ?_) | ((with_reducible apply DCalls.frz); (focus exact rfl); (focus exact rfl)) | ((with_reducible refine And.intro ?_ ?_); (focus (first | omega | decide | assumption | (simp only [decide_eq_true_eq, decide_eq_false_iff_not] at *; omega)))))
    all_goals first | exact ⟨rfl, rfl⟩ | rfl | trace_state
  · refine WD.good_data (k := 5) (es := [[.s [100], .i .i64 1, .i .i64 0, .f 0, .nil]]) rfl rfl (by assumption) ?_
    repeat' (first | simp (maxSteps := 1000000) only [*, go_sem, Nat.reduceLT, Nat.reduceLeDiff, Nat.reduceEqDiff, ↓reduceIte, Nat.reduceAdd, Nat.reduceSub, Nat.reduceMul, Int.reduceLT, Int.reduceLE, Int.reduceAdd, Int.reduceSub, Int.reduceMul, Int.reduceNeg, Int.reduceToNat, Int.reduceEq, Int.reduceBEq, Int.reduceBNe, Nat.reduceBEq, beq_self_eq_true, bne_self_eq_false, dstOf, List.getElem?_toArray, List.getElem?_cons_zero, List.getElem?_cons_succ, Option.bind_some, putF_some, putF_none] | ((with_reducible refine useF (d12_c) ?_ ?_ ?_); (focus exact rfl); (focus exact rfl)) | ((with_reducible refine useN (a2) ?_ ?_ ?_); (focus exact rfl); (focus exact fun _ => rfl)) | with_reducible refine vcond_split (fun _ => ?_) (fun _ => ?_) | with_reducible refine vg_split (fun _ => ?_) (fun _ => ?_) | ((with_reducible apply DCalls.frz); (focus exact rfl); (focus exact rfl)) | ((with_reducible refine And.intro ?_ ?_); (focus (first | omega | decide | assumption | (simp only [decide_eq_true_eq, decide_eq_false_iff_not] at *; omega)))))
    all_goals first | exact ⟨rfl, rfl⟩ | rfl | trace_state
  · refine WD.good_see rfl rfl ?_
    repeat' (first | simp (maxSteps := 1000000) only [*, go_sem, Nat.reduceLT, Nat.reduceLeDiff, Nat.reduceEqDiff, ↓reduceIte, Nat.reduceAdd, Nat.reduceSub, Nat.reduceMul, Int.reduceLT, Int.reduceLE, Int.reduceAdd, Int.reduceSub, Int.reduceMul, Int.reduceNeg, Int.reduceToNat, Int.reduceEq, Int.reduceBEq, Int.reduceBNe, Nat.reduceBEq, beq_self_eq_true, bne_self_eq_false, dstOf, List.getElem?_toArray, List.getElem?_cons_zero, List.getElem?_cons_succ, Option.bind_some, putF_some, putF_none] | ((with_reducible refine useF (d12_c) ?_ ?_ ?_); (focus exact rfl); (focus exact rfl)) | ((with_reducible refine useN (a2) ?_ ?_ ?_); (focus exact rfl); (focus exact fun _ => rfl)) | with_reducible refine vcond_split (fun _ => ?_) (fun _ => ?_) | with_reducible refine vg_split (fun _ => ?_) (fun _ => ?_) | ((with_reducible apply DCalls.frz); (focus exact rfl); (focus exact rfl)) | ((with_reducible refine And.intro ?_ ?_); (focus (first | omega | decide | assumption | (simp only [decide_eq_true_eq, decide_eq_false_iff_not] at *; omega)))))
    all_goals first | exact ⟨rfl, rfl⟩ | rfl | trace_state
  · refine WD.good_see rfl rfl ?_
    repeat' (first | simp (maxSteps := 1000000) only [*, go_sem, Nat.reduceLT, Nat.reduceLeDiff, Nat.reduceEqDiff, ↓reduceIte, Nat.reduceAdd, Nat.reduceSub, Nat.reduceMul, Int.reduceLT, Int.reduceLE, Int.reduceAdd, Int.reduceSub, Int.reduceMul, Int.reduceNeg, Int.reduceToNat, Int.reduceEq, Int.reduceBEq, Int.reduceBNe, Nat.reduceBEq, beq_self_eq_true, bne_self_eq_false, dstOf, List.getElem?_toArray, List.getElem?_cons_zero, List.getElem?_cons_succ, Option.bind_some, putF_some, putF_none] | ((with_reducible refine useF (d12_c) ?_ ?_ ?_); (focus exact rfl); (focus exact rfl)) | ((with_reducible refine useN (a2) ?_ ?_ ?_); (focus exact rfl); (focus exact fun _ => rfl)) | with_reducible refine vcond_split (fun _ => ?_) (fun _ => ?_) | with_reducible refine vg_split (fun _ => ?_) (fun _ => ?_) | ((with_reducible apply DCalls.frz); (focus exact rfl); (focus exact rfl)) | ((with_reducible refine And.intro ?_ ?_); (focus (first | omega | decide | assumption | (simp only [decide_eq_true_eq, decide_eq_false_iff_not] at *; omega)))))
    all_goals first | exact ⟨rfl, rfl⟩ | rfl | trace_state
  simp only [*, frameOf, go_sem, dstOf, List.getElem?_toArray, List.getElem?_cons_zero, List.getElem?_cons_succ, Option.bind_some, putF_some, putF_none]
  clear hV0 hV1 hV2 hV3 hV4 hV5 hV6
  refine swp_first tabOK hmix ?_
  repeat' (first | simp (maxSteps := 1000000) only [*, go_sem, Nat.reduceLT, Nat.reduceLeDiff, Nat.reduceEqDiff, ↓reduceIte, Nat.reduceAdd, Nat.reduceSub, Nat.reduceMul, Int.reduceLT, Int.reduceLE, Int.reduceAdd, Int.reduceSub, Int.reduceMul, Int.reduceNeg, Int.reduceToNat, Int.reduceEq, Int.reduceBEq, Int.reduceBNe, Nat.reduceBEq, beq_self_eq_true, bne_self_eq_false] | ((with_reducible refine useF (d12_c) ?_ ?_ ?_); (focus exact rfl); (focus exact rfl)) | ((with_reducible refine useN (a3) ?_ ?_ ?_); (focus exact rfl); (focus exact fun _ => rfl)) | with_reducible refine vcond_split (fun _ => ?_) (fun _ => ?_) | with_reducible refine vg_split (fun _ => ?_) (fun _ => ?_) | ((with_reducible apply DCalls.frz); (focus exact rfl); (focus exact rfl)) | ((with_reducible refine And.intro ?_ ?_); (focus (first | omega | decide | assumption | (simp only [decide_eq_true_eq, decide_eq_false_iff_not] at *; omega)))))
  refine swp_first tabOK hmix ?_
  repeat' (first | simp (maxSteps := 1000000) only [*, go_sem, Nat.reduceLT, Nat.reduceLeDiff, Nat.reduceEqDiff, ↓reduceIte, Nat.reduceAdd, Nat.reduceSub, Nat.reduceMul, Int.reduceLT, Int.reduceLE, Int.reduceAdd, Int.reduceSub, Int.reduceMul, Int.reduceNeg, Int.reduceToNat, Int.reduceEq, Int.reduceBEq, Int.reduceBNe, Nat.reduceBEq, beq_self_eq_true, bne_self_eq_false] | ((with_reducible refine useF (d12_c) ?_ ?_ ?_); (focus exact rfl); (focus exact rfl)) | ((with_reducible refine useN (a5) ?_ ?_ ?_); (focus exact rfl); (focus exact fun _ => rfl)) | with_reducible refine vcond_split (fun _ => ?_) (fun _ => ?_) | with_reducible refine vg_split (fun _ => ?_) (fun _ => ?_) | ((with_reducible apply DCalls.frz); (focus exact rfl); (focus exact rfl)) | ((with_reducible refine And.intro ?_ ?_); (focus (first | omega | decide | assumption | (simp only [decide_eq_true_eq, decide_eq_false_iff_not] at *; omega)))))
  refine swp_first tabOK hmix ?_
  repeat' (first | simp (maxSteps := 1000000) only [*, go_sem, Nat.reduceLT, Nat.reduceLeDiff, Nat.reduceEqDiff, ↓reduceIte, Nat.reduceAdd, Nat.reduceSub, Nat.reduceMul, Int.reduceLT, Int.reduceLE, Int.reduceAdd, Int.reduceSub, Int.reduceMul, Int.reduceNeg, Int.reduceToNat, Int.reduceEq, Int.reduceBEq, Int.reduceBNe, Nat.reduceBEq, beq_self_eq_true, bne_self_eq_false] | ((with_reducible refine useF (d12_c) ?_ ?_ ?_); (focus exact rfl); (focus exact rfl)) | ((with_reducible refine useN (a6) ?_ ?_ ?_); (focus exact rfl); (focus exact fun _ => rfl)) | with_reducible refine vcond_split (fun _ => ?_) (fun _ => ?_) | with_reducible refine vg_split (fun _ => ?_) (fun _ => ?_) | ((with_reducible apply DCalls.frz); (focus exact rfl); (focus exact rfl)) | ((with_reducible refine And.intro ?_ ?_); (focus (first | omega | decide | assumption | (simp only [decide_eq_true_eq, decide_eq_false_iff_not] at *; omega)))))
  refine swp_first tabOK hmix ?_
  repeat' (first | simp (maxSteps := 1000000) only [*, go_sem, Nat.reduceLT, Nat.reduceLeDiff, Nat.reduceEqDiff, ↓reduceIte, Nat.reduceAdd, Nat.reduceSub, Nat.reduceMul, Int.reduceLT, Int.reduceLE, Int.reduceAdd, Int.reduceSub, Int.reduceMul, Int.reduceNeg, Int.reduceToNat, Int.reduceEq, Int.reduceBEq, Int.reduceBNe, Nat.reduceBEq, beq_self_eq_true, bne_self_eq_false] | refine useLay b1 rfl rfl ?_ | with_reducible refine vcond_split (fun _ => ?_) (fun _ => ?_) | with_reducible refine vg_split (fun _ => ?_) (fun _ => ?_) | ((with_reducible apply DCalls.frz); (focus exact rfl); (focus exact rfl)) | ((with_reducible refine And.intro ?_ ?_); (focus (first | omega | decide | assumption | (simp only [decide_eq_true_eq, decide_eq_false_iff_not] at *; omega)))))
  refine swp_first tabOK hmix ?_
  repeat' (first | simp (maxSteps := 1000000) only [*, go_sem, Nat.reduceLT, Nat.reduceLeDiff, Nat.reduceEqDiff, ↓reduceIte, Nat.reduceAdd, Nat.reduceSub, Nat.reduceMul, Int.reduceLT, Int.reduceLE, Int.reduceAdd, Int.reduceSub, Int.reduceMul, Int.reduceNeg, Int.reduceToNat, Int.reduceEq, Int.reduceBEq, Int.reduceBNe, Nat.reduceBEq, beq_self_eq_true, bne_self_eq_false] | refine useL (k := 1) b2 rfl rfl ?_ | with_reducible refine vcond_split (fun _ => ?_) (fun _ => ?_) | with_reducible refine vg_split (fun _ => ?_) (fun _ => ?_) | ((with_reducible apply DCalls.frz); (focus exact rfl); (focus exact rfl)) | ((with_reducible refine And.intro ?_ ?_); (focus (first | omega | decide | assumption | (simp only [decide_eq_true_eq, decide_eq_false_iff_not] at *; omega)))))
  refine swp_first tabOK hmix ?_
  repeat' (first | simp (maxSteps := 1000000) only [*, go_sem, Nat.reduceLT, Nat.reduceLeDiff, Nat.reduceEqDiff, ↓reduceIte, Nat.reduceAdd, Nat.reduceSub, Nat.reduceMul, Int.reduceLT, Int.reduceLE, Int.reduceAdd, Int.reduceSub, Int.reduceMul, Int.reduceNeg, Int.reduceToNat, Int.reduceEq, Int.reduceBEq, Int.reduceBNe, Nat.reduceBEq, beq_self_eq_true, bne_self_eq_false, List.append_eq, List.cons_append, List.nil_append] | ((with_reducible refine useN (b3) ?_ ?_ ?_); (focus exact rfl); (focus exact fun _ => rfl)) | with_reducible refine vcond_split (fun _ => ?_) (fun _ => ?_) | with_reducible refine vg_split (fun _ => ?_) (fun _ => ?_) | ((with_reducible apply DCalls.frz); (focus exact rfl); (focus exact rfl)) | ((with_reducible refine And.intro ?_ ?_); (focus (first | omega | decide | assumption | (simp only [decide_eq_true_eq, decide_eq_false_iff_not] at *; omega)))))
  refine swp_first tabOK hmix ?_
  repeat' (first | simp (maxSteps := 1000000) only [*, go_sem, Nat.reduceLT, Nat.reduceLeDiff, Nat.reduceEqDiff, ↓reduceIte, Nat.reduceAdd, Nat.reduceSub, Nat.reduceMul, Int.reduceLT, Int.reduceLE, Int.reduceAdd, Int.reduceSub, Int.reduceMul, Int.reduceNeg, Int.reduceToNat, Int.reduceEq, Int.reduceBEq, Int.reduceBNe, Nat.reduceBEq, beq_self_eq_true, bne_self_eq_false] | ((with_reducible refine useN (b4) ?_ ?_ ?_); (focus exact rfl); (focus exact fun _ => rfl)) | with_reducible refine vcond_split (fun _ => ?_) (fun _ => ?_) | with_reducible refine vg_split (fun _ => ?_) (fun _ => ?_) | ((with_reducible apply DCalls.frz); (focus exact rfl); (focus exact rfl)) | ((with_reducible refine And.intro ?_ ?_); (focus (first | omega | decide | assumption | (simp only [decide_eq_true_eq, decide_eq_false_iff_not] at *; omega)))))
  refine swp_vc tabOK hmix ?_
  repeat' (first | simp (maxSteps := 1000000) only [*, go_sem, Nat.reduceLT, Nat.reduceLeDiff, Nat.reduceEqDiff, ↓reduceIte, Nat.reduceAdd, Nat.reduceSub, Nat.reduceMul, Int.reduceLT, Int.reduceLE, Int.reduceAdd, Int.reduceSub, Int.reduceMul, Int.reduceNeg, Int.reduceToNat, Int.reduceEq, Int.reduceBEq, Int.reduceBNe, Nat.reduceBEq, beq_self_eq_true, bne_self_eq_false, Bool.not_true, Bool.not_false, List.append_eq, List.cons_append, List.nil_append] | ((with_reducible refine useF (known12_c) ?_ ?_ ?_); (focus exact rfl); (focus exact rfl)) | ((with_reducible refine useF (d12_c) ?_ ?_ ?_); (focus exact rfl); (focus exact rfl)) | ((with_reducible refine useF (b5) ?_ ?_ ?_); (focus exact rfl); (focus exact rfl)) | ((with_reducible refine useN (a4) ?_ ?_ ?_); (focus exact rfl); (focus exact fun _ => rfl)) | ((with_reducible refine useF (b6) ?_ ?_ ?_); (focus exact rfl); (focus exact rfl)) | ((with_reducible refine useF (b7) ?_ ?_ ?_); (focus exact rfl); (focus exact rfl)) | with_reducible refine vcond_split (fun _ => ?_) (fun _ => ?_) | with_reducible refine vg_split (fun _ => ?_) (fun _ => ?_) | ((with_reducible apply DCalls.frz); (focus exact rfl); (focus exact rfl)) | ((with_reducible refine And.intro ?_ ?_); (focus (first | omega | decide | assumption | (simp only [decide_eq_true_eq, decide_eq_false_iff_not] at *; omega)))))
end Go.Proofs.YtfiopamaiolfhabGreatDoor
