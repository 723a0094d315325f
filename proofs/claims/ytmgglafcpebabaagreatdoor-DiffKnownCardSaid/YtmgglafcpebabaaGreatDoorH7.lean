/-
  The law of a diff's example, walked.
-/
import Derived.Test.YtmgglafcpebabaaGreatDoorH6
set_option linter.unusedSimpArgs false
set_option linter.unusedVariables false
namespace Go.Proofs.YtmgglafcpebabaaGreatDoor
open Go Go.Dm
set_option maxRecDepth 100000
set_option maxHeartbeats 4000000

theorem diffKnown_c : DCalls Tryz.prog 7 [] [] fun r h => r = .c (.p (.b true)) ∧ h = [] := by
  have hab := diff_c ka_ok kb_ok
  rw [diff_ab] at hab
  have haa := diff_c ka_ok ka_ok
  rw [diff_aa] at haa
  have hnb := DCalls.wkA (args := [.c (.p .nil), .c (.p (.sl 5 (encT kb)))]) (args' := [.c (.p (.sl 5 (encT []))), .c (.p (.sl 5 (encT kb)))]) ⟨wkD_nil, wkD_rfl, trivial⟩ (diff_c nil_ok kb_ok)
  have hnl := diff_nb
  generalize diffF [] kb = nb at hnb hnl
  have hlo := diffLayO_c (l := kl) (by decide) kl_big kl_right
  have hA : (layChs kl).length ≤ 140737488355328 := layChs_len (by decide) fun x hx => by
    simp only [kl, List.mem_cons, List.not_mem_nil, or_false] at hx
    rcases hx with rfl | rfl | rfl <;> exact ⟨by decide, by decide, by decide⟩
  have hrl := diffReadL_c (z := layChs kl) hA
  rw [readCs_lay kl_right kl_wf (by decide)] at hrl
  have hr2 := diffRead_c (z := layChs kl ++ [0]) (by
    have : (layChs kl).length ≤ 1000000 := by decide +kernel
    rw [List.length_append]; simp only [List.length_cons, List.length_nil]; omega)
  rw [readC_more kl_right kl_wf (by decide) [0] (by decide)] at hr2
  simp only at hr2
  have hbk := back_c (l := kl) (by decide) (by
    intro x hx
    simp only [kl, List.mem_cons, List.not_mem_nil, or_false] at hx
    rcases hx with rfl | rfl | rfl <;> exact ⟨by decide, by decide⟩)
  have hlb := diffLayN_c (l := kbad) (by decide) kbad_big kbad_right
  have hsm := diffSame_c (a := kl) (b := kl) (by decide) (by decide)
  rw [sameCs_refl kl_wf] at hsm
  have hk1 := diffRightG_c (l := kl.map backC) (by decide) kback_big
  rw [kback_right] at hk1
  have hk2 := diffRightG_c (l := kl) (by decide) kl_big
  rw [kl_right] at hk2
  have hk3 := diffRightG_c (l := kbad) (by decide) kbad_big
  rw [kbad_right] at hk3
  have hA2 : (layChs kl).length + 1 ≤ 1000000 := by decide +kernel
  generalize layChs kl = A at hlo hrl hr2 hA hA2
  have g0 : (encC kl).getD 0 [] = [.s [98], .i .i64 3, .i .i64 1, .i .i64 0, .f 4607182418800017408, .sl 1 (encB [120]), .i .i64 1, .i .i64 0, .f 4607182418800017408, .sl 1 (encB [121])] := rfl
  have g1 : (encC kl).getD 1 [] = [.s [99], .i .i64 4, .i .i64 1, .i .i64 0, .f 4607182418800017408, .sl 1 (encB [120]), .i .i64 2, .i .i64 0, .f 0, .sl 1 (encB [])] := rfl
  have g2 : (encC kl).getD 2 [] = [.s [100], .i .i64 1, .i .i64 0, .i .i64 0, .f 0, .sl 1 (encB []), .i .i64 1, .i .i64 0, .f 4607182418800017408, .sl 1 (encB [])] := rfl
  have g3 : (encC (kl.map backC)).getD 2 [] = [.s [100], .i .i64 2, .i .i64 1, .i .i64 0, .f 4607182418800017408, .sl 1 (encB []), .i .i64 0, .i .i64 0, .f 0, .sl 1 (encB [])] := rfl
  have l1 : kl.length = 3 := rfl
  have l2 : (kl.map backC).length = 3 := rfl
  have l3 : kbad.length = 3 := rfl
  have hbad : (encC kl).set 0 [.s [98], .i .i64 5, .i .i64 1, .i .i64 0, .f 4607182418800017408, .sl 1 (encB [120]), .i .i64 1, .i .i64 0, .f 4607182418800017408, .sl 1 (encB [121])] = encC kbad := rfl
  have eA : encB A ++ [[.i .u8 0]] = encB (A ++ [0]) := by simp [encB]
  have bn : bitsF theNaN = theNaN := rfl
  have eK : kbad.take 3 = kbad := rfl
  have eT : (A ++ [0]).take (A.length + 1) = A ++ [0] := List.take_of_length_le (by simp)
  refine entS tabOK Tryz.func7 rfl rfl fun X0 hX => ?_
  simp only [Tryz.ntmps7, Tryz.f7, go_sem]
  refine swp_first tabOK hmix ?_
  repeat' (first | simp (maxSteps := 1000000) only [*, go_sem, Nat.reduceLT, Nat.reduceLeDiff, Nat.reduceEqDiff, ↓reduceIte, Nat.reduceAdd, Nat.reduceSub, Nat.reduceMul, Int.reduceLT, Int.reduceLE, Int.reduceAdd, Int.reduceSub, Int.reduceMul, Int.reduceNeg, Int.reduceToNat, Int.reduceEq, Int.reduceBEq, Int.reduceBNe, Nat.reduceBEq, beq_self_eq_true, bne_self_eq_false] | with_reducible refine vcond_split (fun _ => ?_) (fun _ => ?_) | with_reducible refine vg_split (fun _ => ?_) (fun _ => ?_) | ((with_reducible apply DCalls.frz); (focus exact rfl); (focus exact rfl)) | ((with_reducible refine And.intro ?_ ?_); (focus (first | omega | decide | assumption | (simp only [decide_eq_true_eq, decide_eq_false_iff_not] at *; omega)))))
  refine swp_first tabOK hmix ?_
  repeat' (first | simp (maxSteps := 1000000) only [*, go_sem, Nat.reduceLT, Nat.reduceLeDiff, Nat.reduceEqDiff, ↓reduceIte, Nat.reduceAdd, Nat.reduceSub, Nat.reduceMul, Int.reduceLT, Int.reduceLE, Int.reduceAdd, Int.reduceSub, Int.reduceMul, Int.reduceNeg, Int.reduceToNat, Int.reduceEq, Int.reduceBEq, Int.reduceBNe, Nat.reduceBEq, beq_self_eq_true, bne_self_eq_false] | ((with_reducible refine useF (NaN_c) ?_ ?_ ?_); (focus exact rfl); (focus exact rfl)) | ((with_reducible refine useF (PlainTime_c _) ?_ ?_ ?_); (focus exact rfl); (focus exact rfl)) | with_reducible refine vcond_split (fun _ => ?_) (fun _ => ?_) | with_reducible refine vg_split (fun _ => ?_) (fun _ => ?_) | ((with_reducible apply DCalls.frz); (focus exact rfl); (focus exact rfl)) | ((with_reducible refine And.intro ?_ ?_); (focus (first | omega | decide | assumption | (simp only [decide_eq_true_eq, decide_eq_false_iff_not] at *; omega)))))
  refine swp_join tabOK hmix (α := Unit) (fun _ => ⟨154, [(1, .c (.p (.f theNaN))), (2, .c (.p (.sl 5 (encT ka))))], []⟩) (fun _ => True) ?_ ?_
  · repeat' (first | simp (maxSteps := 1000000) only [*, go_sem, Nat.reduceLT, Nat.reduceLeDiff, Nat.reduceEqDiff, ↓reduceIte, Nat.reduceAdd, Nat.reduceSub, Nat.reduceMul, Int.reduceLT, Int.reduceLE, Int.reduceAdd, Int.reduceSub, Int.reduceMul, Int.reduceNeg, Int.reduceToNat, Int.reduceEq, Int.reduceBEq, Int.reduceBNe, Nat.reduceBEq, beq_self_eq_true, bne_self_eq_false] | ((with_reducible refine useN (file17_c (by decide)) ?_ ?_ ?_); (focus exact rfl); (focus exact fun _ => rfl)) | with_reducible refine vcond_split (fun _ => ?_) (fun _ => ?_) | with_reducible refine vg_split (fun _ => ?_) (fun _ => ?_) | ((with_reducible apply DCalls.frz); (focus exact rfl); (focus exact rfl)) | ((with_reducible refine And.intro ?_ ?_); (focus (first | omega | decide | assumption | (simp only [decide_eq_true_eq, decide_eq_false_iff_not] at *; omega)))))
    exact qj_data (x := .sl 5 (encT ka)) () 2 0 0 3 trivial rfl rfl (weak_mk (by rw [hX]; rfl) rfl rfl (by simp [wk_cons, wk_nil, look_cons, closedD, closedC, renT, renD, renC, encT_nil, encS_nil, encC_nil]))
  rintro - -
  refine swp_join tabOK hmix (α := Unit) (fun _ => ⟨154, [(2, .c (.p (.sl 5 (encT ka)))), (3, .c (.p (.sl 5 (encT kb))))], []⟩) (fun _ => True) ?_ ?_
  · repeat' (first | simp (maxSteps := 1000000) only [*, go_sem, Nat.reduceLT, Nat.reduceLeDiff, Nat.reduceEqDiff, ↓reduceIte, Nat.reduceAdd, Nat.reduceSub, Nat.reduceMul, Int.reduceLT, Int.reduceLE, Int.reduceAdd, Int.reduceSub, Int.reduceMul, Int.reduceNeg, Int.reduceToNat, Int.reduceEq, Int.reduceBEq, Int.reduceBNe, Nat.reduceBEq, beq_self_eq_true, bne_self_eq_false] | ((with_reducible refine useN (file17_c (by decide)) ?_ ?_ ?_); (focus exact rfl); (focus exact fun _ => rfl)) | with_reducible refine vcond_split (fun _ => ?_) (fun _ => ?_) | with_reducible refine vg_split (fun _ => ?_) (fun _ => ?_) | ((with_reducible apply DCalls.frz); (focus exact rfl); (focus exact rfl)) | ((with_reducible refine And.intro ?_ ?_); (focus (first | omega | decide | assumption | (simp only [decide_eq_true_eq, decide_eq_false_iff_not] at *; omega)))))
    exact qj_dataW (es' := encT kb) () 3 0 0 4 5 trivial rfl rfl ⟨⟨.inl rfl, .inl rfl, .inl rfl, .inl rfl, .inl rfl, trivial⟩, ⟨.inl rfl, .inl rfl, .inl rfl, .inl rfl, .inl rfl, trivial⟩, ⟨.inl rfl, .inl rfl, .inl rfl, .inl rfl, .inr ⟨rfl, 1, rfl⟩, trivial⟩, ⟨.inl rfl, .inl rfl, .inl rfl, .inl rfl, .inl rfl, trivial⟩, trivial⟩ (weak_mk (by rw [hX]; rfl) rfl rfl (by simp [wk_cons, wk_nil, look_cons, closedD, closedC, renT, renD, renC, encT_nil, encS_nil, encC_nil]))
  rintro - -
  refine swp_vc tabOK hmix ?_
  generalize kl = L at *
  repeat' (first | simp (maxSteps := 1000000) only [*, go_sem, Nat.reduceLT, Nat.reduceLeDiff, Nat.reduceEqDiff, ↓reduceIte, Nat.reduceAdd, Nat.reduceSub, Nat.reduceMul, Int.reduceLT, Int.reduceLE, Int.reduceAdd, Int.reduceSub, Int.reduceMul, Int.reduceNeg, Int.reduceToNat, Int.reduceEq, Int.reduceBEq, Int.reduceBNe, Nat.reduceBEq, beq_self_eq_true, bne_self_eq_false, List.append_eq, List.cons_append, List.nil_append] | ((with_reducible refine useN (hab) ?_ ?_ ?_); (focus exact rfl); (focus exact fun _ => rfl)) | ((with_reducible refine useF (known17_c) ?_ ?_ ?_); (focus exact rfl); (focus exact rfl)) | refine useLay hlo rfl rfl ?_ | refine useL (k := 1) hrl rfl rfl ?_ | ((with_reducible refine useN (hr2) ?_ ?_ ?_); (focus exact rfl); (focus exact fun _ => rfl)) | ((with_reducible refine useN (hbk) ?_ ?_ ?_); (focus exact rfl); (focus exact fun _ => rfl)) | ((with_reducible refine useN (hlb) ?_ ?_ ?_); (focus exact rfl); (focus exact fun _ => rfl)) | ((with_reducible refine useF (hsm) ?_ ?_ ?_); (focus exact rfl); (focus exact rfl)) | ((with_reducible refine useF (hk1) ?_ ?_ ?_); (focus exact rfl); (focus exact rfl)) | ((with_reducible refine useF (hk2) ?_ ?_ ?_); (focus exact rfl); (focus exact rfl)) | ((with_reducible refine useF (hk3) ?_ ?_ ?_); (focus exact rfl); (focus exact rfl)) | ((with_reducible refine useN (haa) ?_ ?_ ?_); (focus exact rfl); (focus exact fun _ => rfl)) | ((with_reducible refine useN (hnb) ?_ ?_ ?_); (focus exact rfl); (focus exact fun _ => rfl)) | with_reducible refine vcond_split (fun _ => ?_) (fun _ => ?_) | with_reducible refine vg_split (fun _ => ?_) (fun _ => ?_) | ((with_reducible apply DCalls.frz); (focus exact rfl); (focus exact rfl)) | ((with_reducible refine And.intro ?_ ?_); (focus (first | omega | decide | assumption | (simp only [decide_eq_true_eq, decide_eq_false_iff_not] at *; omega)))))

end Go.Proofs.YtmgglafcpebabaaGreatDoor
