/-
  Contract: a tree out of bytes, by the document.
-/
import Derived.Test.YtmgglafcpebabaaGreatDoorG4r
import Derived.Test.YtmgglafcpebabaaGreatDoorG5
set_option linter.unusedSimpArgs false
set_option linter.unusedVariables false
namespace Go.Proofs.YtmgglafcpebabaaGreatDoor
open Go Go.Dm
set_option maxRecDepth 100000
set_option maxHeartbeats 4000000

/-- What the document says of what it has read. -/
def resT (G : Option (List It × Rd)) : List It × Int := match G with
  | none => ([], 2)
  | some (t, q) => if q.l || (decide ((0 : Int) < q.b.length) || !refT t) then ([], 2) else (t, 0)
theorem resT_none : resT none = ([], 2) := rfl
theorem resT_some (t : List It) (q : Rd) : resT (some (t, q)) = if q.l || (decide ((0 : Int) < q.b.length) || !refT t) then ([], 2) else (t, 0) := rfl

theorem refRead_c {z : List UInt8} (hz : z.length ≤ 140737488355328) :
    DCalls Tryz.prog 16 [.c (.p (.sl 1 (encB z)))] [] fun r h => r = .tup [.c (.p (.sl 5 (encT (refRead z).1))), .c (.p (.i .i64 (refRead z).2))] ∧ h = [] := by
  have c0 := rfU16_c (r := ⟨z, false⟩) hz
  have b0 := (Rd.mk z false).len_num 2
  have n0 := (Rd.mk z false).num_lt2
  have hP : refRead z = resT (Rd.itemsR ((Rd.mk z false).num 2).1 ((Rd.mk z false).num 2).2) := rfl
  rw [hP]
  clear hP
  simp only at b0 c0
  generalize (Rd.mk z false).num 2 = c at c0 b0 n0 ⊢
  obtain ⟨m, r0⟩ := c
  simp only at c0 b0 n0 ⊢
  generalize hG : Rd.itemsR m r0 = G
  have hr0 : r0.b.length ≤ 140737488355328 := Nat.le_trans b0 hz
  clear b0
  refine dcalls_wk ?_
  refine ent tabOK hmix Tryz.func16 rfl rfl fun X0 hX => ?_
  simp only [Tryz.ntmps16, Tryz.f16, go_sem]
  repeat' (first | simp (maxSteps := 1000000) only [*, go_sem, Nat.reduceLT, Nat.reduceLeDiff, Nat.reduceEqDiff, ↓reduceIte, Nat.reduceAdd, Nat.reduceSub, Nat.reduceMul, Int.reduceLT, Int.reduceLE, Int.reduceAdd, Int.reduceSub, Int.reduceMul, Int.reduceNeg, Int.reduceToNat, Int.reduceEq, Int.reduceBEq, Int.reduceBNe, Nat.reduceBEq, beq_self_eq_true, bne_self_eq_false] | ((with_reducible refine useB (c0) ?_ ?_ ?_); (focus exact rfl); (focus exact rfl)) | ((with_reducible refine useB1 (c0) ?_ ?_ ?_); (focus exact rfl); (focus exact rfl)) | with_reducible refine vcond_split (fun _ => ?_) (fun _ => ?_) | with_reducible refine vg_split (fun _ => ?_) (fun _ => ?_) | ((with_reducible apply DCalls.frz); (focus exact rfl); (focus exact rfl)) | ((with_reducible refine And.intro ?_ ?_); (focus (first | omega | decide | assumption | (simp only [decide_eq_true_eq, decide_eq_false_iff_not] at *; omega)))))
  refine vc_virt tabOK hmix 5 5 rfl ?_
  refine loop_ren tabOK hmix (α := Nat × Rd × List It) (fun x => ⟨60, [(0, .c (.p (.sl 1 (encB z)))), (4, .c (.ptr 0 0)), (6, .c (.p (.i .i64 x.1))), (5, .c (.own 1 0 x.2.2.length))], [.box [.p (.sl 1 (encB x.2.1.b)), .p (.b x.2.1.l)], .arr 5 (encT x.2.2) false]⟩)
    (fun x => x.2.2.length + x.1 ≤ 65535 ∧ x.2.1.b.length ≤ 140737488355328 ∧ (∀ y ∈ x.2.2, y.p.length ≤ 65535 ∧ y.n.d.length ≤ 65535) ∧ (Rd.itemsR x.1 x.2.1).map (fun y => (x.2.2 ++ y.1, y.2)) = G) (fun x => x.1) (m, r0, []) ⟨by simp only [List.length_nil]; omega, hr0, (by intro y hy; cases hy), by simp only [hG, List.nil_append]; cases G <;> rfl⟩ (.inl (weak_mk (by rw [hX]; rfl) rfl rfl (by simp [wk_cons, wk_nil, look_cons, closedD, closedC, encT_nil, encS_nil, encC_nil]))) ?_
  clear c0 hG n0 hr0
  rintro ⟨n, ⟨rb, rl⟩, out⟩ ⟨hn, hb, ho, hJ⟩
  simp only at hn hb ho hJ
  by_cases hgo : n ≠ 0 ∧ rl = false
  · obtain ⟨g1, rfl⟩ := hgo
    obtain ⟨n, rfl⟩ := Nat.exists_eq_succ_of_ne_zero g1
    have h1 : decide ((0 : Int) < ((n + 1 : Nat) : Int)) = true := decide_eq_true (by omega)
    have w1 : IntKind.i64.wrap (((n + 1 : Nat) : Int) - 1) = n := by rw [wrap_i64 (by omega) (by omega)]; omega
    have ct := rfText_c (r := ⟨rb, false⟩) hb
    have bt := Nat.le_trans (Rd.mk rb false).len_text hb
    have tl := (Rd.mk rb false).text_le
    have ck := rfTake_c (r := (Rd.mk rb false).text.2) bt
    have bk := Nat.le_trans (Rd.mk rb false).text.2.len_node bt
    rw [Rd.itemsR, if_neg (by intro h; cases h)] at hJ
    generalize (Rd.mk rb false).text = x1 at ct ck bt bk hJ tl
    obtain ⟨p, r1⟩ := x1
    simp only at ct ck bt bk hJ tl
    have td := r1.take_d
    generalize r1.take = tk at ck hJ td
    generalize r1.node.2 = r2 at ck bk hJ
    obtain ⟨⟨k, md, tt, d⟩, ok⟩ := tk
    simp only at ck hJ td
    cases ok
    · rw [if_neg (by decide)] at hJ
      have hJ2 : none = G := hJ
      subst hJ2
      clear hJ g1
      repeat' (first | simp (maxSteps := 1000000) only [*, go_sem, Nat.reduceLT, Nat.reduceLeDiff, Nat.reduceEqDiff, ↓reduceIte, Nat.reduceAdd, Nat.reduceSub, Nat.reduceMul, Int.reduceLT, Int.reduceLE, Int.reduceAdd, Int.reduceSub, Int.reduceMul, Int.reduceNeg, Int.reduceToNat, Int.reduceEq, Int.reduceBEq, Int.reduceBNe, Nat.reduceBEq, beq_self_eq_true, bne_self_eq_false, resT_none] | ((with_reducible refine useB (ct) ?_ ?_ ?_); (focus exact rfl); (focus exact rfl)) | ((with_reducible refine useB1 (ct) ?_ ?_ ?_); (focus exact rfl); (focus exact rfl)) | ((with_reducible refine useB (ck) ?_ ?_ ?_); (focus exact rfl); (focus exact rfl)) | ((with_reducible refine useB1 (ck) ?_ ?_ ?_); (focus exact rfl); (focus exact rfl)) | with_reducible refine vcond_split (fun _ => ?_) (fun _ => ?_) | with_reducible refine vg_split (fun _ => ?_) (fun _ => ?_) | ((with_reducible apply DCalls.frz); (focus exact rfl); (focus exact rfl)) | ((with_reducible refine And.intro ?_ ?_); (focus (first | omega | decide | assumption | (simp only [decide_eq_true_eq, decide_eq_false_iff_not] at *; omega)))))
      all_goals exact .inr ⟨_, rfl⟩
    · rw [if_pos rfl] at hJ
      have hJ2 : (out ++ [(⟨p, ⟨k, md, tt, d⟩⟩ : It)]).length + n ≤ 65535 ∧ r2.b.length ≤ 140737488355328 ∧ (∀ y ∈ out ++ [(⟨p, ⟨k, md, tt, d⟩⟩ : It)], y.p.length ≤ 65535 ∧ y.n.d.length ≤ 65535) ∧ (Rd.itemsR n r2).map (fun y => ((out ++ [(⟨p, ⟨k, md, tt, d⟩⟩ : It)]) ++ y.1, y.2)) = G := by
        refine ⟨by simp; omega, bk, fun y hy => ?_, ?_⟩
        · rcases List.mem_append.1 hy with hy | hy
          · exact ho y hy
          · have : y = ⟨p, ⟨k, md, tt, d⟩⟩ := by simpa using hy
            subst this; exact ⟨tl, td⟩
        · rw [← hJ]
          cases Rd.itemsR n r2 with
          | none => rfl
          | some y => simp
      have hol : out.length ≤ 65535 := by omega
      clear hJ g1 ho
      repeat' (first | simp (maxSteps := 1000000) only [*, go_sem, Nat.reduceLT, Nat.reduceLeDiff, Nat.reduceEqDiff, ↓reduceIte, Nat.reduceAdd, Nat.reduceSub, Nat.reduceMul, Int.reduceLT, Int.reduceLE, Int.reduceAdd, Int.reduceSub, Int.reduceMul, Int.reduceNeg, Int.reduceToNat, Int.reduceEq, Int.reduceBEq, Int.reduceBNe, Nat.reduceBEq, beq_self_eq_true, bne_self_eq_false] | ((with_reducible refine useB (ct) ?_ ?_ ?_); (focus exact rfl); (focus exact rfl)) | ((with_reducible refine useB1 (ct) ?_ ?_ ?_); (focus exact rfl); (focus exact rfl)) | ((with_reducible refine useB (ck) ?_ ?_ ?_); (focus exact rfl); (focus exact rfl)) | ((with_reducible refine useB1 (ck) ?_ ?_ ?_); (focus exact rfl); (focus exact rfl)) | with_reducible refine vcond_split (fun _ => ?_) (fun _ => ?_) | with_reducible refine vg_split (fun _ => ?_) (fun _ => ?_) | ((with_reducible apply DCalls.frz); (focus exact rfl); (focus exact rfl)) | ((with_reducible refine And.intro ?_ ?_); (focus (first | omega | decide | assumption | (simp only [decide_eq_true_eq, decide_eq_false_iff_not] at *; omega)))))
      exact qr_ren (n, r2, out ++ [⟨p, ⟨k, md, tt, d⟩⟩]) 1 4 hJ2 (by simp only; omega) rfl rfl (weak_mk rfl rfl rfl (by simp [wk_cons, wk_nil, look_cons, closedD, closedC, renT, renD, renC, encT_nil, encS_nil, encC_nil]))
  · have hout : some (out, Rd.mk rb rl) = G := by
      rw [← hJ]
      cases n with
      | zero => simp [Rd.itemsR]
      | succ n =>
        have : rl = true := by simpa using hgo
        simp [Rd.itemsR, this]
    clear hJ
    subst hout
    have hrr := refRight_c (t := out) (by omega) (fun x hx => Nat.le_trans (ho x hx).1 (by decide)) (fun x hx => Nat.le_trans (ho x hx).2 (by decide))
    have hsp : n = 0 ∨ (decide ((0 : Int) < (n : Int)) = true ∧ rl = true) := by
      by_cases h0 : n = 0
      · exact .inl h0
      · exact .inr ⟨decide_eq_true (by omega), by simpa [h0] using hgo⟩
    rw [resT_some]
    simp only
    clear ho hgo
    rcases hsp with rfl | ⟨h0, rfl⟩
    · cases rl
      · cases hq : decide ((0 : Int) < (rb.length : Int))
        · cases hrt : refT out
          · rw [hrt] at hrr
            simp only [Bool.false_or, Bool.not_false, if_true]
            repeat' (first | simp (maxSteps := 1000000) only [*, go_sem, Nat.reduceLT, Nat.reduceLeDiff, Nat.reduceEqDiff, ↓reduceIte, Nat.reduceAdd, Nat.reduceSub, Nat.reduceMul, Int.reduceLT, Int.reduceLE, Int.reduceAdd, Int.reduceSub, Int.reduceMul, Int.reduceNeg, Int.reduceToNat, Int.reduceEq, Int.reduceBEq, Int.reduceBNe, Nat.reduceBEq, beq_self_eq_true, bne_self_eq_false] | ((with_reducible refine useF (hrr) ?_ ?_ ?_); (focus exact rfl); (focus exact rfl)) | with_reducible refine vcond_split (fun _ => ?_) (fun _ => ?_) | with_reducible refine vg_split (fun _ => ?_) (fun _ => ?_) | ((with_reducible apply DCalls.frz); (focus exact rfl); (focus exact rfl)) | ((with_reducible refine And.intro ?_ ?_); (focus (first | omega | decide | assumption | (simp only [decide_eq_true_eq, decide_eq_false_iff_not] at *; omega)))))
            all_goals first | exact .inr ⟨_, rfl⟩ | trace_state
          · rw [hrt] at hrr
            simp only [Bool.false_or, Bool.not_true, Bool.false_eq_true, if_false]
            repeat' (first | simp (maxSteps := 1000000) only [*, go_sem, Nat.reduceLT, Nat.reduceLeDiff, Nat.reduceEqDiff, ↓reduceIte, Nat.reduceAdd, Nat.reduceSub, Nat.reduceMul, Int.reduceLT, Int.reduceLE, Int.reduceAdd, Int.reduceSub, Int.reduceMul, Int.reduceNeg, Int.reduceToNat, Int.reduceEq, Int.reduceBEq, Int.reduceBNe, Nat.reduceBEq, beq_self_eq_true, bne_self_eq_false] | ((with_reducible refine useF (hrr) ?_ ?_ ?_); (focus exact rfl); (focus exact rfl)) | with_reducible refine vcond_split (fun _ => ?_) (fun _ => ?_) | with_reducible refine vg_split (fun _ => ?_) (fun _ => ?_) | ((with_reducible apply DCalls.frz); (focus exact rfl); (focus exact rfl)) | ((with_reducible refine And.intro ?_ ?_); (focus (first | omega | decide | assumption | (simp only [decide_eq_true_eq, decide_eq_false_iff_not] at *; omega)))))
            all_goals first | exact .inr ⟨_, rfl⟩ | trace_state
        · simp only [Bool.false_or, Bool.true_or, if_true]
          repeat' (first | simp (maxSteps := 1000000) only [*, go_sem, Nat.reduceLT, Nat.reduceLeDiff, Nat.reduceEqDiff, ↓reduceIte, Nat.reduceAdd, Nat.reduceSub, Nat.reduceMul, Int.reduceLT, Int.reduceLE, Int.reduceAdd, Int.reduceSub, Int.reduceMul, Int.reduceNeg, Int.reduceToNat, Int.reduceEq, Int.reduceBEq, Int.reduceBNe, Nat.reduceBEq, beq_self_eq_true, bne_self_eq_false] | ((with_reducible refine useF (hrr) ?_ ?_ ?_); (focus exact rfl); (focus exact rfl)) | with_reducible refine vcond_split (fun _ => ?_) (fun _ => ?_) | with_reducible refine vg_split (fun _ => ?_) (fun _ => ?_) | ((with_reducible apply DCalls.frz); (focus exact rfl); (focus exact rfl)) | ((with_reducible refine And.intro ?_ ?_); (focus (first | omega | decide | assumption | (simp only [decide_eq_true_eq, decide_eq_false_iff_not] at *; omega)))))
          all_goals first | exact .inr ⟨_, rfl⟩ | trace_state
      · simp only [Bool.true_or, if_true]
        repeat' (first | simp (maxSteps := 1000000) only [*, go_sem, Nat.reduceLT, Nat.reduceLeDiff, Nat.reduceEqDiff, ↓reduceIte, Nat.reduceAdd, Nat.reduceSub, Nat.reduceMul, Int.reduceLT, Int.reduceLE, Int.reduceAdd, Int.reduceSub, Int.reduceMul, Int.reduceNeg, Int.reduceToNat, Int.reduceEq, Int.reduceBEq, Int.reduceBNe, Nat.reduceBEq, beq_self_eq_true, bne_self_eq_false] | ((with_reducible refine useF (hrr) ?_ ?_ ?_); (focus exact rfl); (focus exact rfl)) | with_reducible refine vcond_split (fun _ => ?_) (fun _ => ?_) | with_reducible refine vg_split (fun _ => ?_) (fun _ => ?_) | ((with_reducible apply DCalls.frz); (focus exact rfl); (focus exact rfl)) | ((with_reducible refine And.intro ?_ ?_); (focus (first | omega | decide | assumption | (simp only [decide_eq_true_eq, decide_eq_false_iff_not] at *; omega)))))
        all_goals first | exact .inr ⟨_, rfl⟩ | trace_state
    · simp only [Bool.true_or, if_true]
      repeat' (first | simp (maxSteps := 1000000) only [*, go_sem, Nat.reduceLT, Nat.reduceLeDiff, Nat.reduceEqDiff, ↓reduceIte, Nat.reduceAdd, Nat.reduceSub, Nat.reduceMul, Int.reduceLT, Int.reduceLE, Int.reduceAdd, Int.reduceSub, Int.reduceMul, Int.reduceNeg, Int.reduceToNat, Int.reduceEq, Int.reduceBEq, Int.reduceBNe, Nat.reduceBEq, beq_self_eq_true, bne_self_eq_false] | ((with_reducible refine useF (hrr) ?_ ?_ ?_); (focus exact rfl); (focus exact rfl)) | with_reducible refine vcond_split (fun _ => ?_) (fun _ => ?_) | with_reducible refine vg_split (fun _ => ?_) (fun _ => ?_) | ((with_reducible apply DCalls.frz); (focus exact rfl); (focus exact rfl)) | ((with_reducible refine And.intro ?_ ?_); (focus (first | omega | decide | assumption | (simp only [decide_eq_true_eq, decide_eq_false_iff_not] at *; omega)))))
      all_goals first | exact .inr ⟨_, rfl⟩ | trace_state

end Go.Proofs.YtmgglafcpebabaaGreatDoor
