/-
  Contract: changes out of bytes, by the document.
-/
import Derived.Test.YtmgglafcpebabaaGreatDoorJ2r
import Derived.Test.YtmgglafcpebabaaGreatDoorG5
import Derived.Test.YtmgglafcpebabaaGreatDoorVF
set_option linter.unusedSimpArgs false
set_option linter.unusedVariables false
namespace Go.Proofs.YtmgglafcpebabaaGreatDoor
open Go Go.Dm
set_option maxRecDepth 100000
set_option maxHeartbeats 4000000

/-- What the document says of what it has read. -/
def resC (G : Option (List Ch × Rd)) : List Ch × Int := match G with
  | none => ([], 2)
  | some (t, q) => if q.l || (decide ((0 : Int) < q.b.length) || !refCs t) then ([], 2) else (t, 0)
theorem resC_none : resC none = ([], 2) := rfl
theorem resC_some (t : List Ch) (q : Rd) : resC (some (t, q)) = if q.l || (decide ((0 : Int) < q.b.length) || !refCs t) then ([], 2) else (t, 0) := rfl

theorem refReadC_c {z : List UInt8} (hz : z.length ≤ 140737488355328) :
    DCalls Tryz.prog 29 [.c (.p (.sl 1 (encB z)))] [] fun r h => r = .tup [.c (.p (.sl 10 (encC (refReadC z).1))), .c (.p (.i .i64 (refReadC z).2))] ∧ h = [] := by
  have c0 := rfU16_c (r := ⟨z, false⟩) hz
  have b0 := (Rd.mk z false).len_num 2
  have n0 := (Rd.mk z false).num_lt2
  have hP : refReadC z = resC (Rd.chsR ((Rd.mk z false).num 2).1 ((Rd.mk z false).num 2).2) := rfl
  rw [hP]
  clear hP
  simp only at b0 c0
  generalize (Rd.mk z false).num 2 = c at c0 b0 n0 ⊢
  obtain ⟨m, r0⟩ := c
  simp only at c0 b0 n0 ⊢
  generalize hG : Rd.chsR m r0 = G
  have hr0 : r0.b.length ≤ 140737488355328 := Nat.le_trans b0 hz
  clear b0
  refine dcalls_wk ?_
  refine ent tabOK hmix Tryz.func29 rfl rfl fun X0 hX => ?_
  simp only [Tryz.ntmps29, Tryz.f29, go_sem]
  repeat' (first | simp (maxSteps := 1000000) only [*, go_sem, Nat.reduceLT, Nat.reduceLeDiff, Nat.reduceEqDiff, ↓reduceIte, Nat.reduceAdd, Nat.reduceSub, Nat.reduceMul, Int.reduceLT, Int.reduceLE, Int.reduceAdd, Int.reduceSub, Int.reduceMul, Int.reduceNeg, Int.reduceToNat, Int.reduceEq, Int.reduceBEq, Int.reduceBNe, Nat.reduceBEq, beq_self_eq_true, bne_self_eq_false] | ((with_reducible refine useB (c0) ?_ ?_ ?_); (focus exact rfl); (focus exact rfl)) | ((with_reducible refine useB1 (c0) ?_ ?_ ?_); (focus exact rfl); (focus exact rfl)) | with_reducible refine vcond_split (fun _ => ?_) (fun _ => ?_) | with_reducible refine vg_split (fun _ => ?_) (fun _ => ?_) | ((with_reducible apply DCalls.frz); (focus exact rfl); (focus exact rfl)) | ((with_reducible refine And.intro ?_ ?_); (focus (first | omega | decide | assumption | (simp only [decide_eq_true_eq, decide_eq_false_iff_not] at *; omega)))))
  refine vc_virt tabOK hmix 5 10 rfl ?_
  refine loop_renS (α := Nat × Rd × List Ch) (fun x => ⟨77, [(0, .c (.p (.sl 1 (encB z)))), (4, .c (.ptr 0 0)), (6, .c (.p (.i .i64 x.1))), (5, .c (.own 1 0 x.2.2.length))], [.box [.p (.sl 1 (encB x.2.1.b)), .p (.b x.2.1.l)], .arr 10 (encC x.2.2) false]⟩)
    (fun x => x.2.2.length + x.1 ≤ 65535 ∧ x.2.1.b.length ≤ 140737488355328 ∧ (∀ y ∈ x.2.2, y.p.length ≤ 65535 ∧ y.o.d.length ≤ 65535 ∧ y.n.d.length ≤ 65535) ∧ (Rd.chsR x.1 x.2.1).map (fun y => (x.2.2 ++ y.1, y.2)) = G) (fun x => x.1) (m, r0, []) ⟨by simp only [List.length_nil]; omega, hr0, (by intro y hy; cases hy), by simp only [hG, List.nil_append]; cases G <;> rfl⟩ (.inl (weak_mk (by rw [hX]; rfl) rfl rfl (by simp [wk_cons, wk_nil, look_cons, closedD, closedC, encT_nil, encS_nil, encC_nil]))) ?_
  clear c0 hG n0 hr0
  rintro ⟨n, ⟨rb, rl⟩, out⟩ ⟨hn, hb, ho, hJ⟩
  simp only at hn hb ho hJ
  by_cases hgo : n ≠ 0 ∧ rl = false
  · obtain ⟨g1, rfl⟩ := hgo
    obtain ⟨n, rfl⟩ := Nat.exists_eq_succ_of_ne_zero g1
    have h1 : decide ((0 : Int) < ((n + 1 : Nat) : Int)) = true := decide_eq_true (by omega)
    have w1 : IntKind.i64.wrap (((n + 1 : Nat) : Int) - 1) = n := by rw [wrap_i64 (by omega) (by omega)]; omega
    have ct := rfText_c (r := ⟨rb, false⟩) hb
    have bt := Nat.le_trans (Rd.mk rb false).len_text hb
    have tl := (Rd.mk rb false).text_le
    have cu := rfU8_c (r := (Rd.mk rb false).text.2) bt
    have bu := Nat.le_trans ((Rd.mk rb false).text.2.len_num 1) bt
    have ck := rfTake_c (r := ((Rd.mk rb false).text.2.num 1).2) bu
    have bk := Nat.le_trans ((Rd.mk rb false).text.2.num 1).2.len_node bu
    have ck2 := rfTake_c (r := ((Rd.mk rb false).text.2.num 1).2.node.2) bk
    have bk2 := Nat.le_trans ((Rd.mk rb false).text.2.num 1).2.node.2.len_node bk
    rw [Rd.chsR, if_neg (by intro h; cases h)] at hJ
    unfold Rd.chP Rd.chOk Rd.opt Rd.optOk at hJ
    generalize (Rd.mk rb false).text = x1 at ct cu bt bu ck bk ck2 bk2 hJ tl
    obtain ⟨p, r1⟩ := x1
    simp only at ct cu bt bu ck bk ck2 bk2 hJ tl
    generalize r1.num 1 = x2 at cu bu ck bk ck2 bk2 hJ
    obtain ⟨kn, r2⟩ := x2
    simp only at cu bu ck bk ck2 bk2 hJ
    have td1 := r2.take_d
    have td2 := r2.node.2.take_d
    clear g1
    have n1 : ((kn : Int) != 1) = !((kn : Int) == 1) := rfl
    have n2 : ((kn : Int) != 2) = !((kn : Int) == 2) := rfl
    obtain ⟨e0, he0⟩ : ∃ e : List UInt8, e = [] := ⟨[], rfl⟩
    have hz0 : nd0 = ⟨0, 0, 0, e0⟩ := by rw [he0]; rfl
    have hel : e0.length ≤ 65535 := by rw [he0]; simp
    rw [hz0] at hJ
    clear hz0
    have hP : PLift _ := ⟨hJ⟩
    have hO : PLift _ := ⟨ho⟩
    clear hJ ho
    refine swp_first tabOK hmix ?_
    repeat' (first | simp (maxSteps := 1000000) only [*, go_sem, Nat.reduceLT, Nat.reduceLeDiff, Nat.reduceEqDiff, ↓reduceIte, Nat.reduceAdd, Nat.reduceSub, Nat.reduceMul, Int.reduceLT, Int.reduceLE, Int.reduceAdd, Int.reduceSub, Int.reduceMul, Int.reduceNeg, Int.reduceToNat, Int.reduceEq, Int.reduceBEq, Int.reduceBNe, Nat.reduceBEq, beq_self_eq_true, bne_self_eq_false] | with_reducible refine vcond_split (fun _ => ?_) (fun _ => ?_) | with_reducible refine vg_split (fun _ => ?_) (fun _ => ?_) | ((with_reducible apply DCalls.frz); (focus exact rfl); (focus exact rfl)) | ((with_reducible refine And.intro ?_ ?_); (focus (first | omega | decide | assumption | (simp only [decide_eq_true_eq, decide_eq_false_iff_not] at *; omega)))))
    refine swp_seq_block ?_
    refine swp_first tabOK hmix ?_
    repeat' (first | simp (maxSteps := 1000000) only [*, go_sem, Nat.reduceLT, Nat.reduceLeDiff, Nat.reduceEqDiff, ↓reduceIte, Nat.reduceAdd, Nat.reduceSub, Nat.reduceMul, Int.reduceLT, Int.reduceLE, Int.reduceAdd, Int.reduceSub, Int.reduceMul, Int.reduceNeg, Int.reduceToNat, Int.reduceEq, Int.reduceBEq, Int.reduceBNe, Nat.reduceBEq, beq_self_eq_true, bne_self_eq_false] | ((with_reducible refine useB (ct) ?_ ?_ ?_); (focus exact rfl); (focus exact rfl)) | ((with_reducible refine useB1 (ct) ?_ ?_ ?_); (focus exact rfl); (focus exact rfl)) | with_reducible refine vcond_split (fun _ => ?_) (fun _ => ?_) | with_reducible refine vg_split (fun _ => ?_) (fun _ => ?_) | ((with_reducible apply DCalls.frz); (focus exact rfl); (focus exact rfl)) | ((with_reducible refine And.intro ?_ ?_); (focus (first | omega | decide | assumption | (simp only [decide_eq_true_eq, decide_eq_false_iff_not] at *; omega)))))
    refine swp_box 2 [.p (.s p), .p (.i .i64 0), .p (.i .i64 0), .p (.i .i64 0), .p (.f 0), .p .nil, .p (.i .i64 0), .p (.i .i64 0), .p (.f 0), .p .nil] [.p (.s p), .p (.i .i64 0), .p (.i .i64 0), .p (.i .i64 0), .p (.f 0), .p (.sl 1 (encB e0)), .p (.i .i64 0), .p (.i .i64 0), .p (.f 0), .p (.sl 1 (encB e0))] rfl rfl ⟨.inl rfl, .inl rfl, .inl rfl, .inl rfl, .inl rfl, .inr ⟨rfl, 1, by rw [he0]; rfl⟩, .inl rfl, .inl rfl, .inl rfl, .inr ⟨rfl, 1, by rw [he0]; rfl⟩, trivial⟩ ?_
    refine swp_vc tabOK hmix ?_
    clear he0
    have hJ := hP.down
    clear hP
    cases k1 : ((kn : Int) == 1)
    · rw [k1, Bool.not_false] at n1
      cases k2 : ((kn : Int) == 2)
      · rw [k2, Bool.not_false] at n2
        simp only [k1, k2, Bool.false_eq_true, if_false, if_true, Bool.false_or, Bool.true_or, Bool.true_and, Bool.and_true, Bool.false_and, Bool.and_false] at hJ
        generalize r2.take = tk at ck hJ td1
        generalize r2.node.2 = r3 at ck bk ck2 bk2 hJ td2
        generalize r3.take = tk2 at ck2 hJ td2
        generalize r3.node.2 = r4 at ck2 bk2 hJ
        obtain ⟨⟨k, md, tt, d⟩, ok⟩ := tk
        obtain ⟨⟨k', md', tt', d'⟩, ok'⟩ := tk2
        simp only at ck ck2 hJ td1 td2
        cases ok
        ·
          have hJ2 : none = G := by simpa using hJ
          subst hJ2
          clear hJ
          repeat' (first | simp (maxSteps := 1000000) only [*, go_sem, Nat.reduceLT, Nat.reduceLeDiff, Nat.reduceEqDiff, ↓reduceIte, Nat.reduceAdd, Nat.reduceSub, Nat.reduceMul, Int.reduceLT, Int.reduceLE, Int.reduceAdd, Int.reduceSub, Int.reduceMul, Int.reduceNeg, Int.reduceToNat, Int.reduceEq, Int.reduceBEq, Int.reduceBNe, Nat.reduceBEq, beq_self_eq_true, bne_self_eq_false, resC_none] | ((with_reducible refine useB (cu) ?_ ?_ ?_); (focus exact rfl); (focus exact rfl)) | ((with_reducible refine useB1 (cu) ?_ ?_ ?_); (focus exact rfl); (focus exact rfl)) | ((with_reducible refine useB (ck) ?_ ?_ ?_); (focus exact rfl); (focus exact rfl)) | ((with_reducible refine useB1 (ck) ?_ ?_ ?_); (focus exact rfl); (focus exact rfl)) | with_reducible refine vcond_split (fun _ => ?_) (fun _ => ?_) | with_reducible refine vg_split (fun _ => ?_) (fun _ => ?_) | ((with_reducible apply DCalls.frz); (focus exact rfl); (focus exact rfl)) | ((with_reducible refine And.intro ?_ ?_); (focus (first | omega | decide | assumption | (simp only [decide_eq_true_eq, decide_eq_false_iff_not] at *; omega)))))
          all_goals exact .inr ⟨_, rfl⟩
        · cases ok'
          ·
            have hJ2 : none = G := by simpa using hJ
            subst hJ2
            clear hJ
            repeat' (first | simp (maxSteps := 1000000) only [*, go_sem, Nat.reduceLT, Nat.reduceLeDiff, Nat.reduceEqDiff, ↓reduceIte, Nat.reduceAdd, Nat.reduceSub, Nat.reduceMul, Int.reduceLT, Int.reduceLE, Int.reduceAdd, Int.reduceSub, Int.reduceMul, Int.reduceNeg, Int.reduceToNat, Int.reduceEq, Int.reduceBEq, Int.reduceBNe, Nat.reduceBEq, beq_self_eq_true, bne_self_eq_false, resC_none] | ((with_reducible refine useB (cu) ?_ ?_ ?_); (focus exact rfl); (focus exact rfl)) | ((with_reducible refine useB1 (cu) ?_ ?_ ?_); (focus exact rfl); (focus exact rfl)) | ((with_reducible refine useB (ck) ?_ ?_ ?_); (focus exact rfl); (focus exact rfl)) | ((with_reducible refine useB1 (ck) ?_ ?_ ?_); (focus exact rfl); (focus exact rfl)) | ((with_reducible refine useB (ck2) ?_ ?_ ?_); (focus exact rfl); (focus exact rfl)) | ((with_reducible refine useB1 (ck2) ?_ ?_ ?_); (focus exact rfl); (focus exact rfl)) | with_reducible refine vcond_split (fun _ => ?_) (fun _ => ?_) | with_reducible refine vg_split (fun _ => ?_) (fun _ => ?_) | ((with_reducible apply DCalls.frz); (focus exact rfl); (focus exact rfl)) | ((with_reducible refine And.intro ?_ ?_); (focus (first | omega | decide | assumption | (simp only [decide_eq_true_eq, decide_eq_false_iff_not] at *; omega)))))
            all_goals exact .inr ⟨_, rfl⟩
          ·
            have hJ2 : (out ++ [(⟨p, kn, ⟨k, md, tt, d⟩, ⟨k', md', tt', d'⟩⟩ : Ch)]).length + n ≤ 65535 ∧ r4.b.length ≤ 140737488355328 ∧ (∀ y ∈ out ++ [(⟨p, kn, ⟨k, md, tt, d⟩, ⟨k', md', tt', d'⟩⟩ : Ch)], y.p.length ≤ 65535 ∧ y.o.d.length ≤ 65535 ∧ y.n.d.length ≤ 65535) ∧ (Rd.chsR n r4).map (fun y => ((out ++ [(⟨p, kn, ⟨k, md, tt, d⟩, ⟨k', md', tt', d'⟩⟩ : Ch)]) ++ y.1, y.2)) = G := by
              refine ⟨by simp; omega, bk2, fun y hy => ?_, ?_⟩
              · rcases List.mem_append.1 hy with hy | hy
                · exact hO.down y hy
                · have : y = (⟨p, kn, ⟨k, md, tt, d⟩, ⟨k', md', tt', d'⟩⟩ : Ch) := by simpa using hy
                  subst this; exact ⟨tl, td1, td2⟩
              · rw [← hJ]
                cases Rd.chsR n r4 with
                | none => rfl
                | some y => simp
            have hol : out.length ≤ 65535 := by omega
            clear hJ
            repeat' (first | simp (maxSteps := 1000000) only [*, go_sem, Nat.reduceLT, Nat.reduceLeDiff, Nat.reduceEqDiff, ↓reduceIte, Nat.reduceAdd, Nat.reduceSub, Nat.reduceMul, Int.reduceLT, Int.reduceLE, Int.reduceAdd, Int.reduceSub, Int.reduceMul, Int.reduceNeg, Int.reduceToNat, Int.reduceEq, Int.reduceBEq, Int.reduceBNe, Nat.reduceBEq, beq_self_eq_true, bne_self_eq_false] | ((with_reducible refine useB (cu) ?_ ?_ ?_); (focus exact rfl); (focus exact rfl)) | ((with_reducible refine useB1 (cu) ?_ ?_ ?_); (focus exact rfl); (focus exact rfl)) | ((with_reducible refine useB (ck) ?_ ?_ ?_); (focus exact rfl); (focus exact rfl)) | ((with_reducible refine useB1 (ck) ?_ ?_ ?_); (focus exact rfl); (focus exact rfl)) | ((with_reducible refine useB (ck2) ?_ ?_ ?_); (focus exact rfl); (focus exact rfl)) | ((with_reducible refine useB1 (ck2) ?_ ?_ ?_); (focus exact rfl); (focus exact rfl)) | with_reducible refine vcond_split (fun _ => ?_) (fun _ => ?_) | with_reducible refine vg_split (fun _ => ?_) (fun _ => ?_) | ((with_reducible apply DCalls.frz); (focus exact rfl); (focus exact rfl)) | ((with_reducible refine And.intro ?_ ?_); (focus (first | omega | decide | assumption | (simp only [decide_eq_true_eq, decide_eq_false_iff_not] at *; omega)))))
            refine swp_vc tabOK hmix ?_
            repeat' (first | simp (maxSteps := 1000000) only [*, go_sem, Nat.reduceLT, Nat.reduceLeDiff, Nat.reduceEqDiff, ↓reduceIte, Nat.reduceAdd, Nat.reduceSub, Nat.reduceMul, Int.reduceLT, Int.reduceLE, Int.reduceAdd, Int.reduceSub, Int.reduceMul, Int.reduceNeg, Int.reduceToNat, Int.reduceEq, Int.reduceBEq, Int.reduceBNe, Nat.reduceBEq, beq_self_eq_true, bne_self_eq_false] | with_reducible refine vcond_split (fun _ => ?_) (fun _ => ?_) | with_reducible refine vg_split (fun _ => ?_) (fun _ => ?_) | ((with_reducible apply DCalls.frz); (focus exact rfl); (focus exact rfl)) | ((with_reducible refine And.intro ?_ ?_); (focus (first | omega | decide | assumption | (simp only [decide_eq_true_eq, decide_eq_false_iff_not] at *; omega)))))
            first
              | exact qr_ren (n, r4, out ++ [(⟨p, kn, ⟨k, md, tt, d⟩, ⟨k', md', tt', d'⟩⟩ : Ch)]) 1 4 hJ2 (by simp only; omega) rfl rfl (weak_mk rfl rfl rfl (by simp [wk_cons, wk_nil, look_cons, closedD, closedC, renT, renD, renC, encT_nil, encS_nil, encC_nil]))
              | trace_state
      · rw [k2, Bool.not_true] at n2
        simp only [k1, k2, Bool.false_eq_true, if_false, if_true, Bool.false_or, Bool.true_or, Bool.true_and, Bool.and_true, Bool.false_and, Bool.and_false] at hJ
        clear ck2 bk2 td2
        generalize r2.take = tk at ck hJ td1
        generalize r2.node.2 = r3 at ck bk hJ
        obtain ⟨⟨k, md, tt, d⟩, ok⟩ := tk
        simp only at ck hJ td1
        cases ok
        ·
          have hJ2 : none = G := by simpa using hJ
          subst hJ2
          clear hJ
          repeat' (first | simp (maxSteps := 1000000) only [*, go_sem, Nat.reduceLT, Nat.reduceLeDiff, Nat.reduceEqDiff, ↓reduceIte, Nat.reduceAdd, Nat.reduceSub, Nat.reduceMul, Int.reduceLT, Int.reduceLE, Int.reduceAdd, Int.reduceSub, Int.reduceMul, Int.reduceNeg, Int.reduceToNat, Int.reduceEq, Int.reduceBEq, Int.reduceBNe, Nat.reduceBEq, beq_self_eq_true, bne_self_eq_false, resC_none] | ((with_reducible refine useB (cu) ?_ ?_ ?_); (focus exact rfl); (focus exact rfl)) | ((with_reducible refine useB1 (cu) ?_ ?_ ?_); (focus exact rfl); (focus exact rfl)) | ((with_reducible refine useB (ck) ?_ ?_ ?_); (focus exact rfl); (focus exact rfl)) | ((with_reducible refine useB1 (ck) ?_ ?_ ?_); (focus exact rfl); (focus exact rfl)) | with_reducible refine vcond_split (fun _ => ?_) (fun _ => ?_) | with_reducible refine vg_split (fun _ => ?_) (fun _ => ?_) | ((with_reducible apply DCalls.frz); (focus exact rfl); (focus exact rfl)) | ((with_reducible refine And.intro ?_ ?_); (focus (first | omega | decide | assumption | (simp only [decide_eq_true_eq, decide_eq_false_iff_not] at *; omega)))))
          all_goals exact .inr ⟨_, rfl⟩
        ·
          have hJ2 : (out ++ [(⟨p, kn, ⟨k, md, tt, d⟩, ⟨0, 0, 0, e0⟩⟩ : Ch)]).length + n ≤ 65535 ∧ r3.b.length ≤ 140737488355328 ∧ (∀ y ∈ out ++ [(⟨p, kn, ⟨k, md, tt, d⟩, ⟨0, 0, 0, e0⟩⟩ : Ch)], y.p.length ≤ 65535 ∧ y.o.d.length ≤ 65535 ∧ y.n.d.length ≤ 65535) ∧ (Rd.chsR n r3).map (fun y => ((out ++ [(⟨p, kn, ⟨k, md, tt, d⟩, ⟨0, 0, 0, e0⟩⟩ : Ch)]) ++ y.1, y.2)) = G := by
            refine ⟨by simp; omega, bk, fun y hy => ?_, ?_⟩
            · rcases List.mem_append.1 hy with hy | hy
              · exact hO.down y hy
              · have : y = (⟨p, kn, ⟨k, md, tt, d⟩, ⟨0, 0, 0, e0⟩⟩ : Ch) := by simpa using hy
                subst this; exact ⟨tl, td1, hel⟩
            · rw [← hJ]
              cases Rd.chsR n r3 with
              | none => rfl
              | some y => simp
          have hol : out.length ≤ 65535 := by omega
          clear hJ
          repeat' (first | simp (maxSteps := 1000000) only [*, go_sem, Nat.reduceLT, Nat.reduceLeDiff, Nat.reduceEqDiff, ↓reduceIte, Nat.reduceAdd, Nat.reduceSub, Nat.reduceMul, Int.reduceLT, Int.reduceLE, Int.reduceAdd, Int.reduceSub, Int.reduceMul, Int.reduceNeg, Int.reduceToNat, Int.reduceEq, Int.reduceBEq, Int.reduceBNe, Nat.reduceBEq, beq_self_eq_true, bne_self_eq_false] | ((with_reducible refine useB (cu) ?_ ?_ ?_); (focus exact rfl); (focus exact rfl)) | ((with_reducible refine useB1 (cu) ?_ ?_ ?_); (focus exact rfl); (focus exact rfl)) | ((with_reducible refine useB (ck) ?_ ?_ ?_); (focus exact rfl); (focus exact rfl)) | ((with_reducible refine useB1 (ck) ?_ ?_ ?_); (focus exact rfl); (focus exact rfl)) | with_reducible refine vcond_split (fun _ => ?_) (fun _ => ?_) | with_reducible refine vg_split (fun _ => ?_) (fun _ => ?_) | ((with_reducible apply DCalls.frz); (focus exact rfl); (focus exact rfl)) | ((with_reducible refine And.intro ?_ ?_); (focus (first | omega | decide | assumption | (simp only [decide_eq_true_eq, decide_eq_false_iff_not] at *; omega)))))
          refine swp_vc tabOK hmix ?_
          repeat' (first | simp (maxSteps := 1000000) only [*, go_sem, Nat.reduceLT, Nat.reduceLeDiff, Nat.reduceEqDiff, ↓reduceIte, Nat.reduceAdd, Nat.reduceSub, Nat.reduceMul, Int.reduceLT, Int.reduceLE, Int.reduceAdd, Int.reduceSub, Int.reduceMul, Int.reduceNeg, Int.reduceToNat, Int.reduceEq, Int.reduceBEq, Int.reduceBNe, Nat.reduceBEq, beq_self_eq_true, bne_self_eq_false] | with_reducible refine vcond_split (fun _ => ?_) (fun _ => ?_) | with_reducible refine vg_split (fun _ => ?_) (fun _ => ?_) | ((with_reducible apply DCalls.frz); (focus exact rfl); (focus exact rfl)) | ((with_reducible refine And.intro ?_ ?_); (focus (first | omega | decide | assumption | (simp only [decide_eq_true_eq, decide_eq_false_iff_not] at *; omega)))))
          first
            | exact qr_ren (n, r3, out ++ [(⟨p, kn, ⟨k, md, tt, d⟩, ⟨0, 0, 0, e0⟩⟩ : Ch)]) 1 4 hJ2 (by simp only; omega) rfl rfl (weak_mk rfl rfl rfl (by simp [wk_cons, wk_nil, look_cons, closedD, closedC, renT, renD, renC, encT_nil, encS_nil, encC_nil]))
            | trace_state
    · have k2 : ((kn : Int) == 2) = false := by rw [eq_of_beq k1]; rfl
      rw [k1, Bool.not_true] at n1
      rw [k2, Bool.not_false] at n2
      simp only [k1, k2, Bool.false_eq_true, if_false, if_true, Bool.false_or, Bool.true_or, Bool.true_and, Bool.and_true, Bool.false_and, Bool.and_false] at hJ
      clear ck2 bk2 td2
      generalize r2.take = tk at ck hJ td1
      generalize r2.node.2 = r3 at ck bk hJ
      obtain ⟨⟨k, md, tt, d⟩, ok⟩ := tk
      simp only at ck hJ td1
      cases ok
      ·
        have hJ2 : none = G := by simpa using hJ
        subst hJ2
        clear hJ
        repeat' (first | simp (maxSteps := 1000000) only [*, go_sem, Nat.reduceLT, Nat.reduceLeDiff, Nat.reduceEqDiff, ↓reduceIte, Nat.reduceAdd, Nat.reduceSub, Nat.reduceMul, Int.reduceLT, Int.reduceLE, Int.reduceAdd, Int.reduceSub, Int.reduceMul, Int.reduceNeg, Int.reduceToNat, Int.reduceEq, Int.reduceBEq, Int.reduceBNe, Nat.reduceBEq, beq_self_eq_true, bne_self_eq_false, resC_none] | ((with_reducible refine useB (cu) ?_ ?_ ?_); (focus exact rfl); (focus exact rfl)) | ((with_reducible refine useB1 (cu) ?_ ?_ ?_); (focus exact rfl); (focus exact rfl)) | ((with_reducible refine useB (ck) ?_ ?_ ?_); (focus exact rfl); (focus exact rfl)) | ((with_reducible refine useB1 (ck) ?_ ?_ ?_); (focus exact rfl); (focus exact rfl)) | with_reducible refine vcond_split (fun _ => ?_) (fun _ => ?_) | with_reducible refine vg_split (fun _ => ?_) (fun _ => ?_) | ((with_reducible apply DCalls.frz); (focus exact rfl); (focus exact rfl)) | ((with_reducible refine And.intro ?_ ?_); (focus (first | omega | decide | assumption | (simp only [decide_eq_true_eq, decide_eq_false_iff_not] at *; omega)))))
        all_goals exact .inr ⟨_, rfl⟩
      ·
        have hJ2 : (out ++ [(⟨p, kn, ⟨0, 0, 0, e0⟩, ⟨k, md, tt, d⟩⟩ : Ch)]).length + n ≤ 65535 ∧ r3.b.length ≤ 140737488355328 ∧ (∀ y ∈ out ++ [(⟨p, kn, ⟨0, 0, 0, e0⟩, ⟨k, md, tt, d⟩⟩ : Ch)], y.p.length ≤ 65535 ∧ y.o.d.length ≤ 65535 ∧ y.n.d.length ≤ 65535) ∧ (Rd.chsR n r3).map (fun y => ((out ++ [(⟨p, kn, ⟨0, 0, 0, e0⟩, ⟨k, md, tt, d⟩⟩ : Ch)]) ++ y.1, y.2)) = G := by
          refine ⟨by simp; omega, bk, fun y hy => ?_, ?_⟩
          · rcases List.mem_append.1 hy with hy | hy
            · exact hO.down y hy
            · have : y = (⟨p, kn, ⟨0, 0, 0, e0⟩, ⟨k, md, tt, d⟩⟩ : Ch) := by simpa using hy
              subst this; exact ⟨tl, hel, td1⟩
          · rw [← hJ]
            cases Rd.chsR n r3 with
            | none => rfl
            | some y => simp
        have hol : out.length ≤ 65535 := by omega
        clear hJ
        repeat' (first | simp (maxSteps := 1000000) only [*, go_sem, Nat.reduceLT, Nat.reduceLeDiff, Nat.reduceEqDiff, ↓reduceIte, Nat.reduceAdd, Nat.reduceSub, Nat.reduceMul, Int.reduceLT, Int.reduceLE, Int.reduceAdd, Int.reduceSub, Int.reduceMul, Int.reduceNeg, Int.reduceToNat, Int.reduceEq, Int.reduceBEq, Int.reduceBNe, Nat.reduceBEq, beq_self_eq_true, bne_self_eq_false] | ((with_reducible refine useB (cu) ?_ ?_ ?_); (focus exact rfl); (focus exact rfl)) | ((with_reducible refine useB1 (cu) ?_ ?_ ?_); (focus exact rfl); (focus exact rfl)) | ((with_reducible refine useB (ck) ?_ ?_ ?_); (focus exact rfl); (focus exact rfl)) | ((with_reducible refine useB1 (ck) ?_ ?_ ?_); (focus exact rfl); (focus exact rfl)) | with_reducible refine vcond_split (fun _ => ?_) (fun _ => ?_) | with_reducible refine vg_split (fun _ => ?_) (fun _ => ?_) | ((with_reducible apply DCalls.frz); (focus exact rfl); (focus exact rfl)) | ((with_reducible refine And.intro ?_ ?_); (focus (first | omega | decide | assumption | (simp only [decide_eq_true_eq, decide_eq_false_iff_not] at *; omega)))))
        refine swp_vc tabOK hmix ?_
        repeat' (first | simp (maxSteps := 1000000) only [*, go_sem, Nat.reduceLT, Nat.reduceLeDiff, Nat.reduceEqDiff, ↓reduceIte, Nat.reduceAdd, Nat.reduceSub, Nat.reduceMul, Int.reduceLT, Int.reduceLE, Int.reduceAdd, Int.reduceSub, Int.reduceMul, Int.reduceNeg, Int.reduceToNat, Int.reduceEq, Int.reduceBEq, Int.reduceBNe, Nat.reduceBEq, beq_self_eq_true, bne_self_eq_false] | with_reducible refine vcond_split (fun _ => ?_) (fun _ => ?_) | with_reducible refine vg_split (fun _ => ?_) (fun _ => ?_) | ((with_reducible apply DCalls.frz); (focus exact rfl); (focus exact rfl)) | ((with_reducible refine And.intro ?_ ?_); (focus (first | omega | decide | assumption | (simp only [decide_eq_true_eq, decide_eq_false_iff_not] at *; omega)))))
        first
          | exact qr_ren (n, r3, out ++ [(⟨p, kn, ⟨0, 0, 0, e0⟩, ⟨k, md, tt, d⟩⟩ : Ch)]) 1 4 hJ2 (by simp only; omega) rfl rfl (weak_mk rfl rfl rfl (by simp [wk_cons, wk_nil, look_cons, closedD, closedC, renT, renD, renC, encT_nil, encS_nil, encC_nil]))
          | trace_state
  · have hout : some (out, Rd.mk rb rl) = G := by
      rw [← hJ]
      cases n with
      | zero => simp [Rd.chsR]
      | succ n =>
        have : rl = true := by simpa using hgo
        simp [Rd.chsR, this]
    clear hJ
    subst hout
    refine swp_vc tabOK hmix ?_
    have hrr := refRightC_c (l := out) (by omega) (fun x hx => ⟨Nat.le_trans (ho x hx).1 (by decide), Nat.le_trans (ho x hx).2.1 (by decide), Nat.le_trans (ho x hx).2.2 (by decide)⟩)
    have hsp : n = 0 ∨ (decide ((0 : Int) < (n : Int)) = true ∧ rl = true) := by
      by_cases h0 : n = 0
      · exact .inl h0
      · exact .inr ⟨decide_eq_true (by omega), by simpa [h0] using hgo⟩
    rw [resC_some]
    simp only
    clear ho hgo
    rcases hsp with rfl | ⟨h0, rfl⟩
    · cases rl
      · cases hq : decide ((0 : Int) < (rb.length : Int))
        · cases hrt : refCs out
          · rw [hrt] at hrr
            simp only [Bool.false_or, Bool.not_false, if_true]
            repeat' (first | simp (maxSteps := 1000000) only [*, go_sem, Nat.reduceLT, Nat.reduceLeDiff, Nat.reduceEqDiff, ↓reduceIte, Nat.reduceAdd, Nat.reduceSub, Nat.reduceMul, Int.reduceLT, Int.reduceLE, Int.reduceAdd, Int.reduceSub, Int.reduceMul, Int.reduceNeg, Int.reduceToNat, Int.reduceEq, Int.reduceBEq, Int.reduceBNe, Nat.reduceBEq, beq_self_eq_true, bne_self_eq_false] | ((with_reducible refine useF (hrr) ?_ ?_ ?_); (focus exact rfl); (focus exact rfl)) | with_reducible refine vcond_split (fun _ => ?_) (fun _ => ?_) | with_reducible refine vg_split (fun _ => ?_) (fun _ => ?_) | ((with_reducible apply DCalls.frz); (focus exact rfl); (focus exact rfl)) | ((with_reducible refine And.intro ?_ ?_); (focus (first | omega | decide | assumption | (simp only [decide_eq_true_eq, decide_eq_false_iff_not] at *; omega)))))
            all_goals first | exact .inr ⟨_, rfl⟩ | trace_state
          · rw [hrt] at hrr
            simp only [Bool.false_or, Bool.not_true, Bool.false_eq_true, if_false]
            repeat' (first | simp (maxSteps := 1000000) only [*, go_sem, Nat.reduceLT, Nat.reduceLeDiff, Nat.reduceEqDiff, ↓reduceIte, Nat.reduceAdd, Nat.reduceSub, Nat.reduceMul, Int.reduceLT, Int.reduceLE, Int.reduceAdd, Int.reduceSub, Int.reduceMul, Int.reduceNeg, Int.reduceToNat, Int.reduceEq, Int.reduceBEq, Int.reduceBNe, Nat.reduceBEq, beq_self_eq_true, bne_self_eq_false] | ((with_reducible refine useF (hrr) ?_ ?_ ?_); (focus exact rfl); (focus exact rfl)) | with_reducible refine vcond_split (fun _ => ?_) (fun _ => ?_) | with_reducible refine vg_split (fun _ => ?_) (fun _ => ?_) | ((with_reducible apply DCalls.frz); (focus exact rfl); (focus exact rfl)) | ((with_reducible refine And.intro ?_ ?_); (focus (first | omega | decide | assumption | (simp only [decide_eq_true_eq, decide_eq_false_iff_not] at *; omega)))))
            all_goals first | exact .inr ⟨_, rfl⟩ | trace_state
        · simp only [Bool.false_or, Bool.true_or, if_true]
          repeat' (first | simp (maxSteps := 1000000) only [*, go_sem, Nat.reduceLT, Nat.reduceLeDiff, Nat.reduceEqDiff, ↓reduceIte, Nat.reduceAdd, Nat.reduceSub, Nat.reduceMul, Int.reduceLT, Int.reduceLE, Int.reduceAdd, Int.reduceSub, Int.reduceMul, Int.reduceNeg, Int.reduceToNat, Int.reduceEq, Int.reduceBEq, Int.reduceBNe, Nat.reduceBEq, beq_self_eq_true, bne_self_eq_false] | ((with_reducible refine useF (hrr) ?_ ?_ ?_); (focus exact rfl); (focus exact rfl)) | with_reducible refine vcond_split (fun _ => ?_) (fun _ => ?_) | with_reducible refine vg_split (fun _ => ?_) (fun _ => ?_) | ((with_reducible apply DCalls.frz); (focus exact rfl); (focus exact rfl)) | ((with_reducible refine And.intro ?_ ?_); (focus (first | omega | decide | assumption | (simp only [decide_eq_true_eq, decide_eq_false_iff_not] at *; omega)))))
          all_goals first | exact .inr ⟨_, rfl⟩ | trace_state
      · simp only [Bool.true_or, if_true]
        repeat' (first | simp (maxSteps := 1000000) only [*, go_sem, Nat.reduceLT, Nat.reduceLeDiff, Nat.reduceEqDiff, ↓reduceIte, Nat.reduceAdd, Nat.reduceSub, Nat.reduceMul, Int.reduceLT, Int.reduceLE, Int.reduceAdd, Int.reduceSub, Int.reduceMul, Int.reduceNeg, Int.reduceToNat, Int.reduceEq, Int.reduceBEq, Int.reduceBNe, Nat.reduceBEq, beq_self_eq_true, bne_self_eq_false] | ((with_reducible refine useF (hrr) ?_ ?_ ?_); (focus exact rfl); (focus exact rfl)) | with_reducible refine vcond_split (fun _ => ?_) (fun _ => ?_) | with_reducible refine vg_split (fun _ => ?_) (fun _ => ?_) | ((with_reducible apply DCalls.frz); (focus exact rfl); (focus exact rfl)) | ((with_reducible refine And.intro ?_ ?_); (focus (first | omega | decide | assumption | (simp only [decide_eq_true_eq, decide_eq_false_iff_not] at *; omega)))))
        all_goals first | exact .inr ⟨_, rfl⟩ | trace_state
    · simp only [Bool.true_or, if_true]
      repeat' (first | simp (maxSteps := 1000000) only [*, go_sem, Nat.reduceLT, Nat.reduceLeDiff, Nat.reduceEqDiff, ↓reduceIte, Nat.reduceAdd, Nat.reduceSub, Nat.reduceMul, Int.reduceLT, Int.reduceLE, Int.reduceAdd, Int.reduceSub, Int.reduceMul, Int.reduceNeg, Int.reduceToNat, Int.reduceEq, Int.reduceBEq, Int.reduceBNe, Nat.reduceBEq, beq_self_eq_true, bne_self_eq_false] | ((with_reducible refine useF (hrr) ?_ ?_ ?_); (focus exact rfl); (focus exact rfl)) | with_reducible refine vcond_split (fun _ => ?_) (fun _ => ?_) | with_reducible refine vg_split (fun _ => ?_) (fun _ => ?_) | ((with_reducible apply DCalls.frz); (focus exact rfl); (focus exact rfl)) | ((with_reducible refine And.intro ?_ ?_); (focus (first | omega | decide | assumption | (simp only [decide_eq_true_eq, decide_eq_false_iff_not] at *; omega)))))
      all_goals first | exact .inr ⟨_, rfl⟩ | trace_state

end Go.Proofs.YtmgglafcpebabaaGreatDoor
