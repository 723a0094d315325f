/-
  Contract: a tree out of bytes, by the program.
-/
import Derived.Test.YtfiopamaiolfhaaGreatDoorG4
import Derived.Test.YtfiopamaiolfhaaGreatDoorG5
set_option linter.unusedSimpArgs false
set_option linter.unusedVariables false
namespace Go.Proofs.YtfiopamaiolfhaaGreatDoor
open Go Go.Dm
set_option maxRecDepth 100000
set_option maxHeartbeats 4000000

theorem treeRead_c {z : List UInt8} (hz : z.length ≤ 140737488355328) :
    DCalls Tryz.prog 45 [.c (.p (.sl 1 (encB z)))] [] fun r h => r = .tup [.c (.p (.sl 5 (encT (readT z).1))), .c (.p (.i .i64 (readT z).2))] ∧ h = [] := by
  have hlen := readP_len z
  have hall := readP_all z
  have hnr := newReader_c hz
  have c0 := rdU16_c (r := ⟨z, false⟩) hz
  have b0 := (Rd.mk z false).len_num 2
  have n0 := (Rd.mk z false).num_lt2
  have hP : Rd.itemsP ((Rd.mk z false).num 2).1 ((Rd.mk z false).num 2).2 = readP z := rfl
  simp only at b0 c0
  generalize (Rd.mk z false).num 2 = c at c0 b0 n0 hP
  obtain ⟨m, r0⟩ := c
  simp only at c0 b0 n0 hP
  unfold readT readOk
  generalize readP z = t at hP hlen hall ⊢
  have hr0 : r0.b.length ≤ 140737488355328 := Nat.le_trans b0 hz
  clear b0
  refine dcalls_wk ?_
  refine ent tabOK hmix Tryz.func45 rfl rfl fun X0 hX => ?_
  simp only [Tryz.ntmps45, Tryz.f45, go_sem]
  repeat' (first | simp (maxSteps := 1000000) only [*, go_sem, Nat.reduceLT, Nat.reduceLeDiff, Nat.reduceEqDiff, ↓reduceIte, Nat.reduceAdd, Nat.reduceSub, Nat.reduceMul, Int.reduceLT, Int.reduceLE, Int.reduceAdd, Int.reduceSub, Int.reduceMul, Int.reduceNeg, Int.reduceToNat, Int.reduceEq, Int.reduceBEq, Int.reduceBNe, Nat.reduceBEq, beq_self_eq_true, bne_self_eq_false, List.map_cons, List.map_nil] | refine useNB (xs := [.sl 1 (encB z), .b false]) hnr rfl rfl ?_ | ((with_reducible refine useB (c0) ?_ ?_ ?_); (focus exact rfl); (focus exact rfl)) | ((with_reducible refine useB1 (c0) ?_ ?_ ?_); (focus exact rfl); (focus exact rfl)) | with_reducible refine vcond_split (fun _ => ?_) (fun _ => ?_) | with_reducible refine vg_split (fun _ => ?_) (fun _ => ?_) | ((with_reducible apply DCalls.frz); (focus exact rfl); (focus exact rfl)) | ((with_reducible refine And.intro ?_ ?_); (focus (first | omega | decide | assumption | (simp only [decide_eq_true_eq, decide_eq_false_iff_not] at *; omega)))))
  refine vc_virt tabOK hmix 5 5 rfl ?_
  refine loop_ren tabOK hmix (α := Nat × Rd × List It) (fun x => ⟨51, [(0, .c (.p (.sl 1 (encB z)))), (4, .c (.ptr 0 0)), (6, .c (.p (.i .i64 x.1))), (5, .c (.own 1 0 x.2.2.length))], [.box [.p (.sl 1 (encB x.2.1.b)), .p (.b x.2.1.l)], .arr 5 (encT x.2.2) false]⟩)
    (fun x => x.1 ≤ 65535 ∧ x.2.1.b.length ≤ 140737488355328 ∧ x.2.2 ++ Rd.itemsP x.1 x.2.1 = t) (fun x => x.1) (m, r0, []) ⟨by omega, hr0, hP⟩ (.inl (weak_mk (by rw [hX]; rfl) rfl rfl (by simp [wk_cons, wk_nil, look_cons, closedD, closedC, encT_nil, encS_nil, encC_nil]))) ?_
  clear hnr c0 hP n0 hr0
  rintro ⟨n, r, out⟩ ⟨hn, hb, hJ⟩
  simp only at hn hb hJ
  have hcl := rdLack_c (b := encB r.b) (l := r.l)
  have fin : out = t → (n = 0 ∨ r.l = true) → True := fun _ _ => trivial
  by_cases hgo : n ≠ 0 ∧ r.l = false
  · obtain ⟨g1, g2⟩ := hgo
    obtain ⟨n, rfl⟩ := Nat.exists_eq_succ_of_ne_zero g1
    have h1 : decide ((0 : Int) < ((n + 1 : Nat) : Int)) = true := decide_eq_true (by omega)
    have w1 : IntKind.i64.wrap (((n + 1 : Nat) : Int) - 1) = n := by rw [wrap_i64 (by omega) (by omega)]; omega
    have ct := rdText_c (r := r) hb
    have bt := Nat.le_trans r.len_text hb
    have ck := take_c (r := r.text.2) bt
    have bk := Nat.le_trans r.text.2.len_node bt
    have hol : out.length ≤ 65535 := by rw [← hJ, List.length_append] at hlen; omega
    rw [Rd.itemsP, if_neg (by rw [g2]; decide)] at hJ
    rw [g2] at ct hcl
    generalize r.text = x1 at ct ck bt bk hJ
    obtain ⟨p, r1⟩ := x1
    simp only at ct ck bt bk hJ
    generalize r1.take = tk at ck hJ
    generalize r1.node.2 = r2 at ck bk hJ
    obtain ⟨⟨k, md, tt, d⟩, ok⟩ := tk
    simp only at ck hJ
    have hJ2 : n ≤ 65535 ∧ r2.b.length ≤ 140737488355328 ∧ (out ++ [⟨p, ⟨k, md, tt, d⟩⟩]) ++ Rd.itemsP n r2 = t := ⟨by omega, bk, by rw [← hJ]; simp⟩
    clear hJ fin g1 hlen hall
    repeat' (first | simp (maxSteps := 1000000) only [*, go_sem, Nat.reduceLT, Nat.reduceLeDiff, Nat.reduceEqDiff, ↓reduceIte, Nat.reduceAdd, Nat.reduceSub, Nat.reduceMul, Int.reduceLT, Int.reduceLE, Int.reduceAdd, Int.reduceSub, Int.reduceMul, Int.reduceNeg, Int.reduceToNat, Int.reduceEq, Int.reduceBEq, Int.reduceBNe, Nat.reduceBEq, beq_self_eq_true, bne_self_eq_false] | ((with_reducible refine useB (hcl) ?_ ?_ ?_); (focus exact rfl); (focus exact rfl)) | ((with_reducible refine useB1 (hcl) ?_ ?_ ?_); (focus exact rfl); (focus exact rfl)) | ((with_reducible refine useB (ct) ?_ ?_ ?_); (focus exact rfl); (focus exact rfl)) | ((with_reducible refine useB1 (ct) ?_ ?_ ?_); (focus exact rfl); (focus exact rfl)) | ((with_reducible refine useB (ck) ?_ ?_ ?_); (focus exact rfl); (focus exact rfl)) | ((with_reducible refine useB1 (ck) ?_ ?_ ?_); (focus exact rfl); (focus exact rfl)) | with_reducible refine vcond_split (fun _ => ?_) (fun _ => ?_) | with_reducible refine vg_split (fun _ => ?_) (fun _ => ?_) | ((with_reducible apply DCalls.frz); (focus exact rfl); (focus exact rfl)) | ((with_reducible refine And.intro ?_ ?_); (focus (first | omega | decide | assumption | (simp only [decide_eq_true_eq, decide_eq_false_iff_not] at *; omega)))))
    exact qr_ren (n, r2, out ++ [⟨p, ⟨k, md, tt, d⟩⟩]) 1 4 hJ2 (by simp only; omega) rfl rfl (weak_mk rfl rfl rfl (by simp [wk_cons, wk_nil, look_cons, closedD, closedC, renT, renD, renC, encT_nil, encS_nil, encC_nil]))
  · have hout : out = t := by
      rw [← hJ]
      cases n with
      | zero => simp [Rd.itemsP]
      | succ n =>
        have : r.l = true := by simpa using hgo
        simp [Rd.itemsP, this]
    clear hJ fin
    subst hout
    have hll := treeLayN_c (t := out) (by omega) (fun x hx => Nat.le_trans (hall x hx).1 (by decide)) (fun x hx => (hall x hx).2.1)
    have hly := treeLay_c (t := out) (by omega) (fun x hx => Nat.le_trans (hall x hx).1 (by decide)) (fun x hx => (hall x hx).2.1)
    have hbd : rightT out = true → (layTree out).length ≤ 140737488355328 := fun _ => layTree_len (by omega) fun x hx => ⟨(hall x hx).1, (hall x hx).2.2⟩
    have hsp : n = 0 ∨ (decide ((0 : Int) < (n : Int)) = true ∧ r.l = true) := by
      by_cases h0 : n = 0
      · exact .inl h0
      · exact .inr ⟨decide_eq_true (by omega), by simpa [h0] using hgo⟩
    cases hrt : rightT out
    · have hl := hll hrt
      clear hll hly hall hgo
      simp only [Bool.false_and, Bool.false_eq_true, if_false]
      rcases hsp with rfl | ⟨h0, h1⟩
      · repeat' (first | simp (maxSteps := 1000000) only [*, go_sem, Nat.reduceLT, Nat.reduceLeDiff, Nat.reduceEqDiff, ↓reduceIte, Nat.reduceAdd, Nat.reduceSub, Nat.reduceMul, Int.reduceLT, Int.reduceLE, Int.reduceAdd, Int.reduceSub, Int.reduceMul, Int.reduceNeg, Int.reduceToNat, Int.reduceEq, Int.reduceBEq, Int.reduceBNe, Nat.reduceBEq, beq_self_eq_true, bne_self_eq_false] | ((with_reducible refine useB (hcl) ?_ ?_ ?_); (focus exact rfl); (focus exact rfl)) | ((with_reducible refine useB1 (hcl) ?_ ?_ ?_); (focus exact rfl); (focus exact rfl)) | ((with_reducible refine useN (hl) ?_ ?_ ?_); (focus exact rfl); (focus exact fun _ => rfl)) | with_reducible refine vcond_split (fun _ => ?_) (fun _ => ?_) | with_reducible refine vg_split (fun _ => ?_) (fun _ => ?_) | ((with_reducible apply DCalls.frz); (focus exact rfl); (focus exact rfl)) | ((with_reducible refine And.intro ?_ ?_); (focus (first | omega | decide | assumption | (simp only [decide_eq_true_eq, decide_eq_false_iff_not] at *; omega)))))
        all_goals first | exact .inr ⟨_, rfl⟩ | trace_state
      · rw [h1] at hcl
        repeat' (first | simp (maxSteps := 1000000) only [*, go_sem, Nat.reduceLT, Nat.reduceLeDiff, Nat.reduceEqDiff, ↓reduceIte, Nat.reduceAdd, Nat.reduceSub, Nat.reduceMul, Int.reduceLT, Int.reduceLE, Int.reduceAdd, Int.reduceSub, Int.reduceMul, Int.reduceNeg, Int.reduceToNat, Int.reduceEq, Int.reduceBEq, Int.reduceBNe, Nat.reduceBEq, beq_self_eq_true, bne_self_eq_false] | ((with_reducible refine useB (hcl) ?_ ?_ ?_); (focus exact rfl); (focus exact rfl)) | ((with_reducible refine useB1 (hcl) ?_ ?_ ?_); (focus exact rfl); (focus exact rfl)) | ((with_reducible refine useN (hl) ?_ ?_ ?_); (focus exact rfl); (focus exact fun _ => rfl)) | with_reducible refine vcond_split (fun _ => ?_) (fun _ => ?_) | with_reducible refine vg_split (fun _ => ?_) (fun _ => ?_) | ((with_reducible apply DCalls.frz); (focus exact rfl); (focus exact rfl)) | ((with_reducible refine And.intro ?_ ?_); (focus (first | omega | decide | assumption | (simp only [decide_eq_true_eq, decide_eq_false_iff_not] at *; omega)))))
        all_goals first | exact .inr ⟨_, rfl⟩ | trace_state
    · have hl := hly hrt
      have he := sliceEq_c (a := layTree out) (b := z) (hbd hrt)
      clear hll hly hall hgo
      simp only [Bool.true_and]
      cases hq : (layTree out == z)
      · rw [hq] at he
        rcases hsp with rfl | ⟨h0, h1⟩
        · repeat' (first | simp (maxSteps := 1000000) only [*, go_sem, Nat.reduceLT, Nat.reduceLeDiff, Nat.reduceEqDiff, ↓reduceIte, Nat.reduceAdd, Nat.reduceSub, Nat.reduceMul, Int.reduceLT, Int.reduceLE, Int.reduceAdd, Int.reduceSub, Int.reduceMul, Int.reduceNeg, Int.reduceToNat, Int.reduceEq, Int.reduceBEq, Int.reduceBNe, Nat.reduceBEq, beq_self_eq_true, bne_self_eq_false] | ((with_reducible refine useB (hcl) ?_ ?_ ?_); (focus exact rfl); (focus exact rfl)) | ((with_reducible refine useB1 (hcl) ?_ ?_ ?_); (focus exact rfl); (focus exact rfl)) | ((with_reducible refine useN (hl) ?_ ?_ ?_); (focus exact rfl); (focus exact fun _ => rfl)) | ((with_reducible refine useF (he) ?_ ?_ ?_); (focus exact rfl); (focus exact rfl)) | with_reducible refine vcond_split (fun _ => ?_) (fun _ => ?_) | with_reducible refine vg_split (fun _ => ?_) (fun _ => ?_) | ((with_reducible apply DCalls.frz); (focus exact rfl); (focus exact rfl)) | ((with_reducible refine And.intro ?_ ?_); (focus (first | omega | decide | assumption | (simp only [decide_eq_true_eq, decide_eq_false_iff_not] at *; omega)))))
          all_goals first | exact .inr ⟨_, rfl⟩ | trace_state
        · rw [h1] at hcl
          repeat' (first | simp (maxSteps := 1000000) only [*, go_sem, Nat.reduceLT, Nat.reduceLeDiff, Nat.reduceEqDiff, ↓reduceIte, Nat.reduceAdd, Nat.reduceSub, Nat.reduceMul, Int.reduceLT, Int.reduceLE, Int.reduceAdd, Int.reduceSub, Int.reduceMul, Int.reduceNeg, Int.reduceToNat, Int.reduceEq, Int.reduceBEq, Int.reduceBNe, Nat.reduceBEq, beq_self_eq_true, bne_self_eq_false] | ((with_reducible refine useB (hcl) ?_ ?_ ?_); (focus exact rfl); (focus exact rfl)) | ((with_reducible refine useB1 (hcl) ?_ ?_ ?_); (focus exact rfl); (focus exact rfl)) | ((with_reducible refine useN (hl) ?_ ?_ ?_); (focus exact rfl); (focus exact fun _ => rfl)) | ((with_reducible refine useF (he) ?_ ?_ ?_); (focus exact rfl); (focus exact rfl)) | with_reducible refine vcond_split (fun _ => ?_) (fun _ => ?_) | with_reducible refine vg_split (fun _ => ?_) (fun _ => ?_) | ((with_reducible apply DCalls.frz); (focus exact rfl); (focus exact rfl)) | ((with_reducible refine And.intro ?_ ?_); (focus (first | omega | decide | assumption | (simp only [decide_eq_true_eq, decide_eq_false_iff_not] at *; omega)))))
          all_goals first | exact .inr ⟨_, rfl⟩ | trace_state
      · rw [hq] at he
        rcases hsp with rfl | ⟨h0, h1⟩
        · repeat' (first | simp (maxSteps := 1000000) only [*, go_sem, Nat.reduceLT, Nat.reduceLeDiff, Nat.reduceEqDiff, ↓reduceIte, Nat.reduceAdd, Nat.reduceSub, Nat.reduceMul, Int.reduceLT, Int.reduceLE, Int.reduceAdd, Int.reduceSub, Int.reduceMul, Int.reduceNeg, Int.reduceToNat, Int.reduceEq, Int.reduceBEq, Int.reduceBNe, Nat.reduceBEq, beq_self_eq_true, bne_self_eq_false] | ((with_reducible refine useB (hcl) ?_ ?_ ?_); (focus exact rfl); (focus exact rfl)) | ((with_reducible refine useB1 (hcl) ?_ ?_ ?_); (focus exact rfl); (focus exact rfl)) | ((with_reducible refine useN (hl) ?_ ?_ ?_); (focus exact rfl); (focus exact fun _ => rfl)) | ((with_reducible refine useF (he) ?_ ?_ ?_); (focus exact rfl); (focus exact rfl)) | with_reducible refine vcond_split (fun _ => ?_) (fun _ => ?_) | with_reducible refine vg_split (fun _ => ?_) (fun _ => ?_) | ((with_reducible apply DCalls.frz); (focus exact rfl); (focus exact rfl)) | ((with_reducible refine And.intro ?_ ?_); (focus (first | omega | decide | assumption | (simp only [decide_eq_true_eq, decide_eq_false_iff_not] at *; omega)))))
          all_goals first | exact .inr ⟨_, rfl⟩ | trace_state
        · rw [h1] at hcl
          repeat' (first | simp (maxSteps := 1000000) only [*, go_sem, Nat.reduceLT, Nat.reduceLeDiff, Nat.reduceEqDiff, ↓reduceIte, Nat.reduceAdd, Nat.reduceSub, Nat.reduceMul, Int.reduceLT, Int.reduceLE, Int.reduceAdd, Int.reduceSub, Int.reduceMul, Int.reduceNeg, Int.reduceToNat, Int.reduceEq, Int.reduceBEq, Int.reduceBNe, Nat.reduceBEq, beq_self_eq_true, bne_self_eq_false] | ((with_reducible refine useB (hcl) ?_ ?_ ?_); (focus exact rfl); (focus exact rfl)) | ((with_reducible refine useB1 (hcl) ?_ ?_ ?_); (focus exact rfl); (focus exact rfl)) | ((with_reducible refine useN (hl) ?_ ?_ ?_); (focus exact rfl); (focus exact fun _ => rfl)) | ((with_reducible refine useF (he) ?_ ?_ ?_); (focus exact rfl); (focus exact rfl)) | with_reducible refine vcond_split (fun _ => ?_) (fun _ => ?_) | with_reducible refine vg_split (fun _ => ?_) (fun _ => ?_) | ((with_reducible apply DCalls.frz); (focus exact rfl); (focus exact rfl)) | ((with_reducible refine And.intro ?_ ?_); (focus (first | omega | decide | assumption | (simp only [decide_eq_true_eq, decide_eq_false_iff_not] at *; omega)))))
          all_goals first | exact .inr ⟨_, rfl⟩ | trace_state

end Go.Proofs.YtfiopamaiolfhaaGreatDoor
