/-
  The law of trees that are played with, walked.
-/
import Derived.Test.YtfpeelbddefhhaaGreatDoorN4
import Derived.Test.YtfpeelbddefhhaaGreatDoorN6
import Derived.Test.YtfpeelbddefhhaaGreatDoorG5
import Derived.Test.YtfpeelbddefhhaaGreatDoorVE
import Derived.Test.YtfpeelbddefhhaaGreatDoorTC
set_option linter.unusedSimpArgs false
set_option linter.unusedVariables false
namespace Go.Proofs.YtfpeelbddefhhaaGreatDoor
open Go Go.Dm Go.Proofs
set_option maxRecDepth 100000
set_option maxHeartbeats 8000000

theorem treePlays_law {l : List RI} {ts : List RU} {raw : List UInt8} (hl : l.length ≤ 9223372036854775807) (hd : ∀ x ∈ l, x.n.d.length ≤ 9223372036854775807) (hdx : ∀ x ∈ l, x.n.x < 18446744073709551616)
    (hl2 : ts.length ≤ 9223372036854775807) (hd2 : ∀ x ∈ ts, x.n.d.length ≤ 9223372036854775807) (hdx2 : ∀ x ∈ ts, x.n.x < 18446744073709551616) (hraw : raw.length ≤ 1048576) :
    DCalls Tryz.prog 12 [.c (.p (.sl 6 (Go.Dm.encI l))), .c (.p (.sl 8 (Go.Dm.encU ts))), .c (.p (.s raw))] [] fun r h => r = .c (.p (.b true)) ∧ h = [] := by
  refine entS tabOK Tryz.func12 rfl rfl fun X0 hX => ?_
  simp only [Tryz.ntmps12, Tryz.f12, go_sem]
  refine swp_first tabOK hmix ?_
  repeat' (first | simp (maxSteps := 1000000) only [*, go_sem, Nat.reduceLT, Nat.reduceLeDiff, Nat.reduceEqDiff, ↓reduceIte, Nat.reduceAdd, Nat.reduceSub, Nat.reduceMul, Int.reduceLT, Int.reduceLE, Int.reduceAdd, Int.reduceSub, Int.reduceMul, Int.reduceNeg, Int.reduceToNat, Int.reduceEq, Int.reduceBEq, Int.reduceBNe, Nat.reduceBEq, beq_self_eq_true, bne_self_eq_false] | with_reducible refine vcond_split (fun _ => ?_) (fun _ => ?_) | with_reducible refine vg_split (fun _ => ?_) (fun _ => ?_) | ((with_reducible apply DCalls.frz); (focus exact rfl); (focus exact rfl)) | ((with_reducible refine And.intro ?_ ?_); (focus (first | omega | decide | assumption | (simp only [decide_eq_true_eq, decide_eq_false_iff_not] at *; omega)))))
  refine swp_first tabOK hmix ?_
  repeat' (first | simp (maxSteps := 1000000) only [*, go_sem, Nat.reduceLT, Nat.reduceLeDiff, Nat.reduceEqDiff, ↓reduceIte, Nat.reduceAdd, Nat.reduceSub, Nat.reduceMul, Int.reduceLT, Int.reduceLE, Int.reduceAdd, Int.reduceSub, Int.reduceMul, Int.reduceNeg, Int.reduceToNat, Int.reduceEq, Int.reduceBEq, Int.reduceBNe, Nat.reduceBEq, beq_self_eq_true, bne_self_eq_false] | with_reducible refine vcond_split (fun _ => ?_) (fun _ => ?_) | with_reducible refine vg_split (fun _ => ?_) (fun _ => ?_) | ((with_reducible apply DCalls.frz); (focus exact rfl); (focus exact rfl)) | ((with_reducible refine And.intro ?_ ?_); (focus (first | omega | decide | assumption | (simp only [decide_eq_true_eq, decide_eq_false_iff_not] at *; omega)))))
  refine useNE (C := OkT) (e := fun t => .c (.p (.sl 5 (encT t)))) (tree_c hl hd hdx) rfl (fun _ _ _ => rfl) fun t0 ht0 => ?_
  repeat' (first | simp (maxSteps := 1000000) only [*, go_sem, Nat.reduceLT, Nat.reduceLeDiff, Nat.reduceEqDiff, ↓reduceIte, Nat.reduceAdd, Nat.reduceSub, Nat.reduceMul, Int.reduceLT, Int.reduceLE, Int.reduceAdd, Int.reduceSub, Int.reduceMul, Int.reduceNeg, Int.reduceToNat, Int.reduceEq, Int.reduceBEq, Int.reduceBNe, Nat.reduceBEq, beq_self_eq_true, bne_self_eq_false] | with_reducible refine vcond_split (fun _ => ?_) (fun _ => ?_) | with_reducible refine vg_split (fun _ => ?_) (fun _ => ?_) | ((with_reducible apply DCalls.frz); (focus exact rfl); (focus exact rfl)) | ((with_reducible refine And.intro ?_ ?_); (focus (first | omega | decide | assumption | (simp only [decide_eq_true_eq, decide_eq_false_iff_not] at *; omega)))))
  clear hl hd hdx
  have hr0 := treeRight_c ht0
  refine swp_first tabOK hmix ?_
  repeat' (first | simp (maxSteps := 1000000) only [*, go_sem, Nat.reduceLT, Nat.reduceLeDiff, Nat.reduceEqDiff, ↓reduceIte, Nat.reduceAdd, Nat.reduceSub, Nat.reduceMul, Int.reduceLT, Int.reduceLE, Int.reduceAdd, Int.reduceSub, Int.reduceMul, Int.reduceNeg, Int.reduceToNat, Int.reduceEq, Int.reduceBEq, Int.reduceBNe, Nat.reduceBEq, beq_self_eq_true, bne_self_eq_false, Bool.not_true, Bool.not_false] | ((with_reducible refine useF (known11_c) ?_ ?_ ?_); (focus exact rfl); (focus exact rfl)) | ((with_reducible refine useF (hr0) ?_ ?_ ?_); (focus exact rfl); (focus exact rfl)) | with_reducible refine vcond_split (fun _ => ?_) (fun _ => ?_) | with_reducible refine vg_split (fun _ => ?_) (fun _ => ?_) | ((with_reducible apply DCalls.frz); (focus exact rfl); (focus exact rfl)) | ((with_reducible refine And.intro ?_ ?_); (focus (first | omega | decide | assumption | (simp only [decide_eq_true_eq, decide_eq_false_iff_not] at *; omega)))))
  refine swp_first tabOK hmix ?_
  repeat' (first | simp (maxSteps := 1000000) only [*, go_sem, Nat.reduceLT, Nat.reduceLeDiff, Nat.reduceEqDiff, ↓reduceIte, Nat.reduceAdd, Nat.reduceSub, Nat.reduceMul, Int.reduceLT, Int.reduceLE, Int.reduceAdd, Int.reduceSub, Int.reduceMul, Int.reduceNeg, Int.reduceToNat, Int.reduceEq, Int.reduceBEq, Int.reduceBNe, Nat.reduceBEq, beq_self_eq_true, bne_self_eq_false, Bool.not_true, Bool.not_false] | with_reducible refine vcond_split (fun _ => ?_) (fun _ => ?_) | with_reducible refine vg_split (fun _ => ?_) (fun _ => ?_) | ((with_reducible apply DCalls.frz); (focus exact rfl); (focus exact rfl)) | ((with_reducible refine And.intro ?_ ?_); (focus (first | omega | decide | assumption | (simp only [decide_eq_true_eq, decide_eq_false_iff_not] at *; omega)))))
  clear hr0
  refine loop_renS (α := Nat × List It) (fun x => ⟨214, [(1, .c (.p (.sl 8 (Go.Dm.encU ts)))), (2, .c (.p (.s raw))), (7, .c (.p (.sl 5 (encT x.2)))), (8, .c (.p (.i .i64 x.1)))], []⟩)
    (fun x => x.1 ≤ ts.length ∧ x.1 ≤ 16 ∧ OkT x.2) (fun x => ts.length - x.1) (0, t0) ⟨Nat.zero_le _, Nat.zero_le _, ht0⟩ (.inl (weak_mk (by rw [hX]; rfl) rfl rfl (by simp [wk_cons, wk_nil, look_cons, closedD, closedC, renT, renD, renC, encT_nil, encS_nil, encC_nil]))) ?_
  rintro ⟨i, t⟩ ⟨hi, hi2, ht⟩
  simp only at hi hi2 ht
  by_cases hlt : i < ts.length ∧ i < 16
  · obtain ⟨hlt, hl16⟩ := hlt
    have hx : ts[i]? = some ts[i] := List.getElem?_eq_getElem hlt
    have hg := encU_at hx
    have h1 : decide ((i : Int) < (ts.length : Int)) = true := decide_eq_true (by omega)
    have h16 : decide ((i : Int) < 16) = true := decide_eq_true (by omega)
    have hli : (i : Int) < (ts.length : Int) := by omega
    have hi0 : (0 : Int) ≤ i := by omega
    have w1 : IntKind.i64.wrap ((i : Int) + 1) = i + 1 := wrap_i64 (by omega) (by omega)
    have hxd := hd2 _ (List.mem_of_getElem? hx)
    have hxx := hdx2 _ (List.mem_of_getElem? hx)
    generalize ts[i] = x at hx hg hxd hxx
    clear hx hd2 hdx2
    have htl := ht.len
    obtain ⟨nn, ⟨hnn, hnt⟩, hnc⟩ : ∃ nn : Nd, (nn.d.length ≤ 60 ∧ nn.t < 18446744073709551616) ∧ DCalls Tryz.prog 53 [.agg (rnc x.n.k x.n.m x.n.t x.n.x x.n.d)] [] fun r h => r = .agg (ndc nn.k nn.m nn.t nn.d) ∧ h = [] :=
      ⟨nodeF x.n, ⟨nodeD_len x.n, nodeF_wf hxx⟩, nodeF_c hxd⟩
    have hpa : (pathF x.at').length ≤ 1048700 := Nat.le_trans (pathF_len x.at') (by decide)
    have hpt : (pathF x.to').length ≤ 1048700 := Nat.le_trans (pathF_len x.to') (by decide)
    refine swp_first tabOK hmix ?_
    repeat' (first | simp (maxSteps := 1000000) only [*, go_sem, Nat.reduceLT, Nat.reduceLeDiff, Nat.reduceEqDiff, ↓reduceIte, Nat.reduceAdd, Nat.reduceSub, Nat.reduceMul, Int.reduceLT, Int.reduceLE, Int.reduceAdd, Int.reduceSub, Int.reduceMul, Int.reduceNeg, Int.reduceToNat, Int.reduceEq, Int.reduceBEq, Int.reduceBNe, Nat.reduceBEq, beq_self_eq_true, bne_self_eq_false] | with_reducible refine vcond_split (fun _ => ?_) (fun _ => ?_) | with_reducible refine vg_split (fun _ => ?_) (fun _ => ?_) | ((with_reducible apply DCalls.frz); (focus exact rfl); (focus exact rfl)) | ((with_reducible refine And.intro ?_ ?_); (focus (first | omega | decide | assumption | (simp only [decide_eq_true_eq, decide_eq_false_iff_not] at *; omega)))))
    refine swp_seq_block ?_
    refine swp_first tabOK hmix ?_
    repeat' (first | simp (maxSteps := 1000000) only [*, go_sem, Nat.reduceLT, Nat.reduceLeDiff, Nat.reduceEqDiff, ↓reduceIte, Nat.reduceAdd, Nat.reduceSub, Nat.reduceMul, Int.reduceLT, Int.reduceLE, Int.reduceAdd, Int.reduceSub, Int.reduceMul, Int.reduceNeg, Int.reduceToNat, Int.reduceEq, Int.reduceBEq, Int.reduceBNe, Nat.reduceBEq, beq_self_eq_true, bne_self_eq_false] | with_reducible refine vcond_split (fun _ => ?_) (fun _ => ?_) | with_reducible refine vg_split (fun _ => ?_) (fun _ => ?_) | ((with_reducible apply DCalls.frz); (focus exact rfl); (focus exact rfl)) | ((with_reducible refine And.intro ?_ ?_); (focus (first | omega | decide | assumption | (simp only [decide_eq_true_eq, decide_eq_false_iff_not] at *; omega)))))
    refine swp_first tabOK hmix ?_
    repeat' (first | simp (maxSteps := 1000000) only [*, go_sem, Nat.reduceLT, Nat.reduceLeDiff, Nat.reduceEqDiff, ↓reduceIte, Nat.reduceAdd, Nat.reduceSub, Nat.reduceMul, Int.reduceLT, Int.reduceLE, Int.reduceAdd, Int.reduceSub, Int.reduceMul, Int.reduceNeg, Int.reduceToNat, Int.reduceEq, Int.reduceBEq, Int.reduceBNe, Nat.reduceBEq, beq_self_eq_true, bne_self_eq_false] | ((with_reducible refine useF (Path_c) ?_ ?_ ?_); (focus exact rfl); (focus exact rfl)) | with_reducible refine vcond_split (fun _ => ?_) (fun _ => ?_) | with_reducible refine vg_split (fun _ => ?_) (fun _ => ?_) | ((with_reducible apply DCalls.frz); (focus exact rfl); (focus exact rfl)) | ((with_reducible refine And.intro ?_ ?_); (focus (first | omega | decide | assumption | (simp only [decide_eq_true_eq, decide_eq_false_iff_not] at *; omega)))))
    refine swp_first tabOK hmix ?_
    repeat' (first | simp (maxSteps := 1000000) only [*, go_sem, Nat.reduceLT, Nat.reduceLeDiff, Nat.reduceEqDiff, ↓reduceIte, Nat.reduceAdd, Nat.reduceSub, Nat.reduceMul, Int.reduceLT, Int.reduceLE, Int.reduceAdd, Int.reduceSub, Int.reduceMul, Int.reduceNeg, Int.reduceToNat, Int.reduceEq, Int.reduceBEq, Int.reduceBNe, Nat.reduceBEq, beq_self_eq_true, bne_self_eq_false] | ((with_reducible refine useF (Path_c) ?_ ?_ ?_); (focus exact rfl); (focus exact rfl)) | with_reducible refine vcond_split (fun _ => ?_) (fun _ => ?_) | with_reducible refine vg_split (fun _ => ?_) (fun _ => ?_) | ((with_reducible apply DCalls.frz); (focus exact rfl); (focus exact rfl)) | ((with_reducible refine And.intro ?_ ?_); (focus (first | omega | decide | assumption | (simp only [decide_eq_true_eq, decide_eq_false_iff_not] at *; omega)))))
    generalize hq0 : pathF x.to' = q0 at hpt ⊢
    clear hq0
    refine swp_join tabOK hmix (α := List UInt8) (fun p => ⟨214, [(1, .c (.p (.sl 8 (Go.Dm.encU ts)))), (2, .c (.p (.s raw))), (7, .c (.p (.sl 5 (encT t)))), (8, .c (.p (.i .i64 i))), (9, .c (.ptr 0 0)), (10, .c (.p (.s p))), (11, .c (.p (.s q0)))], [.box [.p (.i .i64 x.what), .p (.i .i64 x.at'), .p (.i .i64 x.to'), .p (.i .i64 x.n.k), .p (.i .i64 x.n.m), .p (.i .i64 x.n.t), .p (.f x.n.x), .p (.sl 1 (encB x.n.d))]]⟩) (fun p => p.length ≤ 1048700) ?_ ?_
    · by_cases ht0 : 0 < t.length
      · obtain ⟨j, hj, hjl⟩ : ∃ j : Nat, (IntKind.i64.wrap (x.at'.tdiv 3)) % (t.length : Int) = (j : Int) ∧ j < t.length := by
          refine ⟨((IntKind.i64.wrap (x.at'.tdiv 3)) % (t.length : Int)).toNat, ?_⟩
          have := Int.emod_nonneg (IntKind.i64.wrap (x.at'.tdiv 3)) (show (t.length : Int) ≠ 0 by omega)
          have := Int.emod_lt_of_pos (IntKind.i64.wrap (x.at'.tdiv 3)) (show (0 : Int) < t.length by omega)
          omega
        have hy : t[j]? = some t[j] := List.getElem?_eq_getElem hjl
        have hgy := encT_at hy
        have hyp := ht.plen _ (List.getElem_mem hjl)
        have h2 : decide ((0 : Int) < (t.length : Int)) = true := decide_eq_true (by omega)
        generalize t[j] = y at hy hgy hyp
        have hyp2 : y.p.length ≤ 1048700 := by omega
        clear hy
        repeat' (first | simp (maxSteps := 1000000) only [*, go_sem, Nat.reduceLT, Nat.reduceLeDiff, Nat.reduceEqDiff, ↓reduceIte, Nat.reduceAdd, Nat.reduceSub, Nat.reduceMul, Int.reduceLT, Int.reduceLE, Int.reduceAdd, Int.reduceSub, Int.reduceMul, Int.reduceNeg, Int.reduceToNat, Int.reduceEq, Int.reduceBEq, Int.reduceBNe, Nat.reduceBEq, beq_self_eq_true, bne_self_eq_false] | ((with_reducible refine useF (Pick_c (by omega) (by omega)) ?_ ?_ ?_); (focus exact rfl); (focus exact rfl)) | with_reducible refine vcond_split (fun _ => ?_) (fun _ => ?_) | with_reducible refine vg_split (fun _ => ?_) (fun _ => ?_) | ((with_reducible apply DCalls.frz); (focus exact rfl); (focus exact rfl)) | ((with_reducible refine And.intro ?_ ?_); (focus (first | omega | decide | assumption | (simp only [decide_eq_true_eq, decide_eq_false_iff_not] at *; omega)))))
        · exact qj_n y.p hyp2 (weak_mk (by rw [hX]; rfl) rfl rfl (by simp [wk_cons, wk_nil, look_cons, closedD, closedC, renT, renD, renC, encT_nil, encS_nil, encC_nil]))
        · exact qj_n (pathF x.at') hpa (weak_mk (by rw [hX]; rfl) rfl rfl (by simp [wk_cons, wk_nil, look_cons, closedD, closedC, renT, renD, renC, encT_nil, encS_nil, encC_nil]))
      · have h2 : decide ((0 : Int) < (t.length : Int)) = false := decide_eq_false (by omega)
        repeat' (first | simp (maxSteps := 1000000) only [*, go_sem, Nat.reduceLT, Nat.reduceLeDiff, Nat.reduceEqDiff, ↓reduceIte, Nat.reduceAdd, Nat.reduceSub, Nat.reduceMul, Int.reduceLT, Int.reduceLE, Int.reduceAdd, Int.reduceSub, Int.reduceMul, Int.reduceNeg, Int.reduceToNat, Int.reduceEq, Int.reduceBEq, Int.reduceBNe, Nat.reduceBEq, beq_self_eq_true, bne_self_eq_false] | with_reducible refine vcond_split (fun _ => ?_) (fun _ => ?_) | with_reducible refine vg_split (fun _ => ?_) (fun _ => ?_) | ((with_reducible apply DCalls.frz); (focus exact rfl); (focus exact rfl)) | ((with_reducible refine And.intro ?_ ?_); (focus (first | omega | decide | assumption | (simp only [decide_eq_true_eq, decide_eq_false_iff_not] at *; omega)))))
        exact qj_n (pathF x.at') hpa (weak_mk (by rw [hX]; rfl) rfl rfl (by simp [wk_cons, wk_nil, look_cons, closedD, closedC, renT, renD, renC, encT_nil, encS_nil, encC_nil]))
    intro p hp
    refine swp_join tabOK hmix (α := List UInt8) (fun p => ⟨214, [(1, .c (.p (.sl 8 (Go.Dm.encU ts)))), (2, .c (.p (.s raw))), (7, .c (.p (.sl 5 (encT t)))), (8, .c (.p (.i .i64 i))), (9, .c (.ptr 0 0)), (10, .c (.p (.s p))), (11, .c (.p (.s q0)))], [.box [.p (.i .i64 x.what), .p (.i .i64 x.at'), .p (.i .i64 x.to'), .p (.i .i64 x.n.k), .p (.i .i64 x.n.m), .p (.i .i64 x.n.t), .p (.f x.n.x), .p (.sl 1 (encB x.n.d))]]⟩) (fun p => p.length ≤ 1048700) ?_ ?_
    · repeat' (first | simp (maxSteps := 1000000) only [*, go_sem, Nat.reduceLT, Nat.reduceLeDiff, Nat.reduceEqDiff, ↓reduceIte, Nat.reduceAdd, Nat.reduceSub, Nat.reduceMul, Int.reduceLT, Int.reduceLE, Int.reduceAdd, Int.reduceSub, Int.reduceMul, Int.reduceNeg, Int.reduceToNat, Int.reduceEq, Int.reduceBEq, Int.reduceBNe, Nat.reduceBEq, beq_self_eq_true, bne_self_eq_false] | with_reducible refine vcond_split (fun _ => ?_) (fun _ => ?_) | with_reducible refine vg_split (fun _ => ?_) (fun _ => ?_) | ((with_reducible apply DCalls.frz); (focus exact rfl); (focus exact rfl)) | ((with_reducible refine And.intro ?_ ?_); (focus (first | omega | decide | assumption | (simp only [decide_eq_true_eq, decide_eq_false_iff_not] at *; omega)))))
      · exact qj_n raw (by omega) (weak_mk (by rw [hX]; rfl) rfl rfl (by simp [wk_cons, wk_nil, look_cons, closedD, closedC, renT, renD, renC, encT_nil, encS_nil, encC_nil]))
      · exact qj_n p hp (weak_mk (by rw [hX]; rfl) rfl rfl (by simp [wk_cons, wk_nil, look_cons, closedD, closedC, renT, renD, renC, encT_nil, encS_nil, encC_nil]))
    clear hp p hpa
    intro p hp
    refine swp_join tabOK hmix (α := List UInt8) (fun q => ⟨214, [(1, .c (.p (.sl 8 (Go.Dm.encU ts)))), (2, .c (.p (.s raw))), (7, .c (.p (.sl 5 (encT t)))), (8, .c (.p (.i .i64 i))), (9, .c (.ptr 0 0)), (10, .c (.p (.s p))), (11, .c (.p (.s q)))], [.box [.p (.i .i64 x.what), .p (.i .i64 x.at'), .p (.i .i64 x.to'), .p (.i .i64 x.n.k), .p (.i .i64 x.n.m), .p (.i .i64 x.n.t), .p (.f x.n.x), .p (.sl 1 (encB x.n.d))]]⟩) (fun p => p.length ≤ 1048700) ?_ ?_
    · repeat' (first | simp (maxSteps := 1000000) only [*, go_sem, Nat.reduceLT, Nat.reduceLeDiff, Nat.reduceEqDiff, ↓reduceIte, Nat.reduceAdd, Nat.reduceSub, Nat.reduceMul, Int.reduceLT, Int.reduceLE, Int.reduceAdd, Int.reduceSub, Int.reduceMul, Int.reduceNeg, Int.reduceToNat, Int.reduceEq, Int.reduceBEq, Int.reduceBNe, Nat.reduceBEq, beq_self_eq_true, bne_self_eq_false] | with_reducible refine vcond_split (fun _ => ?_) (fun _ => ?_) | with_reducible refine vg_split (fun _ => ?_) (fun _ => ?_) | ((with_reducible apply DCalls.frz); (focus exact rfl); (focus exact rfl)) | ((with_reducible refine And.intro ?_ ?_); (focus (first | omega | decide | assumption | (simp only [decide_eq_true_eq, decide_eq_false_iff_not] at *; omega)))))
      · exact qj_n [] (by simp) (weak_mk (by rw [hX]; rfl) rfl rfl (by simp [wk_cons, wk_nil, look_cons, closedD, closedC, renT, renD, renC, encT_nil, encS_nil, encC_nil]))
      · exact qj_n q0 hpt (weak_mk (by rw [hX]; rfl) rfl rfl (by simp [wk_cons, wk_nil, look_cons, closedD, closedC, renT, renD, renC, encT_nil, encS_nil, encC_nil]))
    clear hpt q0
    intro q0 hpt
    refine swp_join tabOK hmix (α := List UInt8) (fun q => ⟨214, [(1, .c (.p (.sl 8 (Go.Dm.encU ts)))), (2, .c (.p (.s raw))), (7, .c (.p (.sl 5 (encT t)))), (8, .c (.p (.i .i64 i))), (9, .c (.ptr 0 0)), (10, .c (.p (.s p))), (11, .c (.p (.s q)))], [.box [.p (.i .i64 x.what), .p (.i .i64 x.at'), .p (.i .i64 x.to'), .p (.i .i64 x.n.k), .p (.i .i64 x.n.m), .p (.i .i64 x.n.t), .p (.f x.n.x), .p (.sl 1 (encB x.n.d))]]⟩) (fun p => p.length ≤ 2100000) ?_ ?_
    · have hpq : (p ++ [47] ++ q0).length ≤ 2100000 := by simp; omega
      have hb1 : p.length + 1 ≤ 9223372036854775807 := by omega
      have hb2 : p.length + 1 + q0.length ≤ 9223372036854775807 := by omega
      repeat' (first | simp (maxSteps := 1000000) only [*, go_sem, Nat.reduceLT, Nat.reduceLeDiff, Nat.reduceEqDiff, ↓reduceIte, Nat.reduceAdd, Nat.reduceSub, Nat.reduceMul, Int.reduceLT, Int.reduceLE, Int.reduceAdd, Int.reduceSub, Int.reduceMul, Int.reduceNeg, Int.reduceToNat, Int.reduceEq, Int.reduceBEq, Int.reduceBNe, Nat.reduceBEq, beq_self_eq_true, bne_self_eq_false] | with_reducible refine vcond_split (fun _ => ?_) (fun _ => ?_) | with_reducible refine vg_split (fun _ => ?_) (fun _ => ?_) | ((with_reducible apply DCalls.frz); (focus exact rfl); (focus exact rfl)) | ((with_reducible refine And.intro ?_ ?_); (focus (first | omega | decide | assumption | (simp only [decide_eq_true_eq, decide_eq_false_iff_not] at *; omega)))))
      · exact qj_n (p ++ [47] ++ q0) hpq (weak_mk (by rw [hX]; rfl) rfl rfl (by simp [wk_cons, wk_nil, look_cons, closedD, closedC, renT, renD, renC, encT_nil, encS_nil, encC_nil]))
      · exact qj_n q0 (by omega) (weak_mk (by rw [hX]; rfl) rfl rfl (by simp [wk_cons, wk_nil, look_cons, closedD, closedC, renT, renD, renC, encT_nil, encS_nil, encC_nil]))
    clear hpt q0
    intro q hq
    have hdl : ∀ x ∈ t, x.n.d.length ≤ 140737488355328 := fun x hx => Nat.le_trans (ht.dlen x hx) (by decide)
    have hup : ∀ x ∈ t, x.p.length ≤ 9223372036854775807 := fun x hx => Nat.le_trans (ht.plen x hx) (by decide)
    have huq : ∀ x ∈ t, x.p.length ≤ 1000000000 := fun x hx => Nat.le_trans (ht.plen x hx) (by decide)
    have c1 := treeRemove_c (t := t) (p := p) (by omega) (by omega) hdl
    have c2 := removeR_c (t := t) (p := p) (by omega) (by omega) hup
    have c3 := move_c (t := t) (a := p) (b := q) ht (by omega) (by omega)
    have c4 := moveR_c (t := t) (a := p) (b := q) (by omega) (by omega) (by omega) huq
    have c5 := put_c (t := t) (p := p) (k := nn.k) (m := nn.m) (tt := nn.t) (d := nn.d) ht (by omega) (by omega) hnt
    have c6 := putR_c (t := t) (p := p) (k := nn.k) (m := nn.m) (tt := nn.t) (d := nn.d) (by omega) (by omega) hup (by omega)
    have c7 := put_c (t := t) (p := p) (k := nn.k) (m := -1) (tt := nn.t) (d := nn.d) ht (by omega) (by omega) hnt
    have c8 := putR_c (t := t) (p := p) (k := nn.k) (m := -1) (tt := nn.t) (d := nn.d) (by omega) (by omega) hup (by omega)
    have m1 := made_remove (p := p) ht
    have m2 := made_move (a := p) (b := q) ht
    have m3 := made_put (p := p) (n := ⟨nn.k, nn.m, nn.t, nn.d⟩) ht hnt
    have m4 := made_put (p := p) (n := ⟨nn.k, -1, nn.t, nn.d⟩) ht hnt
    generalize removeR t p = t1 at c1 c2 m1
    generalize moveR t p q = t2 at c3 c4 m2
    generalize putR t p ⟨nn.k, nn.m, nn.t, nn.d⟩ = t3 at c5 c6 m3
    generalize putR t p ⟨nn.k, -1, nn.t, nn.d⟩ = t4 at c7 c8 m4
    refine swp_first tabOK hmix ?_
    repeat' (first | simp (maxSteps := 1000000) only [*, go_sem, Nat.reduceLT, Nat.reduceLeDiff, Nat.reduceEqDiff, ↓reduceIte, Nat.reduceAdd, Nat.reduceSub, Nat.reduceMul, Int.reduceLT, Int.reduceLE, Int.reduceAdd, Int.reduceSub, Int.reduceMul, Int.reduceNeg, Int.reduceToNat, Int.reduceEq, Int.reduceBEq, Int.reduceBNe, Nat.reduceBEq, beq_self_eq_true, bne_self_eq_false] | with_reducible refine vcond_split (fun _ => ?_) (fun _ => ?_) | with_reducible refine vg_split (fun _ => ?_) (fun _ => ?_) | ((with_reducible apply DCalls.frz); (focus exact rfl); (focus exact rfl)) | ((with_reducible refine And.intro ?_ ?_); (focus (first | omega | decide | assumption | (simp only [decide_eq_true_eq, decide_eq_false_iff_not] at *; omega)))))
    refine swp_first tabOK hmix ?_
    repeat' (first | simp (maxSteps := 1000000) only [*, go_sem, Nat.reduceLT, Nat.reduceLeDiff, Nat.reduceEqDiff, ↓reduceIte, Nat.reduceAdd, Nat.reduceSub, Nat.reduceMul, Int.reduceLT, Int.reduceLE, Int.reduceAdd, Int.reduceSub, Int.reduceMul, Int.reduceNeg, Int.reduceToNat, Int.reduceEq, Int.reduceBEq, Int.reduceBNe, Nat.reduceBEq, beq_self_eq_true, bne_self_eq_false] | with_reducible refine vcond_split (fun _ => ?_) (fun _ => ?_) | with_reducible refine vg_split (fun _ => ?_) (fun _ => ?_) | ((with_reducible apply DCalls.frz); (focus exact rfl); (focus exact rfl)) | ((with_reducible refine And.intro ?_ ?_); (focus (first | omega | decide | assumption | (simp only [decide_eq_true_eq, decide_eq_false_iff_not] at *; omega)))))
    refine swp_join tabOK hmix (α := List It × Int) (fun u => ⟨214, [(1, .c (.p (.sl 8 (Go.Dm.encU ts)))), (2, .c (.p (.s raw))), (7, .c (.p (.sl 5 (encT t)))), (8, .c (.p (.i .i64 i))), (10, .c (.p (.s p))), (12, .c (.p (.sl 5 (encT u.1)))), (13, .c (.p (.sl 5 (encT u.1)))), (14, .c (.p (.i .i64 u.2))), (15, .c (.p (.i .i64 u.2)))], []⟩) MadeT ?_ ?_
    · have hM1 := PLift.up m1
      have hM2 := PLift.up m2
      have hM3 := PLift.up m3
      have hM4 := PLift.up m4
      clear m1 m2 m3 m4 hdl hup huq
      repeat' (first | simp (maxSteps := 1000000) only [*, go_sem, Nat.reduceLT, Nat.reduceLeDiff, Nat.reduceEqDiff, ↓reduceIte, Nat.reduceAdd, Nat.reduceSub, Nat.reduceMul, Int.reduceLT, Int.reduceLE, Int.reduceAdd, Int.reduceSub, Int.reduceMul, Int.reduceNeg, Int.reduceToNat, Int.reduceEq, Int.reduceBEq, Int.reduceBNe, Nat.reduceBEq, beq_self_eq_true, bne_self_eq_false] | ((with_reducible refine useF (Pick_c (by omega) (by omega)) ?_ ?_ ?_); (focus exact rfl); (focus exact rfl)) | ((with_reducible refine useN (c1) ?_ ?_ ?_); (focus exact rfl); (focus exact fun _ => rfl)) | ((with_reducible refine useN (c2) ?_ ?_ ?_); (focus exact rfl); (focus exact fun _ => rfl)) | ((with_reducible refine useN (c3) ?_ ?_ ?_); (focus exact rfl); (focus exact fun _ => rfl)) | ((with_reducible refine useN (c4) ?_ ?_ ?_); (focus exact rfl); (focus exact fun _ => rfl)) | ((with_reducible refine useN (c5) ?_ ?_ ?_); (focus exact rfl); (focus exact fun _ => rfl)) | ((with_reducible refine useN (c6) ?_ ?_ ?_); (focus exact rfl); (focus exact fun _ => rfl)) | ((with_reducible refine useN (c7) ?_ ?_ ?_); (focus exact rfl); (focus exact fun _ => rfl)) | ((with_reducible refine useN (c8) ?_ ?_ ?_); (focus exact rfl); (focus exact fun _ => rfl)) | ((with_reducible refine useN (hnc) ?_ ?_ ?_); (focus exact rfl); (focus exact fun _ => rfl)) | with_reducible refine vcond_split (fun _ => ?_) (fun _ => ?_) | with_reducible refine vg_split (fun _ => ?_) (fun _ => ?_) | ((with_reducible apply DCalls.frz); (focus exact rfl); (focus exact rfl)) | ((with_reducible refine And.intro ?_ ?_); (focus (first | omega | decide | assumption | (simp only [decide_eq_true_eq, decide_eq_false_iff_not] at *; omega)))))
      · exact qj_n (t1, 0) hM1.down (weak_mk (by rw [hX]; rfl) rfl rfl (by simp [wk_cons, wk_nil, look_cons, closedD, closedC, renT, renD, renC, encT_nil, encS_nil, encC_nil]))
      · exact qj_n t2 hM2.down (weak_mk (by rw [hX]; rfl) rfl rfl (by simp [wk_cons, wk_nil, look_cons, closedD, closedC, renT, renD, renC, encT_nil, encS_nil, encC_nil]))
      · exact qj_n t2 hM2.down (weak_mk (by rw [hX]; rfl) rfl rfl (by simp [wk_cons, wk_nil, look_cons, closedD, closedC, renT, renD, renC, encT_nil, encS_nil, encC_nil]))
      · exact qj_n t4 hM4.down (weak_mk (by rw [hX]; rfl) rfl rfl (by simp [wk_cons, wk_nil, look_cons, closedD, closedC, renT, renD, renC, encT_nil, encS_nil, encC_nil]))
      · exact qj_n t3 hM3.down (weak_mk (by rw [hX]; rfl) rfl rfl (by simp [wk_cons, wk_nil, look_cons, closedD, closedC, renT, renD, renC, encT_nil, encS_nil, encC_nil]))
    clear c1 c2 c3 c4 c5 c6 c7 c8 m1 m2 m3 m4 hnc hq q hdl hup huq
    rintro ⟨u, e⟩ hm
    have hul := hm.len
    obtain ⟨m0, m1⟩ := hm
    simp only at hul m0 m1
    have hs := sameT_c (a := u) hul
    refine swp_first tabOK hmix ?_
    repeat' (first | simp (maxSteps := 1000000) only [*, go_sem, Nat.reduceLT, Nat.reduceLeDiff, Nat.reduceEqDiff, ↓reduceIte, Nat.reduceAdd, Nat.reduceSub, Nat.reduceMul, Int.reduceLT, Int.reduceLE, Int.reduceAdd, Int.reduceSub, Int.reduceMul, Int.reduceNeg, Int.reduceToNat, Int.reduceEq, Int.reduceBEq, Int.reduceBNe, Nat.reduceBEq, beq_self_eq_true, bne_self_eq_false, Bool.not_true, Bool.not_false] | ((with_reducible refine useF (hs) ?_ ?_ ?_); (focus exact rfl); (focus exact rfl)) | with_reducible refine vcond_split (fun _ => ?_) (fun _ => ?_) | with_reducible refine vg_split (fun _ => ?_) (fun _ => ?_) | ((with_reducible apply DCalls.frz); (focus exact rfl); (focus exact rfl)) | ((with_reducible refine And.intro ?_ ?_); (focus (first | omega | decide | assumption | (simp only [decide_eq_true_eq, decide_eq_false_iff_not] at *; omega)))))
    refine swp_join tabOK hmix (α := List It) (fun t => ⟨214, [(1, .c (.p (.sl 8 (Go.Dm.encU ts)))), (2, .c (.p (.s raw))), (7, .c (.p (.sl 5 (encT t)))), (8, .c (.p (.i .i64 i))), (10, .c (.p (.s p)))], []⟩) OkT ?_ ?_
    · by_cases he : e = 0
      · subst he
        have hu := m0 rfl
        clear m0 m1
        repeat' (first | simp (maxSteps := 1000000) only [*, go_sem, Nat.reduceLT, Nat.reduceLeDiff, Nat.reduceEqDiff, ↓reduceIte, Nat.reduceAdd, Nat.reduceSub, Nat.reduceMul, Int.reduceLT, Int.reduceLE, Int.reduceAdd, Int.reduceSub, Int.reduceMul, Int.reduceNeg, Int.reduceToNat, Int.reduceEq, Int.reduceBEq, Int.reduceBNe, Nat.reduceBEq, beq_self_eq_true, bne_self_eq_false] | with_reducible refine vcond_split (fun _ => ?_) (fun _ => ?_) | with_reducible refine vg_split (fun _ => ?_) (fun _ => ?_) | ((with_reducible apply DCalls.frz); (focus exact rfl); (focus exact rfl)) | ((with_reducible refine And.intro ?_ ?_); (focus (first | omega | decide | assumption | (simp only [decide_eq_true_eq, decide_eq_false_iff_not] at *; omega)))))
        exact qj_n u hu (weak_mk (by rw [hX]; rfl) rfl rfl (by simp [wk_cons, wk_nil, look_cons, closedD, closedC, renT, renD, renC, encT_nil, encS_nil, encC_nil]))
      · have he2 : (e == 0) = false := by simpa using he
        clear m0 m1
        repeat' (first | simp (maxSteps := 1000000) only [*, go_sem, Nat.reduceLT, Nat.reduceLeDiff, Nat.reduceEqDiff, ↓reduceIte, Nat.reduceAdd, Nat.reduceSub, Nat.reduceMul, Int.reduceLT, Int.reduceLE, Int.reduceAdd, Int.reduceSub, Int.reduceMul, Int.reduceNeg, Int.reduceToNat, Int.reduceEq, Int.reduceBEq, Int.reduceBNe, Nat.reduceBEq, beq_self_eq_true, bne_self_eq_false] | with_reducible refine vcond_split (fun _ => ?_) (fun _ => ?_) | with_reducible refine vg_split (fun _ => ?_) (fun _ => ?_) | ((with_reducible apply DCalls.frz); (focus exact rfl); (focus exact rfl)) | ((with_reducible refine And.intro ?_ ?_); (focus (first | omega | decide | assumption | (simp only [decide_eq_true_eq, decide_eq_false_iff_not] at *; omega)))))
        exact qj_n t ht (weak_mk (by rw [hX]; rfl) rfl rfl (by simp [wk_cons, wk_nil, look_cons, closedD, closedC, renT, renD, renC, encT_nil, encS_nil, encC_nil]))
    clear hs m0 m1 hul ht htl
    intro t ht
    have htl := ht.len
    have d1 := treeGet_c (t := t) (p := p) (by omega) ht.srt ht.ne (fun x hx => Nat.le_trans (ht.dlen x hx) (by decide))
    have d2 := getR_c (t := t) (p := p) (by omega)
    have d3 := names_c (t := t) (p := p) ht
    have d4 := refNames_c (t := t) (p := p) ht
    have d5 := treeIsDir_c (t := t) (p := p) (by omega) ht.srt
    have d6 := isDirR_c (t := t) (p := p) (by omega)
    have d7 := treeRight_c ht
    have hnl : (namesF t p).length ≤ 120 := by
      unfold namesF dirNames
      rw [List.length_mergeSort, List.length_map]
      exact Nat.le_trans (List.length_filter_le ..) htl
    have hsn := sameNd_refl ((getR t p).getD nd0)
    generalize (getR t p).getD nd0 = n1 at d1 d2 hsn
    generalize (getR t p).isSome = b1 at d1 d2
    generalize namesF t p = ns at d3 d4 hnl
    generalize isDirR t p = b2 at d5 d6
    have hb1 : (b1 != b1) = false := by cases b1 <;> rfl
    have hb2 : (b2 != b2) = false := by cases b2 <;> rfl
    refine swp_first tabOK hmix ?_
    repeat' (first | simp (maxSteps := 1000000) only [*, go_sem, Nat.reduceLT, Nat.reduceLeDiff, Nat.reduceEqDiff, ↓reduceIte, Nat.reduceAdd, Nat.reduceSub, Nat.reduceMul, Int.reduceLT, Int.reduceLE, Int.reduceAdd, Int.reduceSub, Int.reduceMul, Int.reduceNeg, Int.reduceToNat, Int.reduceEq, Int.reduceBEq, Int.reduceBNe, Nat.reduceBEq, beq_self_eq_true, bne_self_eq_false] | ((with_reducible refine useN (d1) ?_ ?_ ?_); (focus exact rfl); (focus exact fun _ => rfl)) | with_reducible refine vcond_split (fun _ => ?_) (fun _ => ?_) | with_reducible refine vg_split (fun _ => ?_) (fun _ => ?_) | ((with_reducible apply DCalls.frz); (focus exact rfl); (focus exact rfl)) | ((with_reducible refine And.intro ?_ ?_); (focus (first | omega | decide | assumption | (simp only [decide_eq_true_eq, decide_eq_false_iff_not] at *; omega)))))
    refine swp_first tabOK hmix ?_
    repeat' (first | simp (maxSteps := 1000000) only [*, go_sem, Nat.reduceLT, Nat.reduceLeDiff, Nat.reduceEqDiff, ↓reduceIte, Nat.reduceAdd, Nat.reduceSub, Nat.reduceMul, Int.reduceLT, Int.reduceLE, Int.reduceAdd, Int.reduceSub, Int.reduceMul, Int.reduceNeg, Int.reduceToNat, Int.reduceEq, Int.reduceBEq, Int.reduceBNe, Nat.reduceBEq, beq_self_eq_true, bne_self_eq_false] | ((with_reducible refine useN (d2) ?_ ?_ ?_); (focus exact rfl); (focus exact fun _ => rfl)) | with_reducible refine vcond_split (fun _ => ?_) (fun _ => ?_) | with_reducible refine vg_split (fun _ => ?_) (fun _ => ?_) | ((with_reducible apply DCalls.frz); (focus exact rfl); (focus exact rfl)) | ((with_reducible refine And.intro ?_ ?_); (focus (first | omega | decide | assumption | (simp only [decide_eq_true_eq, decide_eq_false_iff_not] at *; omega)))))
    refine swp_first tabOK hmix ?_
    repeat' (first | simp (maxSteps := 1000000) only [*, go_sem, Nat.reduceLT, Nat.reduceLeDiff, Nat.reduceEqDiff, ↓reduceIte, Nat.reduceAdd, Nat.reduceSub, Nat.reduceMul, Int.reduceLT, Int.reduceLE, Int.reduceAdd, Int.reduceSub, Int.reduceMul, Int.reduceNeg, Int.reduceToNat, Int.reduceEq, Int.reduceBEq, Int.reduceBNe, Nat.reduceBEq, beq_self_eq_true, bne_self_eq_false] | ((with_reducible refine useN (d3) ?_ ?_ ?_); (focus exact rfl); (focus exact fun _ => rfl)) | with_reducible refine vcond_split (fun _ => ?_) (fun _ => ?_) | with_reducible refine vg_split (fun _ => ?_) (fun _ => ?_) | ((with_reducible apply DCalls.frz); (focus exact rfl); (focus exact rfl)) | ((with_reducible refine And.intro ?_ ?_); (focus (first | omega | decide | assumption | (simp only [decide_eq_true_eq, decide_eq_false_iff_not] at *; omega)))))
    refine swp_first tabOK hmix ?_
    repeat' (first | simp (maxSteps := 1000000) only [*, go_sem, Nat.reduceLT, Nat.reduceLeDiff, Nat.reduceEqDiff, ↓reduceIte, Nat.reduceAdd, Nat.reduceSub, Nat.reduceMul, Int.reduceLT, Int.reduceLE, Int.reduceAdd, Int.reduceSub, Int.reduceMul, Int.reduceNeg, Int.reduceToNat, Int.reduceEq, Int.reduceBEq, Int.reduceBNe, Nat.reduceBEq, beq_self_eq_true, bne_self_eq_false] | ((with_reducible refine useN (d4) ?_ ?_ ?_); (focus exact rfl); (focus exact fun _ => rfl)) | with_reducible refine vcond_split (fun _ => ?_) (fun _ => ?_) | with_reducible refine vg_split (fun _ => ?_) (fun _ => ?_) | ((with_reducible apply DCalls.frz); (focus exact rfl); (focus exact rfl)) | ((with_reducible refine And.intro ?_ ?_); (focus (first | omega | decide | assumption | (simp only [decide_eq_true_eq, decide_eq_false_iff_not] at *; omega)))))
    refine swp_first tabOK hmix ?_
    repeat' (first | simp (maxSteps := 1000000) only [*, go_sem, Nat.reduceLT, Nat.reduceLeDiff, Nat.reduceEqDiff, ↓reduceIte, Nat.reduceAdd, Nat.reduceSub, Nat.reduceMul, Int.reduceLT, Int.reduceLE, Int.reduceAdd, Int.reduceSub, Int.reduceMul, Int.reduceNeg, Int.reduceToNat, Int.reduceEq, Int.reduceBEq, Int.reduceBNe, Nat.reduceBEq, beq_self_eq_true, bne_self_eq_false, Bool.not_true, Bool.not_false] | ((with_reducible refine useF (sameNode_c) ?_ ?_ ?_); (focus exact rfl); (focus exact rfl)) | ((with_reducible refine useF (d5) ?_ ?_ ?_); (focus exact rfl); (focus exact rfl)) | ((with_reducible refine useF (d6) ?_ ?_ ?_); (focus exact rfl); (focus exact rfl)) | ((with_reducible refine useF (d7) ?_ ?_ ?_); (focus exact rfl); (focus exact rfl)) | ((refine vc_drawn (id := 41) tabOK hmix [] [0,1,2,3,4,5,6,7,8,9,10,11,12,13,14,15,16,17,18,19,20,21,22,23,24,25,26,27,28,29] (by decide +kernel) ?_); (repeat' (first | (refine ds_nil ?_) | ((refine ds_one ?_ rfl rfl ?_ ?_); (rotate_left 1); (focus ((repeat' (first | simp (maxSteps := 1000000) only [*, go_sem, Nat.reduceLT, Nat.reduceLeDiff, Nat.reduceEqDiff, ↓reduceIte, Nat.reduceAdd, Nat.reduceSub, Nat.reduceMul, Int.reduceLT, Int.reduceLE, Int.reduceAdd, Int.reduceSub, Int.reduceMul, Int.reduceNeg, Int.reduceToNat, Int.reduceEq, Int.reduceBEq, Int.reduceBNe, Nat.reduceBEq, beq_self_eq_true, bne_self_eq_false, Bool.not_true, Bool.not_false] | ((with_reducible refine useF (sameNode_c) ?_ ?_ ?_); (focus exact rfl); (focus exact rfl)) | ((with_reducible refine useF (d5) ?_ ?_ ?_); (focus exact rfl); (focus exact rfl)) | ((with_reducible refine useF (d6) ?_ ?_ ?_); (focus exact rfl); (focus exact rfl)) | ((with_reducible refine useF (d7) ?_ ?_ ?_); (focus exact rfl); (focus exact rfl)) | with_reducible refine vcond_split (fun _ => ?_) (fun _ => ?_) | with_reducible refine vg_split (fun _ => ?_) (fun _ => ?_) | ((with_reducible apply DCalls.frz); (focus exact rfl); (focus exact rfl)) | ((with_reducible refine And.intro ?_ ?_); (focus (first | omega | decide | assumption | (simp only [decide_eq_true_eq, decide_eq_false_iff_not] at *; omega)))))); exact rfl)); (simp only [putF_some, putF_none]))))) | with_reducible refine vcond_split (fun _ => ?_) (fun _ => ?_) | with_reducible refine vg_split (fun _ => ?_) (fun _ => ?_) | ((with_reducible apply DCalls.frz); (focus exact rfl); (focus exact rfl)) | ((with_reducible refine And.intro ?_ ?_); (focus (first | omega | decide | assumption | (simp only [decide_eq_true_eq, decide_eq_false_iff_not] at *; omega)))))
    clear d1 d2 d3 d4 d5 d6 d7
    refine swp_vc tabOK hmix ?_
    repeat' (first | simp (maxSteps := 1000000) only [*, go_sem, Nat.reduceLT, Nat.reduceLeDiff, Nat.reduceEqDiff, ↓reduceIte, Nat.reduceAdd, Nat.reduceSub, Nat.reduceMul, Int.reduceLT, Int.reduceLE, Int.reduceAdd, Int.reduceSub, Int.reduceMul, Int.reduceNeg, Int.reduceToNat, Int.reduceEq, Int.reduceBEq, Int.reduceBNe, Nat.reduceBEq, beq_self_eq_true, bne_self_eq_false] | with_reducible refine vcond_split (fun _ => ?_) (fun _ => ?_) | with_reducible refine vg_split (fun _ => ?_) (fun _ => ?_) | ((with_reducible apply DCalls.frz); (focus exact rfl); (focus exact rfl)) | ((with_reducible refine And.intro ?_ ?_); (focus (first | omega | decide | assumption | (simp only [decide_eq_true_eq, decide_eq_false_iff_not] at *; omega)))))
    refine loop_renS (α := Nat) (fun k => ⟨214, [(1, .c (.p (.sl 8 (Go.Dm.encU ts)))), (2, .c (.p (.s raw))), (7, .c (.p (.sl 5 (encT t)))), (8, .c (.p (.i .i64 i))), (21, .c (.p (.sl 1 (Go.Dm.encS ns)))), (22, .c (.p (.sl 1 (Go.Dm.encS ns)))), (23, .c (.p (.i .i64 k)))], []⟩)
      (fun k => k ≤ ns.length) (fun k => ns.length - k) 0 (Nat.zero_le _) (.inl (weak_mk (by rw [hX]; rfl) rfl rfl (by simp [wk_cons, wk_nil, look_cons, closedD, closedC, renT, renD, renC, encT_nil, encS_nil, encC_nil]))) ?_
    intro k hk
    by_cases hkl : k < ns.length
    · have hgk := Go.Dm.encS_at (List.getElem?_eq_getElem hkl)
      have h2 : decide ((k : Int) < (ns.length : Int)) = true := decide_eq_true (by omega)
      have hki : (k : Int) < (ns.length : Int) := by omega
      have hk0 : (0 : Int) ≤ k := by omega
      have w2 : IntKind.i64.wrap ((k : Int) + 1) = k + 1 := wrap_i64 (by omega) (by omega)
      generalize ns[k] = y at hgk
      refine swp_vc tabOK hmix ?_
      repeat' (first | simp (maxSteps := 1000000) only [*, go_sem, Nat.reduceLT, Nat.reduceLeDiff, Nat.reduceEqDiff, ↓reduceIte, Nat.reduceAdd, Nat.reduceSub, Nat.reduceMul, Int.reduceLT, Int.reduceLE, Int.reduceAdd, Int.reduceSub, Int.reduceMul, Int.reduceNeg, Int.reduceToNat, Int.reduceEq, Int.reduceBEq, Int.reduceBNe, Nat.reduceBEq, beq_self_eq_true, bne_self_eq_false] | ((refine vc_drawn (id := 46) tabOK hmix [] [0,1,2,3,4,5,6,7,8] (by decide +kernel) ?_); (repeat' (first | (refine ds_nil ?_) | ((refine ds_one ?_ rfl rfl ?_ ?_); (rotate_left 1); (focus ((repeat' (first | simp (maxSteps := 1000000) only [*, go_sem, Nat.reduceLT, Nat.reduceLeDiff, Nat.reduceEqDiff, ↓reduceIte, Nat.reduceAdd, Nat.reduceSub, Nat.reduceMul, Int.reduceLT, Int.reduceLE, Int.reduceAdd, Int.reduceSub, Int.reduceMul, Int.reduceNeg, Int.reduceToNat, Int.reduceEq, Int.reduceBEq, Int.reduceBNe, Nat.reduceBEq, beq_self_eq_true, bne_self_eq_false] | with_reducible refine vcond_split (fun _ => ?_) (fun _ => ?_) | with_reducible refine vg_split (fun _ => ?_) (fun _ => ?_) | ((with_reducible apply DCalls.frz); (focus exact rfl); (focus exact rfl)) | ((with_reducible refine And.intro ?_ ?_); (focus (first | omega | decide | assumption | (simp only [decide_eq_true_eq, decide_eq_false_iff_not] at *; omega)))))); exact rfl)); (simp only [putF_some, putF_none]))))) | with_reducible refine vcond_split (fun _ => ?_) (fun _ => ?_) | with_reducible refine vg_split (fun _ => ?_) (fun _ => ?_) | ((with_reducible apply DCalls.frz); (focus exact rfl); (focus exact rfl)) | ((with_reducible refine And.intro ?_ ?_); (focus (first | omega | decide | assumption | (simp only [decide_eq_true_eq, decide_eq_false_iff_not] at *; omega)))))
      exact qr_n (k + 1) (by omega) (by omega) (weak_mk rfl rfl rfl (by simp [wk_cons, wk_nil, look_cons, closedD, closedC, renT, renD, renC, encT_nil, encS_nil, encC_nil]))
    · have h2 : decide ((k : Int) < (ns.length : Int)) = false := decide_eq_false (by omega)
      refine swp_vc tabOK hmix ?_
      repeat' (first | simp (maxSteps := 1000000) only [*, go_sem, Nat.reduceLT, Nat.reduceLeDiff, Nat.reduceEqDiff, ↓reduceIte, Nat.reduceAdd, Nat.reduceSub, Nat.reduceMul, Int.reduceLT, Int.reduceLE, Int.reduceAdd, Int.reduceSub, Int.reduceMul, Int.reduceNeg, Int.reduceToNat, Int.reduceEq, Int.reduceBEq, Int.reduceBNe, Nat.reduceBEq, beq_self_eq_true, bne_self_eq_false] | with_reducible refine vcond_split (fun _ => ?_) (fun _ => ?_) | with_reducible refine vg_split (fun _ => ?_) (fun _ => ?_) | ((with_reducible apply DCalls.frz); (focus exact rfl); (focus exact rfl)) | ((with_reducible refine And.intro ?_ ?_); (focus (first | omega | decide | assumption | (simp only [decide_eq_true_eq, decide_eq_false_iff_not] at *; omega)))))
      refine swp_vc tabOK hmix ?_
      repeat' (first | simp (maxSteps := 1000000) only [*, go_sem, Nat.reduceLT, Nat.reduceLeDiff, Nat.reduceEqDiff, ↓reduceIte, Nat.reduceAdd, Nat.reduceSub, Nat.reduceMul, Int.reduceLT, Int.reduceLE, Int.reduceAdd, Int.reduceSub, Int.reduceMul, Int.reduceNeg, Int.reduceToNat, Int.reduceEq, Int.reduceBEq, Int.reduceBNe, Nat.reduceBEq, beq_self_eq_true, bne_self_eq_false] | with_reducible refine vcond_split (fun _ => ?_) (fun _ => ?_) | with_reducible refine vg_split (fun _ => ?_) (fun _ => ?_) | ((with_reducible apply DCalls.frz); (focus exact rfl); (focus exact rfl)) | ((with_reducible refine And.intro ?_ ?_); (focus (first | omega | decide | assumption | (simp only [decide_eq_true_eq, decide_eq_false_iff_not] at *; omega)))))
      exact qr_n (i + 1, t) ⟨by simp only; omega, by simp only; omega, ht⟩ (by simp only; omega) (weak_mk rfl rfl rfl (by simp [wk_cons, wk_nil, look_cons, closedD, closedC, renT, renD, renC, encT_nil, encS_nil, encC_nil]))
  · by_cases hq : i < ts.length
    · have h1 : decide ((i : Int) < (ts.length : Int)) = true := decide_eq_true (by omega)
      have h16 : decide ((i : Int) < 16) = false := decide_eq_false (by omega)
      refine swp_vc tabOK hmix ?_
      repeat' (first | simp (maxSteps := 1000000) only [*, go_sem, Nat.reduceLT, Nat.reduceLeDiff, Nat.reduceEqDiff, ↓reduceIte, Nat.reduceAdd, Nat.reduceSub, Nat.reduceMul, Int.reduceLT, Int.reduceLE, Int.reduceAdd, Int.reduceSub, Int.reduceMul, Int.reduceNeg, Int.reduceToNat, Int.reduceEq, Int.reduceBEq, Int.reduceBNe, Nat.reduceBEq, beq_self_eq_true, bne_self_eq_false] | with_reducible refine vcond_split (fun _ => ?_) (fun _ => ?_) | with_reducible refine vg_split (fun _ => ?_) (fun _ => ?_) | ((with_reducible apply DCalls.frz); (focus exact rfl); (focus exact rfl)) | ((with_reducible refine And.intro ?_ ?_); (focus (first | omega | decide | assumption | (simp only [decide_eq_true_eq, decide_eq_false_iff_not] at *; omega)))))
      refine swp_vc tabOK hmix ?_
      repeat' (first | simp (maxSteps := 1000000) only [*, go_sem, Nat.reduceLT, Nat.reduceLeDiff, Nat.reduceEqDiff, ↓reduceIte, Nat.reduceAdd, Nat.reduceSub, Nat.reduceMul, Int.reduceLT, Int.reduceLE, Int.reduceAdd, Int.reduceSub, Int.reduceMul, Int.reduceNeg, Int.reduceToNat, Int.reduceEq, Int.reduceBEq, Int.reduceBNe, Nat.reduceBEq, beq_self_eq_true, bne_self_eq_false] | with_reducible refine vcond_split (fun _ => ?_) (fun _ => ?_) | with_reducible refine vg_split (fun _ => ?_) (fun _ => ?_) | ((with_reducible apply DCalls.frz); (focus exact rfl); (focus exact rfl)) | ((with_reducible refine And.intro ?_ ?_); (focus (first | omega | decide | assumption | (simp only [decide_eq_true_eq, decide_eq_false_iff_not] at *; omega)))))
    · have h1 : decide ((i : Int) < (ts.length : Int)) = false := decide_eq_false (by omega)
      refine swp_vc tabOK hmix ?_
      repeat' (first | simp (maxSteps := 1000000) only [*, go_sem, Nat.reduceLT, Nat.reduceLeDiff, Nat.reduceEqDiff, ↓reduceIte, Nat.reduceAdd, Nat.reduceSub, Nat.reduceMul, Int.reduceLT, Int.reduceLE, Int.reduceAdd, Int.reduceSub, Int.reduceMul, Int.reduceNeg, Int.reduceToNat, Int.reduceEq, Int.reduceBEq, Int.reduceBNe, Nat.reduceBEq, beq_self_eq_true, bne_self_eq_false] | with_reducible refine vcond_split (fun _ => ?_) (fun _ => ?_) | with_reducible refine vg_split (fun _ => ?_) (fun _ => ?_) | ((with_reducible apply DCalls.frz); (focus exact rfl); (focus exact rfl)) | ((with_reducible refine And.intro ?_ ?_); (focus (first | omega | decide | assumption | (simp only [decide_eq_true_eq, decide_eq_false_iff_not] at *; omega)))))
      refine swp_vc tabOK hmix ?_
      repeat' (first | simp (maxSteps := 1000000) only [*, go_sem, Nat.reduceLT, Nat.reduceLeDiff, Nat.reduceEqDiff, ↓reduceIte, Nat.reduceAdd, Nat.reduceSub, Nat.reduceMul, Int.reduceLT, Int.reduceLE, Int.reduceAdd, Int.reduceSub, Int.reduceMul, Int.reduceNeg, Int.reduceToNat, Int.reduceEq, Int.reduceBEq, Int.reduceBNe, Nat.reduceBEq, beq_self_eq_true, bne_self_eq_false] | with_reducible refine vcond_split (fun _ => ?_) (fun _ => ?_) | with_reducible refine vg_split (fun _ => ?_) (fun _ => ?_) | ((with_reducible apply DCalls.frz); (focus exact rfl); (focus exact rfl)) | ((with_reducible refine And.intro ?_ ?_); (focus (first | omega | decide | assumption | (simp only [decide_eq_true_eq, decide_eq_false_iff_not] at *; omega)))))
end Go.Proofs.YtfpeelbddefhhaaGreatDoor
