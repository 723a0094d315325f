/-
  Contracts: the merge of two sides.
-/
import Derived.Test.YtjanmkknbijecaaGreatDoorM3
set_option linter.unusedSimpArgs false
set_option linter.unusedVariables false
namespace Go.Proofs.YtjanmkknbijecaaGreatDoor
open Go Go.Dm
set_option maxRecDepth 100000
set_option maxHeartbeats 4000000

theorem merge_c {b o t : List It} (hb : OkS b) (ho : OkS o) (ht : OkS t) :
    DCalls Tryz.prog 24 [.c (.p (.sl 5 (encT b))), .c (.p (.sl 5 (encT o))), .c (.p (.sl 5 (encT t)))] [] fun r h => r = .tup [.c (.p (.sl 5 (encT (mergeF b o t).1))), .c (.p (.sl 2 (encF (mergeF b o t).2)))] ∧ h = [] := by
  refine dcalls_wk ?_
  have e1 := hb.len
  have e2 := ho.len
  have e3 := ht.len
  have d1 : ∀ x ∈ b, x.n.d.length ≤ 140737488355328 := fun x hx => Nat.le_trans (hb.dlen x hx) (by decide)
  have d2 : ∀ x ∈ o, x.n.d.length ≤ 140737488355328 := fun x hx => Nat.le_trans (ho.dlen x hx) (by decide)
  have d3 : ∀ x ∈ t, x.n.d.length ≤ 140737488355328 := fun x hx => Nat.le_trans (ht.dlen x hx) (by decide)
  have hp := mpaths_c (ts := [b, o, t]) (by simp) (by intro s hs; simp at hs; rcases hs with rfl | rfl | rfl <;> assumption)
  simp only [List.map_cons, List.map_nil, List.flatten_cons, List.flatten_nil, List.append_nil] at hp
  have hpl := paths3_len b o t
  have hren := renamed_c hb ho ht
  have hol0 := mgIs_len b o t (paths3 b o t)
  have hbl0 := mgCs_len b o t (paths3 b o t)
  have horp := orphans_c (t := outF b o t) (bad := mgCs b o t (paths3 b o t)) (by unfold outF; omega) (by omega) (outF_srt b o t) (outF_plen hb ho ht)
  have hml : (mergeF b o t) = if (badF b o t).length == 0 then (outF b o t, []) else ([], badF b o t) := rfl
  have hbe : badF b o t = sortC (mgCs b o t (paths3 b o t) ++ (orphansF (outF b o t) (mgCs b o t (paths3 b o t)) ++ renamedF (pairsG (diffF b o)) (pairsG (diffF b t)))) := rfl
  have hor := orphans_len (outF b o t) (mgCs b o t (paths3 b o t))
  have hrl := renamed_len (pairsG (diffF b o)) (pairsG (diffF b t))
  have hrl2 := pairsG_len (diffF b o)
  have hrl3 := diffF_len b o
  rw [hml, hbe]
  clear hml hbe
  unfold outF at *
  unfold paths3 at *
  generalize Lib.compact (((b ++ (o ++ t)).map It.p).mergeSort fun x y => decide (x ≤ y)) = ps at *
  generalize renamedF (pairsG (diffF b o)) (pairsG (diffF b t)) = rn at *
  generalize hQ : orphansF (mgIs b o t ps) (mgCs b o t ps) = q at *
  clear hQ
  refine entS tabOK Tryz.func24 rfl rfl fun X0 hX => ?_
  simp only [Tryz.ntmps24, Tryz.f24, go_sem]
  refine swp_first tabOK hmix ?_
  repeat' (first | simp (maxSteps := 1000000) only [*, go_sem, Nat.reduceLT, Nat.reduceLeDiff, Nat.reduceEqDiff, ↓reduceIte, Nat.reduceAdd, Nat.reduceSub, Nat.reduceMul, Int.reduceLT, Int.reduceLE, Int.reduceAdd, Int.reduceSub, Int.reduceMul, Int.reduceNeg, Int.reduceToNat, Int.reduceEq, Int.reduceBEq, Int.reduceBNe, Nat.reduceBEq, beq_self_eq_true, bne_self_eq_false] | with_reducible refine vcond_split (fun _ => ?_) (fun _ => ?_) | with_reducible refine vg_split (fun _ => ?_) (fun _ => ?_) | ((with_reducible apply DCalls.frz); (focus exact rfl); (focus exact rfl)) | ((with_reducible refine And.intro ?_ ?_); (focus (first | omega | decide | assumption | (simp only [decide_eq_true_eq, decide_eq_false_iff_not] at *; omega)))))
  refine swp_first tabOK hmix ?_
  repeat' (first | simp (maxSteps := 1000000) only [*, go_sem, Nat.reduceLT, Nat.reduceLeDiff, Nat.reduceEqDiff, ↓reduceIte, Nat.reduceAdd, Nat.reduceSub, Nat.reduceMul, Int.reduceLT, Int.reduceLE, Int.reduceAdd, Int.reduceSub, Int.reduceMul, Int.reduceNeg, Int.reduceToNat, Int.reduceEq, Int.reduceBEq, Int.reduceBNe, Nat.reduceBEq, beq_self_eq_true, bne_self_eq_false] | with_reducible refine vcond_split (fun _ => ?_) (fun _ => ?_) | with_reducible refine vg_split (fun _ => ?_) (fun _ => ?_) | ((with_reducible apply DCalls.frz); (focus exact rfl); (focus exact rfl)) | ((with_reducible refine And.intro ?_ ?_); (focus (first | omega | decide | assumption | (simp only [decide_eq_true_eq, decide_eq_false_iff_not] at *; omega)))))
  refine swp_first tabOK hmix ?_
  repeat' (first | simp (maxSteps := 1000000) only [*, go_sem, Nat.reduceLT, Nat.reduceLeDiff, Nat.reduceEqDiff, ↓reduceIte, Nat.reduceAdd, Nat.reduceSub, Nat.reduceMul, Int.reduceLT, Int.reduceLE, Int.reduceAdd, Int.reduceSub, Int.reduceMul, Int.reduceNeg, Int.reduceToNat, Int.reduceEq, Int.reduceBEq, Int.reduceBNe, Nat.reduceBEq, beq_self_eq_true, bne_self_eq_false] | with_reducible refine vcond_split (fun _ => ?_) (fun _ => ?_) | with_reducible refine vg_split (fun _ => ?_) (fun _ => ?_) | ((with_reducible apply DCalls.frz); (focus exact rfl); (focus exact rfl)) | ((with_reducible refine And.intro ?_ ?_); (focus (first | omega | decide | assumption | (simp only [decide_eq_true_eq, decide_eq_false_iff_not] at *; omega)))))
  refine swp_join tabOK hmix (α := Unit) (fun _ => ⟨92, [(0, .c (.p (.sl 5 (encT b)))), (1, .c (.p (.sl 5 (encT o)))), (2, .c (.p (.sl 5 (encT t)))), (8, .c (.p (.sl 5 (encT (mgIs b o t ps))))), (9, .c (.p (.sl 2 (encF (mgCs b o t ps)))))], []⟩) (fun _ => True) ?_ ?_
  · repeat' (first | simp (maxSteps := 1000000) only [*, go_sem, Nat.reduceLT, Nat.reduceLeDiff, Nat.reduceEqDiff, ↓reduceIte, Nat.reduceAdd, Nat.reduceSub, Nat.reduceMul, Int.reduceLT, Int.reduceLE, Int.reduceAdd, Int.reduceSub, Int.reduceMul, Int.reduceNeg, Int.reduceToNat, Int.reduceEq, Int.reduceBEq, Int.reduceBNe, Nat.reduceBEq, beq_self_eq_true, bne_self_eq_false] | ((with_reducible refine useN (hp) ?_ ?_ ?_); (focus exact rfl); (focus exact fun _ => rfl)) | with_reducible refine vcond_split (fun _ => ?_) (fun _ => ?_) | with_reducible refine vg_split (fun _ => ?_) (fun _ => ?_) | ((with_reducible apply DCalls.frz); (focus exact rfl); (focus exact rfl)) | ((with_reducible refine And.intro ?_ ?_); (focus (first | omega | decide | assumption | (simp only [decide_eq_true_eq, decide_eq_false_iff_not] at *; omega)))))
    refine vc_virt tabOK hmix 8 5 rfl ?_
    refine vc_virt tabOK hmix 9 2 rfl ?_
    refine loop_ren tabOK hmix (α := Nat × List It × List Cf) (fun x => ⟨92, [(0, .c (.p (.sl 5 (encT b)))), (1, .c (.p (.sl 5 (encT o)))), (2, .c (.p (.sl 5 (encT t)))), (25, .c (.p (.sl 1 (Go.Dm.encS ps)))), (26, .c (.p (.i .i64 ps.length))), (27, .c (.p (.i .i64 x.1))), (8, .c (.own 1 0 x.2.1.length)), (9, .c (.own 2 0 x.2.2.length))],
        [.arr 1 [[.sl 5 (encT b)], [.sl 5 (encT o)], [.sl 5 (encT t)]] true, .arr 5 (encT x.2.1) false, .arr 2 (encF x.2.2) false]⟩)
      (fun x => x.1 ≤ ps.length ∧ x.2.1.length ≤ x.1 ∧ x.2.2.length ≤ x.1 ∧ x.2.1 ++ mgIs b o t (ps.drop x.1) = mgIs b o t ps ∧ x.2.2 ++ mgCs b o t (ps.drop x.1) = mgCs b o t ps) (fun x => ps.length - x.1) (0, [], []) ⟨Nat.zero_le _, Nat.le_refl _, Nat.le_refl _, rfl, rfl⟩ (.inl (weak_mk (by rw [hX]; rfl) rfl rfl (by simp [wk_cons, wk_nil, look_cons, closedD, closedC, renT, renD, renC, encT_nil, encS_nil, encC_nil]))) ?_
    clear hp hren horp hor hrl hrl2 hrl3
    rintro ⟨k, out, bad⟩ ⟨hk, hol, hbl, hJ, hK⟩
    simp only at hk hol hbl hJ hK
    by_cases hlt : k < ps.length
    · have hx : ps[k]? = some ps[k] := List.getElem?_eq_getElem hlt
      have hd := drop_at hx
      have hg := Go.Dm.encS_at hx
      have h1 : decide ((k : Int) < (ps.length : Int)) = true := decide_eq_true (by omega)
      have hli : (k : Int) < (ps.length : Int) := by omega
      have w1 : IntKind.i64.wrap ((k : Int) + 1) = k + 1 := wrap_i64 (by omega) (by omega)
      generalize ps[k] = p at hx hg hd
      have g1 := treeGet_c (t := b) (p := p) (by omega) hb.srt hb.ne d1
      have g2 := treeGet_c (t := o) (p := p) (by omega) ho.srt ho.ne d2
      have g3 := treeGet_c (t := t) (p := p) (by omega) ht.srt ht.ne d3
      have y2 : ((getR o p).getD nd0).d.length ≤ 140737488355328 := Nat.le_trans (ho.getd p) (by decide)
      have y3 : ((getR t p).getD nd0).d.length ≤ 140737488355328 := Nat.le_trans (ht.getd p) (by decide)
      rw [hd] at hJ hK
      have eJ : mgIs b o t (p :: ps.drop (k + 1)) = mgI b o t p ++ mgIs b o t (ps.drop (k + 1)) := rfl
      have eK : mgCs b o t (p :: ps.drop (k + 1)) = mgC b o t p ++ mgCs b o t (ps.drop (k + 1)) := rfl
      rw [eJ] at hJ
      rw [eK] at hK
      unfold mgI at hJ
      unfold mgC at hK
      unfold mgN at hJ hK
      have hnc := nodeM_c (k := ((getR b p).getD nd0).k) (m := ((getR b p).getD nd0).m) (t := ((getR b p).getD nd0).t) (d := ((getR b p).getD nd0).d) (k1 := ((getR o p).getD nd0).k) (m1 := ((getR o p).getD nd0).m) (t1 := ((getR o p).getD nd0).t) (d1 := ((getR o p).getD nd0).d) (k2 := ((getR t p).getD nd0).k) (m2 := ((getR t p).getD nd0).m) (t2 := ((getR t p).getD nd0).t) (d2 := ((getR t p).getD nd0).d) y2 y3 (getR b p).isSome (getR o p).isSome (getR t p).isSome
      simp only [nd_eta] at hnc
      generalize (getR b p).getD nd0 = x at g1 hnc hJ hK
      generalize (getR b p).isSome = u at g1 hnc hJ hK
      generalize (getR o p).getD nd0 = y at g2 hnc hJ hK
      generalize (getR o p).isSome = v at g2 hnc hJ hK
      generalize (getR t p).getD nd0 = z at g3 hnc hJ hK
      generalize (getR t p).isSome = w at g3 hnc hJ hK
      generalize nodeM x y z u v w = N at hnc hJ hK
      obtain ⟨n, ok, kk⟩ := N
      simp only at hnc hJ hK
      clear hx hd eJ eK y2 y3 d1 d2 d3
      have n1 : (kk != 0) = !(kk == 0) := rfl
      cases hq : (kk == 0)
      · rw [n1, hq, if_pos (by decide)] at hJ hK
        rw [hq] at n1
        rw [List.nil_append] at hJ
        have hJ2 : k + 1 ≤ ps.length ∧ out.length ≤ k + 1 ∧ (bad ++ [(⟨p, kk⟩ : Cf)]).length ≤ k + 1 ∧ out ++ mgIs b o t (ps.drop (k + 1)) = mgIs b o t ps ∧ (bad ++ [(⟨p, kk⟩ : Cf)]) ++ mgCs b o t (ps.drop (k + 1)) = mgCs b o t ps := ⟨by omega, by omega, by simp; omega, hJ, by simpa using hK⟩
        clear hJ hK hq
        repeat' (first | simp (maxSteps := 1000000) only [*, go_sem, Nat.reduceLT, Nat.reduceLeDiff, Nat.reduceEqDiff, ↓reduceIte, Nat.reduceAdd, Nat.reduceSub, Nat.reduceMul, Int.reduceLT, Int.reduceLE, Int.reduceAdd, Int.reduceSub, Int.reduceMul, Int.reduceNeg, Int.reduceToNat, Int.reduceEq, Int.reduceBEq, Int.reduceBNe, Nat.reduceBEq, beq_self_eq_true, bne_self_eq_false, Bool.not_false, Bool.not_true] | ((with_reducible refine useN (g1) ?_ ?_ ?_); (focus exact rfl); (focus exact fun _ => rfl)) | ((with_reducible refine useN (g2) ?_ ?_ ?_); (focus exact rfl); (focus exact fun _ => rfl)) | ((with_reducible refine useN (g3) ?_ ?_ ?_); (focus exact rfl); (focus exact fun _ => rfl)) | ((with_reducible refine useN (hnc) ?_ ?_ ?_); (focus exact rfl); (focus exact fun _ => rfl)) | with_reducible refine vcond_split (fun _ => ?_) (fun _ => ?_) | with_reducible refine vg_split (fun _ => ?_) (fun _ => ?_) | ((with_reducible apply DCalls.frz); (focus exact rfl); (focus exact rfl)) | ((with_reducible refine And.intro ?_ ?_); (focus (first | omega | decide | assumption | (simp only [decide_eq_true_eq, decide_eq_false_iff_not] at *; omega)))))
        exact qr_ren (k + 1, out, bad ++ [⟨p, kk⟩]) 2 8 hJ2 (by simp only; omega) rfl rfl (weak_mk rfl rfl rfl (by simp [wk_cons, wk_nil, look_cons, closedD, closedC, renT, renD, renC, encT_nil, encS_nil, encC_nil]))
      · rw [n1, hq, if_neg (by decide)] at hJ hK
        rw [hq] at n1
        rw [List.nil_append] at hK
        cases ok
        · rw [if_neg (by decide), List.nil_append] at hJ
          have hJ2 : k + 1 ≤ ps.length ∧ out.length ≤ k + 1 ∧ bad.length ≤ k + 1 ∧ out ++ mgIs b o t (ps.drop (k + 1)) = mgIs b o t ps ∧ bad ++ mgCs b o t (ps.drop (k + 1)) = mgCs b o t ps := ⟨by omega, by omega, by omega, hJ, hK⟩
          clear hJ hK hq
          repeat' (first | simp (maxSteps := 1000000) only [*, go_sem, Nat.reduceLT, Nat.reduceLeDiff, Nat.reduceEqDiff, ↓reduceIte, Nat.reduceAdd, Nat.reduceSub, Nat.reduceMul, Int.reduceLT, Int.reduceLE, Int.reduceAdd, Int.reduceSub, Int.reduceMul, Int.reduceNeg, Int.reduceToNat, Int.reduceEq, Int.reduceBEq, Int.reduceBNe, Nat.reduceBEq, beq_self_eq_true, bne_self_eq_false, Bool.not_false, Bool.not_true] | ((with_reducible refine useN (g1) ?_ ?_ ?_); (focus exact rfl); (focus exact fun _ => rfl)) | ((with_reducible refine useN (g2) ?_ ?_ ?_); (focus exact rfl); (focus exact fun _ => rfl)) | ((with_reducible refine useN (g3) ?_ ?_ ?_); (focus exact rfl); (focus exact fun _ => rfl)) | ((with_reducible refine useN (hnc) ?_ ?_ ?_); (focus exact rfl); (focus exact fun _ => rfl)) | with_reducible refine vcond_split (fun _ => ?_) (fun _ => ?_) | with_reducible refine vg_split (fun _ => ?_) (fun _ => ?_) | ((with_reducible apply DCalls.frz); (focus exact rfl); (focus exact rfl)) | ((with_reducible refine And.intro ?_ ?_); (focus (first | omega | decide | assumption | (simp only [decide_eq_true_eq, decide_eq_false_iff_not] at *; omega)))))
          exact qr_n (k + 1, out, bad) hJ2 (by simp only; omega) (weak_mk rfl rfl rfl (by simp [wk_cons, wk_nil, look_cons, closedD, closedC, renT, renD, renC, encT_nil, encS_nil, encC_nil]))
        · rw [if_pos rfl] at hJ
          have hJ2 : k + 1 ≤ ps.length ∧ (out ++ [(⟨p, n⟩ : It)]).length ≤ k + 1 ∧ bad.length ≤ k + 1 ∧ (out ++ [(⟨p, n⟩ : It)]) ++ mgIs b o t (ps.drop (k + 1)) = mgIs b o t ps ∧ bad ++ mgCs b o t (ps.drop (k + 1)) = mgCs b o t ps := ⟨by omega, by simp; omega, by omega, by simpa using hJ, hK⟩
          clear hJ hK hq
          repeat' (first | simp (maxSteps := 1000000) only [*, go_sem, Nat.reduceLT, Nat.reduceLeDiff, Nat.reduceEqDiff, ↓reduceIte, Nat.reduceAdd, Nat.reduceSub, Nat.reduceMul, Int.reduceLT, Int.reduceLE, Int.reduceAdd, Int.reduceSub, Int.reduceMul, Int.reduceNeg, Int.reduceToNat, Int.reduceEq, Int.reduceBEq, Int.reduceBNe, Nat.reduceBEq, beq_self_eq_true, bne_self_eq_false, Bool.not_false, Bool.not_true] | ((with_reducible refine useN (g1) ?_ ?_ ?_); (focus exact rfl); (focus exact fun _ => rfl)) | ((with_reducible refine useN (g2) ?_ ?_ ?_); (focus exact rfl); (focus exact fun _ => rfl)) | ((with_reducible refine useN (g3) ?_ ?_ ?_); (focus exact rfl); (focus exact fun _ => rfl)) | ((with_reducible refine useN (hnc) ?_ ?_ ?_); (focus exact rfl); (focus exact fun _ => rfl)) | with_reducible refine vcond_split (fun _ => ?_) (fun _ => ?_) | with_reducible refine vg_split (fun _ => ?_) (fun _ => ?_) | ((with_reducible apply DCalls.frz); (focus exact rfl); (focus exact rfl)) | ((with_reducible refine And.intro ?_ ?_); (focus (first | omega | decide | assumption | (simp only [decide_eq_true_eq, decide_eq_false_iff_not] at *; omega)))))
          exact qr_ren (k + 1, out ++ [⟨p, n⟩], bad) 1 8 hJ2 (by simp only; omega) rfl rfl (weak_mk rfl rfl rfl (by simp [wk_cons, wk_nil, look_cons, closedD, closedC, renT, renD, renC, encT_nil, encS_nil, encC_nil]))
    · have h1 : decide ((k : Int) < (ps.length : Int)) = false := decide_eq_false (by omega)
      rw [List.drop_of_length_le (by omega)] at hJ hK
      have eJ : out = mgIs b o t ps := by rw [← hJ]; simp [mgIs]
      have eK : bad = mgCs b o t ps := by rw [← hK]; simp [mgCs]
      clear hJ hK
      rw [← eJ, ← eK]
      clear eJ eK
      repeat' (first | simp (maxSteps := 1000000) only [*, go_sem, Nat.reduceLT, Nat.reduceLeDiff, Nat.reduceEqDiff, ↓reduceIte, Nat.reduceAdd, Nat.reduceSub, Nat.reduceMul, Int.reduceLT, Int.reduceLE, Int.reduceAdd, Int.reduceSub, Int.reduceMul, Int.reduceNeg, Int.reduceToNat, Int.reduceEq, Int.reduceBEq, Int.reduceBNe, Nat.reduceBEq, beq_self_eq_true, bne_self_eq_false] | with_reducible refine vcond_split (fun _ => ?_) (fun _ => ?_) | with_reducible refine vg_split (fun _ => ?_) (fun _ => ?_) | ((with_reducible apply DCalls.frz); (focus exact rfl); (focus exact rfl)) | ((with_reducible refine And.intro ?_ ?_); (focus (first | omega | decide | assumption | (simp only [decide_eq_true_eq, decide_eq_false_iff_not] at *; omega)))))
      exact qj_data2 () 8 1 0 out.length 9 2 0 bad.length trivial rfl (pvOf_row rfl (by rw [encT_len])) rfl (pvOf_row rfl (by rw [encF_len])) (weak_mk (by rw [hX]; rfl) rfl rfl (by simp [wk_cons, wk_nil, look_cons, closedD, closedC, renT, renD, renC, encT_nil, encS_nil, encC_nil]))
  rintro - -
  refine swp_vc tabOK hmix ?_
  have hcc := concatF_c (a := mgCs b o t ps) (b := q) (c := rn) (by omega) (by omega) (by omega)
  have hsl := sortC_len (mgCs b o t ps ++ (q ++ rn))
  have hll : (mgCs b o t ps ++ (q ++ rn)).length = (mgCs b o t ps).length + q.length + rn.length := by simp; omega
  have hsz : (mgCs b o t ps ++ (q ++ rn)).length ≤ 1000000 := by omega
  clear hp hor hrl hrl2 hrl3 hpl d1 d2 d3
  generalize mgIs b o t ps = out at *
  generalize mgCs b o t ps = bad at *
  generalize bad ++ (q ++ rn) = all at *
  generalize bad.length + q.length + rn.length = n at hcc hll
  have hke : (sortC all).take n = sortC all := List.take_of_length_le (by omega)
  have hk : ∀ (h : DHeap) (id : Nat) (K : DV → DHeap → Prop), h[id]? = some (.arr 2 (encF all) false) → K (.c (.own id 0 n)) (h.set id (.arr 2 (encF (sortC all)) false)) → DCalls Tryz.prog 66 [.c (.own id 0 n)] h K := fun h id K h1 h2 => sorted_k h1 (by omega) (by omega) (by rw [hll]; exact h2)
  rw [hsl, hll]
  clear hsl hll hsz hol0 hbl0
  by_cases h0 : n = 0
  · have hb0 : decide ((0 : Int) < (n : Int)) = false := decide_eq_false (by omega)
    have hq0 : (n == 0) = true := by simpa using h0
    rw [hq0, if_pos rfl]
    clear h0 hq0
    simp only
    repeat' (first | simp (maxSteps := 1000000) only [*, go_sem, Nat.reduceLT, Nat.reduceLeDiff, Nat.reduceEqDiff, ↓reduceIte, Nat.reduceAdd, Nat.reduceSub, Nat.reduceMul, Int.reduceLT, Int.reduceLE, Int.reduceAdd, Int.reduceSub, Int.reduceMul, Int.reduceNeg, Int.reduceToNat, Int.reduceEq, Int.reduceBEq, Int.reduceBNe, Nat.reduceBEq, beq_self_eq_true, bne_self_eq_false, List.set_cons_succ, List.set_cons_zero] | ((with_reducible refine useN (horp) ?_ ?_ ?_); (focus exact rfl); (focus exact fun _ => rfl)) | ((with_reducible refine useN (hren) ?_ ?_ ?_); (focus exact rfl); (focus exact fun _ => rfl)) | refine useO hcc rfl ?_ | refine hk _ _ _ rfl ?_ | with_reducible refine vcond_split (fun _ => ?_) (fun _ => ?_) | with_reducible refine vg_split (fun _ => ?_) (fun _ => ?_) | ((with_reducible apply DCalls.frz); (focus exact rfl); (focus exact rfl)) | ((with_reducible refine And.intro ?_ ?_); (focus (first | omega | decide | assumption | (simp only [decide_eq_true_eq, decide_eq_false_iff_not] at *; omega)))))
    all_goals first | (simp; done) | trace_state
  · have hb0 : decide ((0 : Int) < (n : Int)) = true := decide_eq_true (by omega)
    have hq0 : (n == 0) = false := by simpa using h0
    rw [hq0, if_neg (by decide)]
    clear h0 hq0
    simp only
    repeat' (first | simp (maxSteps := 1000000) only [*, go_sem, Nat.reduceLT, Nat.reduceLeDiff, Nat.reduceEqDiff, ↓reduceIte, Nat.reduceAdd, Nat.reduceSub, Nat.reduceMul, Int.reduceLT, Int.reduceLE, Int.reduceAdd, Int.reduceSub, Int.reduceMul, Int.reduceNeg, Int.reduceToNat, Int.reduceEq, Int.reduceBEq, Int.reduceBNe, Nat.reduceBEq, beq_self_eq_true, bne_self_eq_false, List.set_cons_succ, List.set_cons_zero] | ((with_reducible refine useN (horp) ?_ ?_ ?_); (focus exact rfl); (focus exact fun _ => rfl)) | ((with_reducible refine useN (hren) ?_ ?_ ?_); (focus exact rfl); (focus exact fun _ => rfl)) | refine useO hcc rfl ?_ | refine hk _ _ _ rfl ?_ | with_reducible refine vcond_split (fun _ => ?_) (fun _ => ?_) | with_reducible refine vg_split (fun _ => ?_) (fun _ => ?_) | ((with_reducible apply DCalls.frz); (focus exact rfl); (focus exact rfl)) | ((with_reducible refine And.intro ?_ ?_); (focus (first | omega | decide | assumption | (simp only [decide_eq_true_eq, decide_eq_false_iff_not] at *; omega)))))
    all_goals first | (simp; done) | trace_state

end Go.Proofs.YtjanmkknbijecaaGreatDoor
