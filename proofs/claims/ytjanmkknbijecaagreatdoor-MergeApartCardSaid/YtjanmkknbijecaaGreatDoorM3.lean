/-
  Contracts: orphans, files that went to two paths, the merge, the mirror.
-/
import Derived.Test.YtjanmkknbijecaaGreatDoorM1
import Derived.Test.YtjanmkknbijecaaGreatDoorM2
import Derived.Test.YtjanmkknbijecaaGreatDoorP1
import Derived.Test.YtjanmkknbijecaaGreatDoorC4
import Derived.Test.YtjanmkknbijecaaGreatDoorSM
set_option linter.unusedSimpArgs false
set_option linter.unusedVariables false
namespace Go.Proofs.YtjanmkknbijecaaGreatDoor
open Go Go.Dm
set_option maxRecDepth 100000
set_option maxHeartbeats 4000000

theorem orphans_c {t : List It} {bad : List Cf} (hl : t.length ≤ 1000) (hb : bad.length ≤ 1000000) (hs : Srt t) (hp : ∀ x ∈ t, x.p.length ≤ 1000) :
    DCalls Tryz.prog 68 [.c (.p (.sl 5 (encT t))), .c (.p (.sl 2 (encF bad)))] [] fun r h => r = .c (.p (.sl 2 (encF (orphansF t bad)))) ∧ h = [] := by
  refine ent tabOK hmix Tryz.func68 rfl rfl fun X0 hX => ?_
  simp only [Tryz.ntmps68, Tryz.f68, go_sem]
  repeat' (first | simp (maxSteps := 1000000) only [*, go_sem, Nat.reduceLT, Nat.reduceLeDiff, Nat.reduceEqDiff, ↓reduceIte, Nat.reduceAdd, Nat.reduceSub, Nat.reduceMul, Int.reduceLT, Int.reduceLE, Int.reduceAdd, Int.reduceSub, Int.reduceMul, Int.reduceNeg, Int.reduceToNat, Int.reduceEq, Int.reduceBEq, Int.reduceBNe, Nat.reduceBEq, beq_self_eq_true, bne_self_eq_false] | with_reducible refine vcond_split (fun _ => ?_) (fun _ => ?_) | with_reducible refine vg_split (fun _ => ?_) (fun _ => ?_) | ((with_reducible apply DCalls.frz); (focus exact rfl); (focus exact rfl)) | ((with_reducible refine And.intro ?_ ?_); (focus (first | omega | decide | assumption | (simp only [decide_eq_true_eq, decide_eq_false_iff_not] at *; omega)))))
  refine vc_virt tabOK hmix 5 2 rfl ?_
  refine loop_ren tabOK hmix (α := Nat × List Cf) (fun x => ⟨38, [(0, .c (.p (.sl 5 (encT t)))), (1, .c (.p (.sl 2 (encF bad)))), (10, .c (.p (.sl 5 (encT t)))), (11, .c (.p (.i .i64 t.length))), (12, .c (.p (.i .i64 x.1))), (5, .c (.own 0 0 x.2.length))], [.arr 2 (encF x.2) false]⟩)
    (fun x => x.1 ≤ t.length ∧ x.2.length ≤ x.1 ∧ x.2 ++ (t.drop x.1).flatMap (orphF t bad) = orphansF t bad) (fun x => t.length - x.1) (0, []) ⟨Nat.zero_le _, Nat.le_refl _, rfl⟩ (.inl (weak_mk (by rw [hX]; rfl) rfl rfl (by simp [wk_cons, wk_nil, look_cons, closedD, closedC, encT_nil, encS_nil, encC_nil]))) ?_
  rintro ⟨i, out⟩ ⟨hi, hol, hJ⟩
  simp only at hi hol hJ
  by_cases hlt : i < t.length
  · have hx : t[i]? = some t[i] := List.getElem?_eq_getElem hlt
    have hg := encT_at hx
    have hd := drop_at hx
    have h1 : decide ((i : Int) < (t.length : Int)) = true := decide_eq_true (by omega)
    have hli : (i : Int) < (t.length : Int) := by omega
    have w1 : IntKind.i64.wrap ((i : Int) + 1) = i + 1 := wrap_i64 (by omega) (by omega)
    have hxp := hp _ (List.getElem_mem hlt)
    generalize t[i] = x at hx hg hd hxp
    have hdr := nameDir_c (p := x.p) (by omega)
    have hdi := treeIsDir_c (t := t) (p := dirOfR x.p) (by omega) hs
    rw [hd, List.flatMap_cons, orphF] at hJ
    generalize dirOfR x.p = d at hdr hdi hJ
    have hco := fun (K : DV → DHeap → Prop) (hk : K (.c (.p (.b (bad.any fun c => c.p == d)))) [.arr 2 (encF out) false, .box [.p (.s x.p), .p (.i .i64 x.n.k), .p (.i .i64 x.n.m), .p (.f x.n.t), .p (.sl 1 (encB x.n.d))], .box [.p (.s d)]]) => containsF_c (l := bad) (eo := encF out) hb hk
    generalize (bad.any fun c => c.p == d) = b2 at hco hJ
    generalize isDirR t d = b1 at hdi hJ
    clear hx hd hp hs
    have hob : out.length ≤ 1000000 := by omega
    cases b1 <;> cases b2
    case false.false =>
      rw [if_pos (by decide)] at hJ
      have hJ2 : i + 1 ≤ t.length ∧ (out ++ [(⟨x.p, 7⟩ : Cf)]).length ≤ i + 1 ∧ (out ++ [(⟨x.p, 7⟩ : Cf)]) ++ (t.drop (i + 1)).flatMap (orphF t bad) = orphansF t bad := ⟨by omega, by simp; omega, by simpa using hJ⟩
      clear hJ
      repeat' (first | simp (maxSteps := 1000000) only [*, go_sem, Nat.reduceLT, Nat.reduceLeDiff, Nat.reduceEqDiff, ↓reduceIte, Nat.reduceAdd, Nat.reduceSub, Nat.reduceMul, Int.reduceLT, Int.reduceLE, Int.reduceAdd, Int.reduceSub, Int.reduceMul, Int.reduceNeg, Int.reduceToNat, Int.reduceEq, Int.reduceBEq, Int.reduceBNe, Nat.reduceBEq, beq_self_eq_true, bne_self_eq_false, Bool.not_true, Bool.not_false] | ((with_reducible refine useF (hdr) ?_ ?_ ?_); (focus exact rfl); (focus exact rfl)) | refine hco _ ?_ | ((with_reducible refine useF (hdi) ?_ ?_ ?_); (focus exact rfl); (focus exact rfl)) | with_reducible refine vcond_split (fun _ => ?_) (fun _ => ?_) | with_reducible refine vg_split (fun _ => ?_) (fun _ => ?_) | ((with_reducible apply DCalls.frz); (focus exact rfl); (focus exact rfl)) | ((with_reducible refine And.intro ?_ ?_); (focus (first | omega | decide | assumption | (simp only [decide_eq_true_eq, decide_eq_false_iff_not] at *; omega)))))
      exact qr_ren (i + 1, out ++ [⟨x.p, 7⟩]) 0 4 hJ2 (by simp only; omega) rfl rfl (weak_mk rfl rfl rfl (by simp [wk_cons, wk_nil, look_cons, closedD, closedC, renT, renD, renC, encT_nil, encS_nil, encC_nil]))
    all_goals
      rw [if_neg (by decide), List.nil_append] at hJ
      have hJ2 : i + 1 ≤ t.length ∧ out.length ≤ i + 1 ∧ out ++ (t.drop (i + 1)).flatMap (orphF t bad) = orphansF t bad := ⟨by omega, by omega, hJ⟩
      clear hJ
      repeat' (first | simp (maxSteps := 1000000) only [*, go_sem, Nat.reduceLT, Nat.reduceLeDiff, Nat.reduceEqDiff, ↓reduceIte, Nat.reduceAdd, Nat.reduceSub, Nat.reduceMul, Int.reduceLT, Int.reduceLE, Int.reduceAdd, Int.reduceSub, Int.reduceMul, Int.reduceNeg, Int.reduceToNat, Int.reduceEq, Int.reduceBEq, Int.reduceBNe, Nat.reduceBEq, beq_self_eq_true, bne_self_eq_false, Bool.not_true, Bool.not_false] | ((with_reducible refine useF (hdr) ?_ ?_ ?_); (focus exact rfl); (focus exact rfl)) | refine hco _ ?_ | ((with_reducible refine useF (hdi) ?_ ?_ ?_); (focus exact rfl); (focus exact rfl)) | with_reducible refine vcond_split (fun _ => ?_) (fun _ => ?_) | with_reducible refine vg_split (fun _ => ?_) (fun _ => ?_) | ((with_reducible apply DCalls.frz); (focus exact rfl); (focus exact rfl)) | ((with_reducible refine And.intro ?_ ?_); (focus (first | omega | decide | assumption | (simp only [decide_eq_true_eq, decide_eq_false_iff_not] at *; omega)))))
      exact qr_n (i + 1, out) hJ2 (by simp only; omega) (weak_mk rfl rfl rfl (by simp [wk_cons, wk_nil, look_cons, closedD, closedC, renT, renD, renC, encT_nil, encS_nil, encC_nil]))
  · have h1 : decide ((i : Int) < (t.length : Int)) = false := decide_eq_false (by omega)
    rw [List.drop_of_length_le (by omega), List.flatMap_nil, List.append_nil] at hJ
    rw [← hJ]
    clear hJ
    repeat' (first | simp (maxSteps := 1000000) only [*, go_sem, Nat.reduceLT, Nat.reduceLeDiff, Nat.reduceEqDiff, ↓reduceIte, Nat.reduceAdd, Nat.reduceSub, Nat.reduceMul, Int.reduceLT, Int.reduceLE, Int.reduceAdd, Int.reduceSub, Int.reduceMul, Int.reduceNeg, Int.reduceToNat, Int.reduceEq, Int.reduceBEq, Int.reduceBNe, Nat.reduceBEq, beq_self_eq_true, bne_self_eq_false] | with_reducible refine vcond_split (fun _ => ?_) (fun _ => ?_) | with_reducible refine vg_split (fun _ => ?_) (fun _ => ?_) | ((with_reducible apply DCalls.frz); (focus exact rfl); (focus exact rfl)) | ((with_reducible refine And.intro ?_ ?_); (focus (first | omega | decide | assumption | (simp only [decide_eq_true_eq, decide_eq_false_iff_not] at *; omega)))))
    all_goals first | rfl | (rw [List.take_of_length_le (by simp)]) | simp

theorem renamed_c {b o t : List It} (hb : OkS b) (ho : OkS o) (ht : OkS t) :
    DCalls Tryz.prog 69 [.c (.p (.sl 5 (encT b))), .c (.p (.sl 5 (encT o))), .c (.p (.sl 5 (encT t)))] [] fun r h => r = .c (.p (.sl 2 (encF (renamedF (pairsG (diffF b o)) (pairsG (diffF b t)))))) ∧ h = [] := by
  have d1 := diffG_c hb.len ho.len hb.srt ho.srt hb.ne ho.ne hb.dlen ho.dlen
  have d2 := diffG_c hb.len ht.len hb.srt ht.srt hb.ne ht.ne hb.dlen ht.dlen
  have l1 := diffF_len b o
  have l2 := diffF_len b t
  have e1 := hb.len
  have e2 := ho.len
  have e3 := ht.len
  have p1 := pairs_c (l := diffF b o) (by omega) (diffF_bnd hb ho)
  have p2 := pairs_c (l := diffF b t) (by omega) (diffF_bnd hb ht)
  have m1 := pairsG_len (diffF b o)
  have m2 := pairsG_len (diffF b t)
  have hAl : (pairsG (diffF b o)).length ≤ 240 := by omega
  have hBl : (pairsG (diffF b t)).length ≤ 240 := by omega
  clear l1 l2 m1 m2
  generalize diffF b o = D1 at *
  generalize diffF b t = D2 at *
  generalize pairsG D1 = A at *
  generalize pairsG D2 = B at *
  refine ent tabOK hmix Tryz.func69 rfl rfl fun X0 hX => ?_
  simp only [Tryz.ntmps69, Tryz.f69, go_sem]
  repeat' (first | simp (maxSteps := 1000000) only [*, go_sem, Nat.reduceLT, Nat.reduceLeDiff, Nat.reduceEqDiff, ↓reduceIte, Nat.reduceAdd, Nat.reduceSub, Nat.reduceMul, Int.reduceLT, Int.reduceLE, Int.reduceAdd, Int.reduceSub, Int.reduceMul, Int.reduceNeg, Int.reduceToNat, Int.reduceEq, Int.reduceBEq, Int.reduceBNe, Nat.reduceBEq, beq_self_eq_true, bne_self_eq_false] | ((with_reducible refine useN (d1) ?_ ?_ ?_); (focus exact rfl); (focus exact fun _ => rfl)) | ((with_reducible refine useN (d2) ?_ ?_ ?_); (focus exact rfl); (focus exact fun _ => rfl)) | ((with_reducible refine useN (p1) ?_ ?_ ?_); (focus exact rfl); (focus exact fun _ => rfl)) | ((with_reducible refine useN (p2) ?_ ?_ ?_); (focus exact rfl); (focus exact fun _ => rfl)) | with_reducible refine vcond_split (fun _ => ?_) (fun _ => ?_) | with_reducible refine vg_split (fun _ => ?_) (fun _ => ?_) | ((with_reducible apply DCalls.frz); (focus exact rfl); (focus exact rfl)) | ((with_reducible refine And.intro ?_ ?_); (focus (first | omega | decide | assumption | (simp only [decide_eq_true_eq, decide_eq_false_iff_not] at *; omega)))))
  refine vc_virt tabOK hmix 9 2 rfl ?_
  refine loop_ren tabOK hmix (α := Nat × List Cf) (fun x => ⟨50, [(8, .c (.p (.sl 2 (encP B)))), (22, .c (.p (.sl 2 (encP A)))), (23, .c (.p (.i .i64 A.length))), (24, .c (.p (.i .i64 x.1))), (9, .c (.own 0 0 x.2.length))], [.arr 2 (encF x.2) false]⟩)
    (fun x => x.1 ≤ A.length ∧ x.2.length ≤ x.1 ∧ x.2 ++ (A.drop x.1).flatMap (renF B) = renamedF A B) (fun x => A.length - x.1) (0, []) ⟨Nat.zero_le _, Nat.le_refl _, rfl⟩ (.inl (weak_mk (by rw [hX]; rfl) rfl rfl (by simp [wk_cons, wk_nil, look_cons, closedD, closedC, encT_nil, encS_nil, encC_nil]))) ?_
  clear d1 d2 p1 p2
  rintro ⟨i, out⟩ ⟨hi, hol, hJ⟩
  simp only at hi hol hJ
  by_cases hlt : i < A.length
  · have hx : A[i]? = some A[i] := List.getElem?_eq_getElem hlt
    have hg := encP_at hx
    have hd := drop_at hx
    have h1 : decide ((i : Int) < (A.length : Int)) = true := decide_eq_true (by omega)
    have hli : (i : Int) < (A.length : Int) := by omega
    have w1 : IntKind.i64.wrap ((i : Int) + 1) = i + 1 := wrap_i64 (by omega) (by omega)
    generalize A[i] = x at hx hg hd
    have hto := to_c (l := B) (p := x.a) (by omega)
    rw [hd, List.flatMap_cons, renF] at hJ
    clear hx hd
    have hob : out.length ≤ 1000000 := by omega
    cases htx : toF B x.a with
    | none =>
      rw [htx] at hto hJ
      simp only [Option.getD_none, Option.isSome_none, List.nil_append] at hto hJ
      have hJ2 : i + 1 ≤ A.length ∧ out.length ≤ i + 1 ∧ out ++ (A.drop (i + 1)).flatMap (renF B) = renamedF A B := ⟨by omega, by omega, hJ⟩
      clear hJ htx
      repeat' (first | simp (maxSteps := 1000000) only [*, go_sem, Nat.reduceLT, Nat.reduceLeDiff, Nat.reduceEqDiff, ↓reduceIte, Nat.reduceAdd, Nat.reduceSub, Nat.reduceMul, Int.reduceLT, Int.reduceLE, Int.reduceAdd, Int.reduceSub, Int.reduceMul, Int.reduceNeg, Int.reduceToNat, Int.reduceEq, Int.reduceBEq, Int.reduceBNe, Nat.reduceBEq, beq_self_eq_true, bne_self_eq_false] | ((with_reducible refine useF (hto) ?_ ?_ ?_); (focus exact rfl); (focus exact rfl)) | with_reducible refine vcond_split (fun _ => ?_) (fun _ => ?_) | with_reducible refine vg_split (fun _ => ?_) (fun _ => ?_) | ((with_reducible apply DCalls.frz); (focus exact rfl); (focus exact rfl)) | ((with_reducible refine And.intro ?_ ?_); (focus (first | omega | decide | assumption | (simp only [decide_eq_true_eq, decide_eq_false_iff_not] at *; omega)))))
      exact qr_n (i + 1, out) hJ2 (by simp only; omega) (weak_mk rfl rfl rfl (by simp [wk_cons, wk_nil, look_cons, closedD, closedC, renT, renD, renC, encT_nil, encS_nil, encC_nil]))
    | some q =>
      rw [htx] at hto hJ
      simp only [Option.getD_some, Option.isSome_some] at hto hJ
      have n1 : (q != x.b) = !(q == x.b) := rfl
      rw [n1] at hJ
      clear htx
      cases hq : (q == x.b)
      · rw [hq, if_pos (by decide)] at hJ
        rw [hq] at n1
        have hJ2 : i + 1 ≤ A.length ∧ (out ++ [(⟨x.a, 6⟩ : Cf)]).length ≤ i + 1 ∧ (out ++ [(⟨x.a, 6⟩ : Cf)]) ++ (A.drop (i + 1)).flatMap (renF B) = renamedF A B := ⟨by omega, by simp; omega, by simpa using hJ⟩
        clear hJ
        repeat' (first | simp (maxSteps := 1000000) only [*, go_sem, Nat.reduceLT, Nat.reduceLeDiff, Nat.reduceEqDiff, ↓reduceIte, Nat.reduceAdd, Nat.reduceSub, Nat.reduceMul, Int.reduceLT, Int.reduceLE, Int.reduceAdd, Int.reduceSub, Int.reduceMul, Int.reduceNeg, Int.reduceToNat, Int.reduceEq, Int.reduceBEq, Int.reduceBNe, Nat.reduceBEq, beq_self_eq_true, bne_self_eq_false, Bool.not_false, Bool.not_true] | ((with_reducible refine useF (hto) ?_ ?_ ?_); (focus exact rfl); (focus exact rfl)) | with_reducible refine vcond_split (fun _ => ?_) (fun _ => ?_) | with_reducible refine vg_split (fun _ => ?_) (fun _ => ?_) | ((with_reducible apply DCalls.frz); (focus exact rfl); (focus exact rfl)) | ((with_reducible refine And.intro ?_ ?_); (focus (first | omega | decide | assumption | (simp only [decide_eq_true_eq, decide_eq_false_iff_not] at *; omega)))))
        exact qr_ren (i + 1, out ++ [⟨x.a, 6⟩]) 0 3 hJ2 (by simp only; omega) rfl rfl (weak_mk rfl rfl rfl (by simp [wk_cons, wk_nil, look_cons, closedD, closedC, renT, renD, renC, encT_nil, encS_nil, encC_nil]))
      · rw [hq, if_neg (by decide), List.nil_append] at hJ
        rw [hq] at n1
        have hJ2 : i + 1 ≤ A.length ∧ out.length ≤ i + 1 ∧ out ++ (A.drop (i + 1)).flatMap (renF B) = renamedF A B := ⟨by omega, by omega, hJ⟩
        clear hJ
        repeat' (first | simp (maxSteps := 1000000) only [*, go_sem, Nat.reduceLT, Nat.reduceLeDiff, Nat.reduceEqDiff, ↓reduceIte, Nat.reduceAdd, Nat.reduceSub, Nat.reduceMul, Int.reduceLT, Int.reduceLE, Int.reduceAdd, Int.reduceSub, Int.reduceMul, Int.reduceNeg, Int.reduceToNat, Int.reduceEq, Int.reduceBEq, Int.reduceBNe, Nat.reduceBEq, beq_self_eq_true, bne_self_eq_false, Bool.not_false, Bool.not_true] | ((with_reducible refine useF (hto) ?_ ?_ ?_); (focus exact rfl); (focus exact rfl)) | with_reducible refine vcond_split (fun _ => ?_) (fun _ => ?_) | with_reducible refine vg_split (fun _ => ?_) (fun _ => ?_) | ((with_reducible apply DCalls.frz); (focus exact rfl); (focus exact rfl)) | ((with_reducible refine And.intro ?_ ?_); (focus (first | omega | decide | assumption | (simp only [decide_eq_true_eq, decide_eq_false_iff_not] at *; omega)))))
        exact qr_n (i + 1, out) hJ2 (by simp only; omega) (weak_mk rfl rfl rfl (by simp [wk_cons, wk_nil, look_cons, closedD, closedC, renT, renD, renC, encT_nil, encS_nil, encC_nil]))
  · have h1 : decide ((i : Int) < (A.length : Int)) = false := decide_eq_false (by omega)
    rw [List.drop_of_length_le (by omega), List.flatMap_nil, List.append_nil] at hJ
    rw [← hJ]
    clear hJ
    repeat' (first | simp (maxSteps := 1000000) only [*, go_sem, Nat.reduceLT, Nat.reduceLeDiff, Nat.reduceEqDiff, ↓reduceIte, Nat.reduceAdd, Nat.reduceSub, Nat.reduceMul, Int.reduceLT, Int.reduceLE, Int.reduceAdd, Int.reduceSub, Int.reduceMul, Int.reduceNeg, Int.reduceToNat, Int.reduceEq, Int.reduceBEq, Int.reduceBNe, Nat.reduceBEq, beq_self_eq_true, bne_self_eq_false] | with_reducible refine vcond_split (fun _ => ?_) (fun _ => ?_) | with_reducible refine vg_split (fun _ => ?_) (fun _ => ?_) | ((with_reducible apply DCalls.frz); (focus exact rfl); (focus exact rfl)) | ((with_reducible refine And.intro ?_ ?_); (focus (first | omega | decide | assumption | (simp only [decide_eq_true_eq, decide_eq_false_iff_not] at *; omega)))))
    all_goals first | rfl | (rw [List.take_of_length_le (by simp)]) | simp

end Go.Proofs.YtjanmkknbijecaaGreatDoor
