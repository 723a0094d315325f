/-
  The law of a tree's names, walked.
-/
import Derived.Test.YtomaddpcacoodaaGreatDoorF4
set_option linter.unusedSimpArgs false
set_option linter.unusedVariables false
namespace Go.Proofs.YtomaddpcacoodaaGreatDoor
open Go Go.Dm
set_option maxRecDepth 100000
set_option maxHeartbeats 4000000

theorem names_small {t : List It} (h : OkT t) {d b : List UInt8} (hb : b ∈ namesF t d) : d.length ≤ 120 ∧ b.length ≤ 120 := by
  have hb : b ∈ dirNames t d := List.mem_mergeSort.1 hb
  obtain ⟨x, hx, _, _, hj⟩ := dirNames_mem h hb
  have hl := h.plen x hx
  rw [← hj] at hl
  unfold joinF at hl
  split at hl
  · rename_i hd
    rw [eq_of_beq hd]; exact ⟨by simp, hl⟩
  · simp only [List.length_append, List.length_cons] at hl
    omega

theorem join_c {d n : List UInt8} (hd : d.length ≤ 120) (hn : n.length ≤ 120) : DCalls Tryz.prog 23 [.c (.p (.s d)), .c (.p (.s n))] [] fun r h => r = .c (.p (.s (joinF d n))) ∧ h = [] := by
  refine ent tabOK hmix Tryz.func23 rfl rfl fun X0 hX => ?_
  simp only [Tryz.ntmps23, Tryz.f23, go_sem]
  repeat' (first | simp only [*, go_sem, Nat.reduceLT, Nat.reduceLeDiff, Nat.reduceEqDiff, ↓reduceIte, Nat.reduceAdd, Nat.reduceSub, Nat.reduceMul, Int.reduceLT, Int.reduceLE, Int.reduceAdd, Int.reduceSub, Int.reduceMul, Int.reduceNeg, Int.reduceToNat, Int.reduceEq, Int.reduceBEq, Int.reduceBNe, Nat.reduceBEq, beq_self_eq_true, bne_self_eq_false] | with_reducible refine vcond_split (fun _ => ?_) (fun _ => ?_) | with_reducible refine vg_split (fun _ => ?_) (fun _ => ?_) | ((with_reducible apply DCalls.frz); (focus exact rfl); (focus exact rfl)) | ((with_reducible refine And.intro ?_ ?_); (focus (first | omega | decide | assumption | (simp only [decide_eq_true_eq, decide_eq_false_iff_not] at *; omega)))))
  all_goals first | (simp_all [joinF]; done) | (simp_all [joinF]; omega)

theorem pickE_c {n m : Int} (hm : 0 < m) (hm2 : m ≤ 9223372036854775807) : DCalls Tryz.prog 11 [.c (.p (.i .i64 n)), .c (.p (.i .i64 m))] [] fun r h => ∃ k : Nat, (k : Int) < m ∧ r = .c (.p (.i .i64 k)) ∧ h = [] :=
  (Pick_c hm hm2).mono fun d h ⟨h1, h2⟩ => by
    have e1 := Int.emod_nonneg n (show m ≠ 0 by omega)
    have e2 := Int.emod_lt_of_pos n hm
    exact ⟨(n % m).toNat, by omega, by rw [h1]; congr 4; omega, h2⟩

theorem treeNames_c {l : List RI} {ix : Int} (hl : l.length ≤ 9223372036854775807) (hd : ∀ x ∈ l, x.n.d.length ≤ 9223372036854775807) (hdx : ∀ x ∈ l, x.n.x < 18446744073709551616) :
    DCalls Tryz.prog 6 [.c (.p (.sl 6 (Go.Dm.encI l))), .c (.p (.i .i64 ix))] [] fun r h => r = .c (.p (.b true)) ∧ h = [] := by
  refine ent tabOK hmix Tryz.func6 rfl rfl fun X0 hX => ?_
  simp only [Tryz.ntmps6, Tryz.f6, go_sem]
  repeat' (first | simp only [*, go_sem, Nat.reduceLT, Nat.reduceLeDiff, Nat.reduceEqDiff, ↓reduceIte, Nat.reduceAdd, Nat.reduceSub, Nat.reduceMul, Int.reduceLT, Int.reduceLE, Int.reduceAdd, Int.reduceSub, Int.reduceMul, Int.reduceNeg, Int.reduceToNat, Int.reduceEq, Int.reduceBEq, Int.reduceBNe, Nat.reduceBEq, beq_self_eq_true, bne_self_eq_false] | with_reducible refine vcond_split (fun _ => ?_) (fun _ => ?_) | with_reducible refine vg_split (fun _ => ?_) (fun _ => ?_) | ((with_reducible apply DCalls.frz); (focus exact rfl); (focus exact rfl)) | ((with_reducible refine And.intro ?_ ?_); (focus (first | omega | decide | assumption | (simp only [decide_eq_true_eq, decide_eq_false_iff_not] at *; omega)))))
  refine useNE (C := OkT) (e := fun t => .c (.p (.sl 5 (encT t)))) (tree_c hl hd hdx) rfl (fun _ _ _ => rfl) fun t ht => ?_
  have htl := ht.len
  repeat' (first | simp only [*, go_sem, Nat.reduceLT, Nat.reduceLeDiff, Nat.reduceEqDiff, ↓reduceIte, Nat.reduceAdd, Nat.reduceSub, Nat.reduceMul, Int.reduceLT, Int.reduceLE, Int.reduceAdd, Int.reduceSub, Int.reduceMul, Int.reduceNeg, Int.reduceToNat, Int.reduceEq, Int.reduceBEq, Int.reduceBNe, Nat.reduceBEq, beq_self_eq_true, bne_self_eq_false] | ((with_reducible refine useF (known11_c) ?_ ?_ ?_); (focus exact rfl); (focus exact rfl)) | with_reducible refine vcond_split (fun _ => ?_) (fun _ => ?_) | with_reducible refine vg_split (fun _ => ?_) (fun _ => ?_) | ((with_reducible apply DCalls.frz); (focus exact rfl); (focus exact rfl)) | ((with_reducible refine And.intro ?_ ?_); (focus (first | omega | decide | assumption | (simp only [decide_eq_true_eq, decide_eq_false_iff_not] at *; omega)))))
  refine loop_ren tabOK hmix (α := Nat × List (List UInt8)) (fun x => ⟨190, [(1, .c (.p (.i .i64 ix))), (5, .c (.p (.sl 5 (encT t)))), (6, .c (.p (.i .i64 0))), (7, .c (.own 0 0 x.2.length)), (8, .c (.p (.i .i64 x.1)))], [.arr 1 (Go.Dm.encS x.2) false]⟩)
    (fun x => x.1 ≤ t.length ∧ x.2.length ≤ x.1 + 1 ∧ ([] :: ((t.take x.1).filter fun x => x.n.k == 2).map It.p) = x.2) (fun x => t.length - x.1) (0, [[]]) ⟨Nat.zero_le _, Nat.le_refl _, rfl⟩ (.inl (weak_mk (by rw [hX]; rfl) rfl rfl (by simp [wk_cons, wk_nil, look_cons, closedD, closedC, encT_nil, encS_nil, encC_nil]))) ?_
  rintro ⟨i, D⟩ ⟨hi, hDl, hD⟩
  simp only at hi hDl hD
  by_cases hlt : i < t.length
  · have hx : t[i]? = some t[i] := List.getElem?_eq_getElem hlt
    have hg := encT_at hx
    have h1 : decide ((i : Int) < (t.length : Int)) = true := decide_eq_true (by omega)
    have w1 : IntKind.i64.wrap ((i : Int) + 1) = i + 1 := wrap_i64 (by omega) (by omega)
    have hnx := filter_next (g := fun x => x.n.k == 2) hx
    have hn := names_c (p := t[i].p) ht
    have hnf := @namesF_file t ht t[i] (List.getElem_mem hlt)
    generalize t[i] = x at hx hg hnx hn hnf
    cases hb : (x.n.k == 2)
    · rw [hnf (by simpa using hb)] at hn
      have hJ : i + 1 ≤ t.length ∧ D.length ≤ i + 1 + 1 ∧ ([] :: ((t.take (i + 1)).filter fun x => x.n.k == 2).map It.p) = D := ⟨by omega, by omega, by rw [hnx, hb, ← hD]; simp⟩
      clear hnx hx hD hnf
      repeat' (first | simp only [*, go_sem, Nat.reduceLT, Nat.reduceLeDiff, Nat.reduceEqDiff, ↓reduceIte, Nat.reduceAdd, Nat.reduceSub, Nat.reduceMul, Int.reduceLT, Int.reduceLE, Int.reduceAdd, Int.reduceSub, Int.reduceMul, Int.reduceNeg, Int.reduceToNat, Int.reduceEq, Int.reduceBEq, Int.reduceBNe, Nat.reduceBEq, beq_self_eq_true, bne_self_eq_false] | ((with_reducible refine useN (hn) ?_ ?_ ?_); (focus exact rfl); (focus exact fun _ => rfl)) | with_reducible refine vcond_split (fun _ => ?_) (fun _ => ?_) | with_reducible refine vg_split (fun _ => ?_) (fun _ => ?_) | ((with_reducible apply DCalls.frz); (focus exact rfl); (focus exact rfl)) | ((with_reducible refine And.intro ?_ ?_); (focus (first | omega | decide | assumption | (simp only [decide_eq_true_eq, decide_eq_false_iff_not] at *; omega)))))
      exact qr_n (i + 1, D) hJ (by simp only; omega) (weak_mk rfl rfl rfl (by simp [wk_cons, wk_nil, look_cons, closedD, closedC, renT, renD, renC, encT_nil, encS_nil, encC_nil]))
    · have hJ : i + 1 ≤ t.length ∧ (D ++ [x.p]).length ≤ i + 1 + 1 ∧ ([] :: ((t.take (i + 1)).filter fun x => x.n.k == 2).map It.p) = D ++ [x.p] := ⟨by omega, by simp; omega, by rw [hnx, hb, ← hD]; simp⟩
      clear hnx hx hD hnf hn
      repeat' (first | simp only [*, go_sem, Nat.reduceLT, Nat.reduceLeDiff, Nat.reduceEqDiff, ↓reduceIte, Nat.reduceAdd, Nat.reduceSub, Nat.reduceMul, Int.reduceLT, Int.reduceLE, Int.reduceAdd, Int.reduceSub, Int.reduceMul, Int.reduceNeg, Int.reduceToNat, Int.reduceEq, Int.reduceBEq, Int.reduceBNe, Nat.reduceBEq, beq_self_eq_true, bne_self_eq_false] | with_reducible refine vcond_split (fun _ => ?_) (fun _ => ?_) | with_reducible refine vg_split (fun _ => ?_) (fun _ => ?_) | ((with_reducible apply DCalls.frz); (focus exact rfl); (focus exact rfl)) | ((with_reducible refine And.intro ?_ ?_); (focus (first | omega | decide | assumption | (simp only [decide_eq_true_eq, decide_eq_false_iff_not] at *; omega)))))
      exact qr_ren (i + 1, D ++ [x.p]) 0 2 hJ (by simp only; omega) rfl rfl (weak_mk rfl rfl rfl (by simp [wk_cons, wk_nil, look_cons, closedD, closedC, renT, renD, renC, encT_nil, encS_nil, encC_nil]))
  have h1 : decide ((i : Int) < (t.length : Int)) = false := decide_eq_false (by omega)
  rw [List.take_of_length_le (by omega)] at hD
  have hD2 : D = dirsF t := hD.symm
  clear hD
  have hall := names_all ht
  rw [← hD2] at hall
  have hDl2 : D.length ≤ 130 := by omega
  clear hD2 hDl
  repeat' (first | simp only [*, go_sem, Nat.reduceLT, Nat.reduceLeDiff, Nat.reduceEqDiff, ↓reduceIte, Nat.reduceAdd, Nat.reduceSub, Nat.reduceMul, Int.reduceLT, Int.reduceLE, Int.reduceAdd, Int.reduceSub, Int.reduceMul, Int.reduceNeg, Int.reduceToNat, Int.reduceEq, Int.reduceBEq, Int.reduceBNe, Nat.reduceBEq, beq_self_eq_true, bne_self_eq_false] | with_reducible refine vcond_split (fun _ => ?_) (fun _ => ?_) | with_reducible refine vg_split (fun _ => ?_) (fun _ => ?_) | ((with_reducible apply DCalls.frz); (focus exact rfl); (focus exact rfl)) | ((with_reducible refine And.intro ?_ ?_); (focus (first | omega | decide | assumption | (simp only [decide_eq_true_eq, decide_eq_false_iff_not] at *; omega)))))
  clear h1 hlt hi
  refine loop_ren tabOK hmix (α := Nat × Nat) (fun x => ⟨190, [(1, .c (.p (.i .i64 ix))), (5, .c (.p (.sl 5 (encT t)))), (6, .c (.p (.i .i64 x.2))), (7, .c (.own 0 0 D.length)), (9, .c (.p (.i .i64 x.1)))], [.arr 1 (Go.Dm.encS D) false]⟩)
    (fun x => x.1 ≤ D.length ∧ x.2 = ((D.take x.1).map fun d => (namesF t d).length).sum) (fun x => D.length - x.1) (0, 0) ⟨Nat.zero_le _, rfl⟩ (.inl (weak_mk (by rw [hX]; rfl) rfl rfl (by simp [wk_cons, wk_nil, look_cons, closedD, closedC, encT_nil, encS_nil, encC_nil]))) ?_
  rintro ⟨i, n⟩ ⟨hi, hn⟩
  simp only at hi hn
  by_cases hlt : i < D.length
  · have hx : D[i]? = some D[i] := List.getElem?_eq_getElem hlt
    have hg := Go.Dm.encS_at hx
    have h1 : decide ((i : Int) < (D.length : Int)) = true := decide_eq_true (by omega)
    have w1 : IntKind.i64.wrap ((i : Int) + 1) = i + 1 := wrap_i64 (by omega) (by omega)
    have hnx : ((D.take (i + 1)).map fun d => (namesF t d).length).sum = n + (namesF t D[i]).length := by
      rw [List.take_add_one, hx, List.map_append, List.sum_append, hn]; simp
    have hns := names_c (p := D[i]) ht
    have hst := namesF_strict ht D[i]
    have hmem := fun b => @namesF_mem t ht D[i] b
    have hsm := fun b => @names_small t ht D[i] b
    have hnl : n + (namesF t D[i]).length ≤ t.length := by
      rw [← hnx, ← hall]
      have : D = D.take (i + 1) ++ D.drop (i + 1) := (List.take_append_drop _ _).symm
      conv => rhs; rw [this]
      rw [List.map_append, List.sum_append]; omega
    generalize D[i] = d at hx hg hnx hns hst hmem hnl hsm
    generalize namesF t d = N at hnx hns hst hmem hnl hsm
    clear hx hn
    repeat' (first | simp only [*, go_sem, Nat.reduceLT, Nat.reduceLeDiff, Nat.reduceEqDiff, ↓reduceIte, Nat.reduceAdd, Nat.reduceSub, Nat.reduceMul, Int.reduceLT, Int.reduceLE, Int.reduceAdd, Int.reduceSub, Int.reduceMul, Int.reduceNeg, Int.reduceToNat, Int.reduceEq, Int.reduceBEq, Int.reduceBNe, Nat.reduceBEq, beq_self_eq_true, bne_self_eq_false] | ((with_reducible refine useN (hns) ?_ ?_ ?_); (focus exact rfl); (focus exact fun _ => rfl)) | with_reducible refine vcond_split (fun _ => ?_) (fun _ => ?_) | with_reducible refine vg_split (fun _ => ?_) (fun _ => ?_) | ((with_reducible apply DCalls.frz); (focus exact rfl); (focus exact rfl)) | ((with_reducible refine And.intro ?_ ?_); (focus (first | omega | decide | assumption | (simp only [decide_eq_true_eq, decide_eq_false_iff_not] at *; omega)))))
    clear hns
    refine loop_ren tabOK hmix (α := Nat) (fun j => ⟨190, [(1, .c (.p (.i .i64 ix))), (5, .c (.p (.sl 5 (encT t)))), (6, .c (.p (.i .i64 ((n + j : Nat) : Int)))), (7, .c (.own 0 0 D.length)), (9, .c (.p (.i .i64 i))), (10, .c (.p (.sl 1 (Go.Dm.encS N)))), (11, .c (.p (.i .i64 j)))], [.arr 1 (Go.Dm.encS D) false]⟩)
      (fun j => j ≤ N.length) (fun j => N.length - j) 0 (Nat.zero_le _) (.inl (weak_mk (by rw [hX]; rfl) rfl rfl (by simp [wk_cons, wk_nil, look_cons, closedD, closedC, encT_nil, encS_nil, encC_nil]))) ?_
    intro j hj
    by_cases hjl : j < N.length
    · have hy : N[j]? = some N[j] := List.getElem?_eq_getElem hjl
      have hg2 := Go.Dm.encS_at hy
      have h2 : decide ((j : Int) < (N.length : Int)) = true := decide_eq_true (by omega)
      have hli : (i : Int) < D.length := by omega
      have hlj : (j : Int) < N.length := by omega
      have w2 : IntKind.i64.wrap ((j : Int) + 1) = j + 1 := wrap_i64 (by omega) (by omega)
      have w3 : IntKind.i64.wrap (((n + j : Nat) : Int) + 1) = ((n + (j + 1) : Nat) : Int) := by rw [wrap_i64 (by omega) (by omega)]; omega
      have hget := treeGet_c (t := t) (p := joinF d N[j]) (by omega) ht.srt ht.ne (fun x hx => Nat.le_trans (ht.dlen x hx) (by decide))
      rw [hmem _ (List.getElem_mem hjl)] at hget
      have prev : decide ((0 : Int) < j) = false ∨ ∃ m : Nat, ∃ y : List UInt8, decide ((0 : Int) < j) = true ∧ IntKind.i64.wrap ((j : Int) - 1) = (m : Int) ∧ (m : Int) < N.length ∧ N[m]? = some y ∧ (bltL N[j] y || N[j] == y) = false := by
        by_cases h0 : 0 < j
        · have hmk : j - 1 < N.length := by omega
          have h3 := List.pairwise_iff_getElem.1 hst (j - 1) j hmk hjl (by omega)
          refine .inr ⟨j - 1, N[j - 1], decide_eq_true (by omega), ?_, by omega, List.getElem?_eq_getElem hmk, ?_⟩
          · rw [wrap_i64 (by omega) (by omega)]; omega
          · rw [blt_asymm h3, Bool.false_or]
            cases he : (N[j] == N[j - 1])
            · rfl
            · rw [eq_of_beq he, blt_irrefl] at h3; cases h3
        · exact .inl (decide_eq_false (by omega))
      obtain ⟨z1, z2⟩ := hsm _ (List.getElem_mem hjl)
      generalize N[j] = b at hy hg2 hget prev z1 z2
      generalize (getR t (joinF d b)).getD nd0 = g at hget
      clear hst hmem hnx hy hsm
      rcases prev with b1 | ⟨m, y, b1, b2, b3, b4, b5⟩
      · repeat' (first | simp only [*, go_sem, Nat.reduceLT, Nat.reduceLeDiff, Nat.reduceEqDiff, ↓reduceIte, Nat.reduceAdd, Nat.reduceSub, Nat.reduceMul, Int.reduceLT, Int.reduceLE, Int.reduceAdd, Int.reduceSub, Int.reduceMul, Int.reduceNeg, Int.reduceToNat, Int.reduceEq, Int.reduceBEq, Int.reduceBNe, Nat.reduceBEq, beq_self_eq_true, bne_self_eq_false, Bool.not_true, Bool.not_false] | ((with_reducible refine useF (join_c z1 z2) ?_ ?_ ?_); (focus exact rfl); (focus exact rfl)) | ((with_reducible refine useN (hget) ?_ ?_ ?_); (focus exact rfl); (focus exact fun _ => rfl)) | ((refine vc_drawn (id := 20) tabOK hmix [14,15] [14,0,1,2,3,4,5,6,7,8,9,10,11,12,15,13,16] (by kernel_rfl) ?_); (repeat' (first | (refine ds_nil ?_) | ((refine ds_chg ?_ ?_ rfl rfl rfl ?_ ?_); (rotate_left 2); (focus ((repeat' (first | simp only [*, go_sem, Nat.reduceLT, Nat.reduceLeDiff, Nat.reduceEqDiff, ↓reduceIte, Nat.reduceAdd, Nat.reduceSub, Nat.reduceMul, Int.reduceLT, Int.reduceLE, Int.reduceAdd, Int.reduceSub, Int.reduceMul, Int.reduceNeg, Int.reduceToNat, Int.reduceEq, Int.reduceBEq, Int.reduceBNe, Nat.reduceBEq, beq_self_eq_true, bne_self_eq_false, Bool.not_true, Bool.not_false] | ((with_reducible refine useF (join_c z1 z2) ?_ ?_ ?_); (focus exact rfl); (focus exact rfl)) | ((with_reducible refine useN (hget) ?_ ?_ ?_); (focus exact rfl); (focus exact fun _ => rfl)) | with_reducible refine vcond_split (fun _ => ?_) (fun _ => ?_) | with_reducible refine vg_split (fun _ => ?_) (fun _ => ?_) | ((with_reducible apply DCalls.frz); (focus exact rfl); (focus exact rfl)) | ((with_reducible refine And.intro ?_ ?_); (focus (first | omega | decide | assumption | (simp only [decide_eq_true_eq, decide_eq_false_iff_not] at *; omega)))))); (first | exact rfl | (refine And.intro ?_ ?_ <;> exact rfl)))); (simp only [putF_some, putF_none])) | ((refine ds_all ?_ rfl rfl rfl ?_ ?_); (rotate_left 1); (focus ((repeat' (first | exact allH_nil | refine allH_cons ?_ ?_)); (all_goals ((repeat' (first | simp only [*, go_sem, Nat.reduceLT, Nat.reduceLeDiff, Nat.reduceEqDiff, ↓reduceIte, Nat.reduceAdd, Nat.reduceSub, Nat.reduceMul, Int.reduceLT, Int.reduceLE, Int.reduceAdd, Int.reduceSub, Int.reduceMul, Int.reduceNeg, Int.reduceToNat, Int.reduceEq, Int.reduceBEq, Int.reduceBNe, Nat.reduceBEq, beq_self_eq_true, bne_self_eq_false, Bool.not_true, Bool.not_false] | ((with_reducible refine useF (join_c z1 z2) ?_ ?_ ?_); (focus exact rfl); (focus exact rfl)) | ((with_reducible refine useN (hget) ?_ ?_ ?_); (focus exact rfl); (focus exact fun _ => rfl)) | with_reducible refine vcond_split (fun _ => ?_) (fun _ => ?_) | with_reducible refine vg_split (fun _ => ?_) (fun _ => ?_) | ((with_reducible apply DCalls.frz); (focus exact rfl); (focus exact rfl)) | ((with_reducible refine And.intro ?_ ?_); (focus (first | omega | decide | assumption | (simp only [decide_eq_true_eq, decide_eq_false_iff_not] at *; omega)))))); (try (first | exact rfl | omega)))))); (simp only [putF_some, putF_none]))))) | ((refine vc_drawn (id := 21) tabOK hmix [] [0,1,2,3,4,5,6,7,8,9,10,11,12,13,14,15,16,17] (by kernel_rfl) ?_); (repeat' (first | (refine ds_nil ?_) | ((refine ds_one ?_ rfl rfl ?_ ?_); (rotate_left 1); (focus ((repeat' (first | simp only [*, go_sem, Nat.reduceLT, Nat.reduceLeDiff, Nat.reduceEqDiff, ↓reduceIte, Nat.reduceAdd, Nat.reduceSub, Nat.reduceMul, Int.reduceLT, Int.reduceLE, Int.reduceAdd, Int.reduceSub, Int.reduceMul, Int.reduceNeg, Int.reduceToNat, Int.reduceEq, Int.reduceBEq, Int.reduceBNe, Nat.reduceBEq, beq_self_eq_true, bne_self_eq_false, Bool.not_true, Bool.not_false] | ((with_reducible refine useF (join_c z1 z2) ?_ ?_ ?_); (focus exact rfl); (focus exact rfl)) | ((with_reducible refine useN (hget) ?_ ?_ ?_); (focus exact rfl); (focus exact fun _ => rfl)) | with_reducible refine vcond_split (fun _ => ?_) (fun _ => ?_) | with_reducible refine vg_split (fun _ => ?_) (fun _ => ?_) | ((with_reducible apply DCalls.frz); (focus exact rfl); (focus exact rfl)) | ((with_reducible refine And.intro ?_ ?_); (focus (first | omega | decide | assumption | (simp only [decide_eq_true_eq, decide_eq_false_iff_not] at *; omega)))))); exact rfl)); (simp only [putF_some, putF_none]))))) | with_reducible refine vcond_split (fun _ => ?_) (fun _ => ?_) | with_reducible refine vg_split (fun _ => ?_) (fun _ => ?_) | ((with_reducible apply DCalls.frz); (focus exact rfl); (focus exact rfl)) | ((with_reducible refine And.intro ?_ ?_); (focus (first | omega | decide | assumption | (simp only [decide_eq_true_eq, decide_eq_false_iff_not] at *; omega)))))
        exact qr_n (j + 1) (by omega) (by omega) (weak_mk rfl rfl rfl (by simp [wk_cons, wk_nil, look_cons, closedD, closedC, renT, renD, renC, encT_nil, encS_nil, encC_nil]))
      · have hgy := Go.Dm.encS_at b4
        repeat' (first | simp only [*, go_sem, Nat.reduceLT, Nat.reduceLeDiff, Nat.reduceEqDiff, ↓reduceIte, Nat.reduceAdd, Nat.reduceSub, Nat.reduceMul, Int.reduceLT, Int.reduceLE, Int.reduceAdd, Int.reduceSub, Int.reduceMul, Int.reduceNeg, Int.reduceToNat, Int.reduceEq, Int.reduceBEq, Int.reduceBNe, Nat.reduceBEq, beq_self_eq_true, bne_self_eq_false, Bool.not_true, Bool.not_false] | ((with_reducible refine useF (join_c z1 z2) ?_ ?_ ?_); (focus exact rfl); (focus exact rfl)) | ((with_reducible refine useN (hget) ?_ ?_ ?_); (focus exact rfl); (focus exact fun _ => rfl)) | ((refine vc_drawn (id := 20) tabOK hmix [14,15] [14,0,1,2,3,4,5,6,7,8,9,10,11,12,15,13,16] (by kernel_rfl) ?_); (repeat' (first | (refine ds_nil ?_) | ((refine ds_chg ?_ ?_ rfl rfl rfl ?_ ?_); (rotate_left 2); (focus ((repeat' (first | simp only [*, go_sem, Nat.reduceLT, Nat.reduceLeDiff, Nat.reduceEqDiff, ↓reduceIte, Nat.reduceAdd, Nat.reduceSub, Nat.reduceMul, Int.reduceLT, Int.reduceLE, Int.reduceAdd, Int.reduceSub, Int.reduceMul, Int.reduceNeg, Int.reduceToNat, Int.reduceEq, Int.reduceBEq, Int.reduceBNe, Nat.reduceBEq, beq_self_eq_true, bne_self_eq_false, Bool.not_true, Bool.not_false] | ((with_reducible refine useF (join_c z1 z2) ?_ ?_ ?_); (focus exact rfl); (focus exact rfl)) | ((with_reducible refine useN (hget) ?_ ?_ ?_); (focus exact rfl); (focus exact fun _ => rfl)) | with_reducible refine vcond_split (fun _ => ?_) (fun _ => ?_) | with_reducible refine vg_split (fun _ => ?_) (fun _ => ?_) | ((with_reducible apply DCalls.frz); (focus exact rfl); (focus exact rfl)) | ((with_reducible refine And.intro ?_ ?_); (focus (first | omega | decide | assumption | (simp only [decide_eq_true_eq, decide_eq_false_iff_not] at *; omega)))))); (first | exact rfl | (refine And.intro ?_ ?_ <;> exact rfl)))); (simp only [putF_some, putF_none])) | ((refine ds_all ?_ rfl rfl rfl ?_ ?_); (rotate_left 1); (focus ((repeat' (first | exact allH_nil | refine allH_cons ?_ ?_)); (all_goals ((repeat' (first | simp only [*, go_sem, Nat.reduceLT, Nat.reduceLeDiff, Nat.reduceEqDiff, ↓reduceIte, Nat.reduceAdd, Nat.reduceSub, Nat.reduceMul, Int.reduceLT, Int.reduceLE, Int.reduceAdd, Int.reduceSub, Int.reduceMul, Int.reduceNeg, Int.reduceToNat, Int.reduceEq, Int.reduceBEq, Int.reduceBNe, Nat.reduceBEq, beq_self_eq_true, bne_self_eq_false, Bool.not_true, Bool.not_false] | ((with_reducible refine useF (join_c z1 z2) ?_ ?_ ?_); (focus exact rfl); (focus exact rfl)) | ((with_reducible refine useN (hget) ?_ ?_ ?_); (focus exact rfl); (focus exact fun _ => rfl)) | with_reducible refine vcond_split (fun _ => ?_) (fun _ => ?_) | with_reducible refine vg_split (fun _ => ?_) (fun _ => ?_) | ((with_reducible apply DCalls.frz); (focus exact rfl); (focus exact rfl)) | ((with_reducible refine And.intro ?_ ?_); (focus (first | omega | decide | assumption | (simp only [decide_eq_true_eq, decide_eq_false_iff_not] at *; omega)))))); (try (first | exact rfl | omega)))))); (simp only [putF_some, putF_none]))))) | ((refine vc_drawn (id := 21) tabOK hmix [] [0,1,2,3,4,5,6,7,8,9,10,11,12,13,14,15,16,17] (by kernel_rfl) ?_); (repeat' (first | (refine ds_nil ?_) | ((refine ds_one ?_ rfl rfl ?_ ?_); (rotate_left 1); (focus ((repeat' (first | simp only [*, go_sem, Nat.reduceLT, Nat.reduceLeDiff, Nat.reduceEqDiff, ↓reduceIte, Nat.reduceAdd, Nat.reduceSub, Nat.reduceMul, Int.reduceLT, Int.reduceLE, Int.reduceAdd, Int.reduceSub, Int.reduceMul, Int.reduceNeg, Int.reduceToNat, Int.reduceEq, Int.reduceBEq, Int.reduceBNe, Nat.reduceBEq, beq_self_eq_true, bne_self_eq_false, Bool.not_true, Bool.not_false] | ((with_reducible refine useF (join_c z1 z2) ?_ ?_ ?_); (focus exact rfl); (focus exact rfl)) | ((with_reducible refine useN (hget) ?_ ?_ ?_); (focus exact rfl); (focus exact fun _ => rfl)) | with_reducible refine vcond_split (fun _ => ?_) (fun _ => ?_) | with_reducible refine vg_split (fun _ => ?_) (fun _ => ?_) | ((with_reducible apply DCalls.frz); (focus exact rfl); (focus exact rfl)) | ((with_reducible refine And.intro ?_ ?_); (focus (first | omega | decide | assumption | (simp only [decide_eq_true_eq, decide_eq_false_iff_not] at *; omega)))))); exact rfl)); (simp only [putF_some, putF_none]))))) | with_reducible refine vcond_split (fun _ => ?_) (fun _ => ?_) | with_reducible refine vg_split (fun _ => ?_) (fun _ => ?_) | ((with_reducible apply DCalls.frz); (focus exact rfl); (focus exact rfl)) | ((with_reducible refine And.intro ?_ ?_); (focus (first | omega | decide | assumption | (simp only [decide_eq_true_eq, decide_eq_false_iff_not] at *; omega)))))
        exact qr_n (j + 1) (by omega) (by omega) (weak_mk rfl rfl rfl (by simp [wk_cons, wk_nil, look_cons, closedD, closedC, renT, renD, renC, encT_nil, encS_nil, encC_nil]))
    · have h2 : decide ((j : Int) < (N.length : Int)) = false := decide_eq_false (by omega)
      have hjn : j = N.length := by omega
      subst hjn
      have hJ : i + 1 ≤ D.length ∧ ((D.take (i + 1)).map fun d => (namesF t d).length).sum = n + N.length := ⟨by omega, hnx⟩
      clear hnx hst hmem hsm
      repeat' (first | simp only [*, go_sem, Nat.reduceLT, Nat.reduceLeDiff, Nat.reduceEqDiff, ↓reduceIte, Nat.reduceAdd, Nat.reduceSub, Nat.reduceMul, Int.reduceLT, Int.reduceLE, Int.reduceAdd, Int.reduceSub, Int.reduceMul, Int.reduceNeg, Int.reduceToNat, Int.reduceEq, Int.reduceBEq, Int.reduceBNe, Nat.reduceBEq, beq_self_eq_true, bne_self_eq_false] | with_reducible refine vcond_split (fun _ => ?_) (fun _ => ?_) | with_reducible refine vg_split (fun _ => ?_) (fun _ => ?_) | ((with_reducible apply DCalls.frz); (focus exact rfl); (focus exact rfl)) | ((with_reducible refine And.intro ?_ ?_); (focus (first | omega | decide | assumption | (simp only [decide_eq_true_eq, decide_eq_false_iff_not] at *; omega)))))
      exact qr_n (i + 1, n + N.length) ⟨hJ.1, hJ.2.symm⟩ (by simp only; omega) (weak_mk rfl rfl rfl (by simp [wk_cons, wk_nil, look_cons, closedD, closedC, renT, renD, renC, encT_nil, encS_nil, encC_nil]))
  have h1 : decide ((i : Int) < (D.length : Int)) = false := decide_eq_false (by omega)
  rw [List.take_of_length_le (by omega), hall] at hn
  subst hn
  clear hall hi
  repeat' (first | simp only [*, go_sem, Nat.reduceLT, Nat.reduceLeDiff, Nat.reduceEqDiff, ↓reduceIte, Nat.reduceAdd, Nat.reduceSub, Nat.reduceMul, Int.reduceLT, Int.reduceLE, Int.reduceAdd, Int.reduceSub, Int.reduceMul, Int.reduceNeg, Int.reduceToNat, Int.reduceEq, Int.reduceBEq, Int.reduceBNe, Nat.reduceBEq, beq_self_eq_true, bne_self_eq_false] | ((with_reducible refine useF (Path_c) ?_ ?_ ?_); (focus exact rfl); (focus exact rfl)) | with_reducible refine vcond_split (fun _ => ?_) (fun _ => ?_) | with_reducible refine vg_split (fun _ => ?_) (fun _ => ?_) | ((with_reducible apply DCalls.frz); (focus exact rfl); (focus exact rfl)) | ((with_reducible refine And.intro ?_ ?_); (focus (first | omega | decide | assumption | (simp only [decide_eq_true_eq, decide_eq_false_iff_not] at *; omega)))))
  · rename_i q1 q2
    have hm : (0 : Int) < t.length := of_decide_eq_true q1
    refine useFE (C := fun k : Nat => (k : Int) < t.length) (e := fun k => .c (.p (.i .i64 k))) (pickE_c hm (by omega)) rfl (fun _ _ => rfl) fun k hk => ?_
    have hkt : k < t.length := by omega
    have hx : t[k]? = some t[k] := List.getElem?_eq_getElem hkt
    have hg := encT_at hx
    have hpl := ht.plen _ (List.getElem_mem hkt)
    generalize t[k] = x at hx hg hpl
    clear hx
    repeat' (first | simp only [*, go_sem, Nat.reduceLT, Nat.reduceLeDiff, Nat.reduceEqDiff, ↓reduceIte, Nat.reduceAdd, Nat.reduceSub, Nat.reduceMul, Int.reduceLT, Int.reduceLE, Int.reduceAdd, Int.reduceSub, Int.reduceMul, Int.reduceNeg, Int.reduceToNat, Int.reduceEq, Int.reduceBEq, Int.reduceBNe, Nat.reduceBEq, beq_self_eq_true, bne_self_eq_false] | with_reducible refine vcond_split (fun _ => ?_) (fun _ => ?_) | with_reducible refine vg_split (fun _ => ?_) (fun _ => ?_) | ((with_reducible apply DCalls.frz); (focus exact rfl); (focus exact rfl)) | ((with_reducible refine And.intro ?_ ?_); (focus (first | omega | decide | assumption | (simp only [decide_eq_true_eq, decide_eq_false_iff_not] at *; omega)))))
    have hrm := treeRemove_c (t := t) (p := x.p) (by omega) (by omega) (fun x hx => Nat.le_trans (ht.dlen x hx) (by decide))
    rw [removeR_filter] at hrm
    generalize x.p = p at *
    have hbw := fun (x : It) (hx : x ∈ t) => belowR_c (p := p) (q := x.p) (by omega) (by have := ht.plen x hx; omega)
    generalize hu0 : (t.filter fun x => !(x.p == p) && !belowR p x.p) = u at hrm
    repeat' (first | simp only [*, go_sem, Nat.reduceLT, Nat.reduceLeDiff, Nat.reduceEqDiff, ↓reduceIte, Nat.reduceAdd, Nat.reduceSub, Nat.reduceMul, Int.reduceLT, Int.reduceLE, Int.reduceAdd, Int.reduceSub, Int.reduceMul, Int.reduceNeg, Int.reduceToNat, Int.reduceEq, Int.reduceBEq, Int.reduceBNe, Nat.reduceBEq, beq_self_eq_true, bne_self_eq_false] | ((with_reducible refine useN (hrm) ?_ ?_ ?_); (focus exact rfl); (focus exact fun _ => rfl)) | with_reducible refine vcond_split (fun _ => ?_) (fun _ => ?_) | with_reducible refine vg_split (fun _ => ?_) (fun _ => ?_) | ((with_reducible apply DCalls.frz); (focus exact rfl); (focus exact rfl)) | ((with_reducible refine And.intro ?_ ?_); (focus (first | omega | decide | assumption | (simp only [decide_eq_true_eq, decide_eq_false_iff_not] at *; omega)))))
    clear hrm
    refine loop_ren tabOK hmix (α := Nat × Nat) (fun z => ⟨190, [(5, .c (.p (.sl 5 (encT t)))), (14, .c (.p (.s p))), (15, .c (.p (.sl 5 (encT u)))), (16, .c (.p (.i .i64 z.2))), (17, .c (.p (.i .i64 z.1)))], []⟩)
      (fun z => z.1 ≤ t.length ∧ ((t.take z.1).filter fun x => !(x.p == p) && !belowR p x.p).length = z.2) (fun z => t.length - z.1) (0, 0) ⟨Nat.zero_le _, rfl⟩ (.inl (weak_mk (by rw [hX]; rfl) rfl rfl (by simp [wk_cons, wk_nil, look_cons, closedD, closedC, encT_nil, encS_nil, encC_nil]))) ?_
    rintro ⟨i, k⟩ ⟨hi, hk⟩
    simp only at hi hk
    by_cases hlt : i < t.length
    · have hx : t[i]? = some t[i] := List.getElem?_eq_getElem hlt
      have hg := encT_at hx
      have h1 : decide ((i : Int) < (t.length : Int)) = true := decide_eq_true (by omega)
      have w1 : IntKind.i64.wrap ((i : Int) + 1) = i + 1 := wrap_i64 (by omega) (by omega)
      have hnx := filter_next (g := fun x => !(x.p == p) && !belowR p x.p) hx
      have hpl := fun h => filter_place (g := fun x => !(x.p == p) && !belowR p x.p) hx h
      have hb := hbw _ (List.getElem_mem hlt)
      rw [hk] at hpl
      have hkt : k ≤ t.length := by rw [← hk]; exact Nat.le_trans (List.length_filter_le ..) (by simp; omega)
      generalize t[i] = x at hx hg hnx hpl hb
      rw [hu0] at hpl
      have e1 := sameNd_refl x.n
      cases q1 : (x.p == p)
      · cases q2 : belowR p x.p
        · have hu := hpl (by rw [q1, q2]; rfl)
          have hgu := encT_at hu
          have hkl : (k : Int) < u.length := by have := (List.getElem?_eq_some_iff.1 hu).1; omega
          have hku : decide ((u.length : Int) ≤ k) = false := decide_eq_false (by omega)
          have w2 : IntKind.i64.wrap ((k : Int) + 1) = k + 1 := wrap_i64 (by omega) (by omega)
          have hJ : i + 1 ≤ t.length ∧ ((t.take (i + 1)).filter fun x => !(x.p == p) && !belowR p x.p).length = k + 1 := ⟨by omega, by rw [hnx, q1, q2, List.length_append, hk]; rfl⟩
          rw [q2] at hb
          clear hnx hpl hx hu hu0 hk hbw q2
          repeat' (first | simp only [*, go_sem, Nat.reduceLT, Nat.reduceLeDiff, Nat.reduceEqDiff, ↓reduceIte, Nat.reduceAdd, Nat.reduceSub, Nat.reduceMul, Int.reduceLT, Int.reduceLE, Int.reduceAdd, Int.reduceSub, Int.reduceMul, Int.reduceNeg, Int.reduceToNat, Int.reduceEq, Int.reduceBEq, Int.reduceBNe, Nat.reduceBEq, beq_self_eq_true, bne_self_eq_false, Bool.not_true, Bool.not_false] | ((with_reducible refine useF (hb) ?_ ?_ ?_); (focus exact rfl); (focus exact rfl)) | ((with_reducible refine useF (sameNode_c) ?_ ?_ ?_); (focus exact rfl); (focus exact rfl)) | ((refine vc_drawn (id := 35) tabOK hmix [] [0,1,2,3,4,5,6,7,8,9,10,11,12,13,14,15,16,17,18,19,20,21,22,23,24,25,26,27,28,29,30] (by kernel_rfl) ?_); (repeat' (first | (refine ds_nil ?_) | ((refine ds_one ?_ rfl rfl ?_ ?_); (rotate_left 1); (focus ((repeat' (first | simp only [*, go_sem, Nat.reduceLT, Nat.reduceLeDiff, Nat.reduceEqDiff, ↓reduceIte, Nat.reduceAdd, Nat.reduceSub, Nat.reduceMul, Int.reduceLT, Int.reduceLE, Int.reduceAdd, Int.reduceSub, Int.reduceMul, Int.reduceNeg, Int.reduceToNat, Int.reduceEq, Int.reduceBEq, Int.reduceBNe, Nat.reduceBEq, beq_self_eq_true, bne_self_eq_false, Bool.not_true, Bool.not_false] | ((with_reducible refine useF (hb) ?_ ?_ ?_); (focus exact rfl); (focus exact rfl)) | ((with_reducible refine useF (sameNode_c) ?_ ?_ ?_); (focus exact rfl); (focus exact rfl)) | with_reducible refine vcond_split (fun _ => ?_) (fun _ => ?_) | with_reducible refine vg_split (fun _ => ?_) (fun _ => ?_) | ((with_reducible apply DCalls.frz); (focus exact rfl); (focus exact rfl)) | ((with_reducible refine And.intro ?_ ?_); (focus (first | omega | decide | assumption | (simp only [decide_eq_true_eq, decide_eq_false_iff_not] at *; omega)))))); exact rfl)); (simp only [putF_some, putF_none]))))) | with_reducible refine vcond_split (fun _ => ?_) (fun _ => ?_) | with_reducible refine vg_split (fun _ => ?_) (fun _ => ?_) | ((with_reducible apply DCalls.frz); (focus exact rfl); (focus exact rfl)) | ((with_reducible refine And.intro ?_ ?_); (focus (first | omega | decide | assumption | (simp only [decide_eq_true_eq, decide_eq_false_iff_not] at *; omega)))))
          exact qr_n (i + 1, k + 1) hJ (by simp only; omega) (weak_mk rfl rfl rfl (by simp [wk_cons, wk_nil, look_cons, closedD, closedC, renT, renD, renC, encT_nil, encS_nil, encC_nil]))
        · have hJ : i + 1 ≤ t.length ∧ ((t.take (i + 1)).filter fun x => !(x.p == p) && !belowR p x.p).length = k := ⟨by omega, by rw [hnx, q1, q2, List.length_append, hk]; rfl⟩
          rw [q2] at hb
          clear hnx hpl hx hu0 hk hbw q2
          repeat' (first | simp only [*, go_sem, Nat.reduceLT, Nat.reduceLeDiff, Nat.reduceEqDiff, ↓reduceIte, Nat.reduceAdd, Nat.reduceSub, Nat.reduceMul, Int.reduceLT, Int.reduceLE, Int.reduceAdd, Int.reduceSub, Int.reduceMul, Int.reduceNeg, Int.reduceToNat, Int.reduceEq, Int.reduceBEq, Int.reduceBNe, Nat.reduceBEq, beq_self_eq_true, bne_self_eq_false, Bool.not_true, Bool.not_false] | ((with_reducible refine useF (hb) ?_ ?_ ?_); (focus exact rfl); (focus exact rfl)) | with_reducible refine vcond_split (fun _ => ?_) (fun _ => ?_) | with_reducible refine vg_split (fun _ => ?_) (fun _ => ?_) | ((with_reducible apply DCalls.frz); (focus exact rfl); (focus exact rfl)) | ((with_reducible refine And.intro ?_ ?_); (focus (first | omega | decide | assumption | (simp only [decide_eq_true_eq, decide_eq_false_iff_not] at *; omega)))))
          exact qr_n (i + 1, k) hJ (by simp only; omega) (weak_mk rfl rfl rfl (by simp [wk_cons, wk_nil, look_cons, closedD, closedC, renT, renD, renC, encT_nil, encS_nil, encC_nil]))
      · have hJ : i + 1 ≤ t.length ∧ ((t.take (i + 1)).filter fun x => !(x.p == p) && !belowR p x.p).length = k := ⟨by omega, by rw [hnx, q1, List.length_append, hk]; rfl⟩
        clear hnx hpl hx hu0 hk hbw
        repeat' (first | simp only [*, go_sem, Nat.reduceLT, Nat.reduceLeDiff, Nat.reduceEqDiff, ↓reduceIte, Nat.reduceAdd, Nat.reduceSub, Nat.reduceMul, Int.reduceLT, Int.reduceLE, Int.reduceAdd, Int.reduceSub, Int.reduceMul, Int.reduceNeg, Int.reduceToNat, Int.reduceEq, Int.reduceBEq, Int.reduceBNe, Nat.reduceBEq, beq_self_eq_true, bne_self_eq_false, Bool.not_true, Bool.not_false] | ((with_reducible refine useF (hb) ?_ ?_ ?_); (focus exact rfl); (focus exact rfl)) | with_reducible refine vcond_split (fun _ => ?_) (fun _ => ?_) | with_reducible refine vg_split (fun _ => ?_) (fun _ => ?_) | ((with_reducible apply DCalls.frz); (focus exact rfl); (focus exact rfl)) | ((with_reducible refine And.intro ?_ ?_); (focus (first | omega | decide | assumption | (simp only [decide_eq_true_eq, decide_eq_false_iff_not] at *; omega)))))
        exact qr_n (i + 1, k) hJ (by simp only; omega) (weak_mk rfl rfl rfl (by simp [wk_cons, wk_nil, look_cons, closedD, closedC, renT, renD, renC, encT_nil, encS_nil, encC_nil]))
    · have h1 : decide ((i : Int) < (t.length : Int)) = false := decide_eq_false (by omega)
      have htt : t.take i = t := List.take_of_length_le (by omega)
      rw [htt, hu0] at hk
      subst hk
      clear hu0 hbw htt
      repeat' (first | simp only [*, go_sem, Nat.reduceLT, Nat.reduceLeDiff, Nat.reduceEqDiff, ↓reduceIte, Nat.reduceAdd, Nat.reduceSub, Nat.reduceMul, Int.reduceLT, Int.reduceLE, Int.reduceAdd, Int.reduceSub, Int.reduceMul, Int.reduceNeg, Int.reduceToNat, Int.reduceEq, Int.reduceBEq, Int.reduceBNe, Nat.reduceBEq, beq_self_eq_true, bne_self_eq_false] | with_reducible refine vcond_split (fun _ => ?_) (fun _ => ?_) | with_reducible refine vg_split (fun _ => ?_) (fun _ => ?_) | ((with_reducible apply DCalls.frz); (focus exact rfl); (focus exact rfl)) | ((with_reducible refine And.intro ?_ ?_); (focus (first | omega | decide | assumption | (simp only [decide_eq_true_eq, decide_eq_false_iff_not] at *; omega)))))
  · have hpl := pathF_len ix
    have hrm := treeRemove_c (t := t) (p := pathF ix) (by omega) (by omega) (fun x hx => Nat.le_trans (ht.dlen x hx) (by decide))
    rw [removeR_filter] at hrm
    generalize pathF ix = p at *
    have hbw := fun (x : It) (hx : x ∈ t) => belowR_c (p := p) (q := x.p) (by omega) (by have := ht.plen x hx; omega)
    generalize hu0 : (t.filter fun x => !(x.p == p) && !belowR p x.p) = u at hrm
    repeat' (first | simp only [*, go_sem, Nat.reduceLT, Nat.reduceLeDiff, Nat.reduceEqDiff, ↓reduceIte, Nat.reduceAdd, Nat.reduceSub, Nat.reduceMul, Int.reduceLT, Int.reduceLE, Int.reduceAdd, Int.reduceSub, Int.reduceMul, Int.reduceNeg, Int.reduceToNat, Int.reduceEq, Int.reduceBEq, Int.reduceBNe, Nat.reduceBEq, beq_self_eq_true, bne_self_eq_false] | ((with_reducible refine useN (hrm) ?_ ?_ ?_); (focus exact rfl); (focus exact fun _ => rfl)) | with_reducible refine vcond_split (fun _ => ?_) (fun _ => ?_) | with_reducible refine vg_split (fun _ => ?_) (fun _ => ?_) | ((with_reducible apply DCalls.frz); (focus exact rfl); (focus exact rfl)) | ((with_reducible refine And.intro ?_ ?_); (focus (first | omega | decide | assumption | (simp only [decide_eq_true_eq, decide_eq_false_iff_not] at *; omega)))))
    clear hrm
    refine loop_ren tabOK hmix (α := Nat × Nat) (fun z => ⟨190, [(5, .c (.p (.sl 5 (encT t)))), (14, .c (.p (.s p))), (15, .c (.p (.sl 5 (encT u)))), (16, .c (.p (.i .i64 z.2))), (17, .c (.p (.i .i64 z.1)))], []⟩)
      (fun z => z.1 ≤ t.length ∧ ((t.take z.1).filter fun x => !(x.p == p) && !belowR p x.p).length = z.2) (fun z => t.length - z.1) (0, 0) ⟨Nat.zero_le _, rfl⟩ (.inl (weak_mk (by rw [hX]; rfl) rfl rfl (by simp [wk_cons, wk_nil, look_cons, closedD, closedC, encT_nil, encS_nil, encC_nil]))) ?_
    rintro ⟨i, k⟩ ⟨hi, hk⟩
    simp only at hi hk
    by_cases hlt : i < t.length
    · have hx : t[i]? = some t[i] := List.getElem?_eq_getElem hlt
      have hg := encT_at hx
      have h1 : decide ((i : Int) < (t.length : Int)) = true := decide_eq_true (by omega)
      have w1 : IntKind.i64.wrap ((i : Int) + 1) = i + 1 := wrap_i64 (by omega) (by omega)
      have hnx := filter_next (g := fun x => !(x.p == p) && !belowR p x.p) hx
      have hpl := fun h => filter_place (g := fun x => !(x.p == p) && !belowR p x.p) hx h
      have hb := hbw _ (List.getElem_mem hlt)
      rw [hk] at hpl
      have hkt : k ≤ t.length := by rw [← hk]; exact Nat.le_trans (List.length_filter_le ..) (by simp; omega)
      generalize t[i] = x at hx hg hnx hpl hb
      rw [hu0] at hpl
      have e1 := sameNd_refl x.n
      cases q1 : (x.p == p)
      · cases q2 : belowR p x.p
        · have hu := hpl (by rw [q1, q2]; rfl)
          have hgu := encT_at hu
          have hkl : (k : Int) < u.length := by have := (List.getElem?_eq_some_iff.1 hu).1; omega
          have hku : decide ((u.length : Int) ≤ k) = false := decide_eq_false (by omega)
          have w2 : IntKind.i64.wrap ((k : Int) + 1) = k + 1 := wrap_i64 (by omega) (by omega)
          have hJ : i + 1 ≤ t.length ∧ ((t.take (i + 1)).filter fun x => !(x.p == p) && !belowR p x.p).length = k + 1 := ⟨by omega, by rw [hnx, q1, q2, List.length_append, hk]; rfl⟩
          rw [q2] at hb
          clear hnx hpl hx hu hu0 hk hbw q2
          repeat' (first | simp only [*, go_sem, Nat.reduceLT, Nat.reduceLeDiff, Nat.reduceEqDiff, ↓reduceIte, Nat.reduceAdd, Nat.reduceSub, Nat.reduceMul, Int.reduceLT, Int.reduceLE, Int.reduceAdd, Int.reduceSub, Int.reduceMul, Int.reduceNeg, Int.reduceToNat, Int.reduceEq, Int.reduceBEq, Int.reduceBNe, Nat.reduceBEq, beq_self_eq_true, bne_self_eq_false, Bool.not_true, Bool.not_false] | ((with_reducible refine useF (hb) ?_ ?_ ?_); (focus exact rfl); (focus exact rfl)) | ((with_reducible refine useF (sameNode_c) ?_ ?_ ?_); (focus exact rfl); (focus exact rfl)) | ((refine vc_drawn (id := 35) tabOK hmix [] [0,1,2,3,4,5,6,7,8,9,10,11,12,13,14,15,16,17,18,19,20,21,22,23,24,25,26,27,28,29,30] (by kernel_rfl) ?_); (repeat' (first | (refine ds_nil ?_) | ((refine ds_one ?_ rfl rfl ?_ ?_); (rotate_left 1); (focus ((repeat' (first | simp only [*, go_sem, Nat.reduceLT, Nat.reduceLeDiff, Nat.reduceEqDiff, ↓reduceIte, Nat.reduceAdd, Nat.reduceSub, Nat.reduceMul, Int.reduceLT, Int.reduceLE, Int.reduceAdd, Int.reduceSub, Int.reduceMul, Int.reduceNeg, Int.reduceToNat, Int.reduceEq, Int.reduceBEq, Int.reduceBNe, Nat.reduceBEq, beq_self_eq_true, bne_self_eq_false, Bool.not_true, Bool.not_false] | ((with_reducible refine useF (hb) ?_ ?_ ?_); (focus exact rfl); (focus exact rfl)) | ((with_reducible refine useF (sameNode_c) ?_ ?_ ?_); (focus exact rfl); (focus exact rfl)) | with_reducible refine vcond_split (fun _ => ?_) (fun _ => ?_) | with_reducible refine vg_split (fun _ => ?_) (fun _ => ?_) | ((with_reducible apply DCalls.frz); (focus exact rfl); (focus exact rfl)) | ((with_reducible refine And.intro ?_ ?_); (focus (first | omega | decide | assumption | (simp only [decide_eq_true_eq, decide_eq_false_iff_not] at *; omega)))))); exact rfl)); (simp only [putF_some, putF_none]))))) | with_reducible refine vcond_split (fun _ => ?_) (fun _ => ?_) | with_reducible refine vg_split (fun _ => ?_) (fun _ => ?_) | ((with_reducible apply DCalls.frz); (focus exact rfl); (focus exact rfl)) | ((with_reducible refine And.intro ?_ ?_); (focus (first | omega | decide | assumption | (simp only [decide_eq_true_eq, decide_eq_false_iff_not] at *; omega)))))
          exact qr_n (i + 1, k + 1) hJ (by simp only; omega) (weak_mk rfl rfl rfl (by simp [wk_cons, wk_nil, look_cons, closedD, closedC, renT, renD, renC, encT_nil, encS_nil, encC_nil]))
        · have hJ : i + 1 ≤ t.length ∧ ((t.take (i + 1)).filter fun x => !(x.p == p) && !belowR p x.p).length = k := ⟨by omega, by rw [hnx, q1, q2, List.length_append, hk]; rfl⟩
          rw [q2] at hb
          clear hnx hpl hx hu0 hk hbw q2
          repeat' (first | simp only [*, go_sem, Nat.reduceLT, Nat.reduceLeDiff, Nat.reduceEqDiff, ↓reduceIte, Nat.reduceAdd, Nat.reduceSub, Nat.reduceMul, Int.reduceLT, Int.reduceLE, Int.reduceAdd, Int.reduceSub, Int.reduceMul, Int.reduceNeg, Int.reduceToNat, Int.reduceEq, Int.reduceBEq, Int.reduceBNe, Nat.reduceBEq, beq_self_eq_true, bne_self_eq_false, Bool.not_true, Bool.not_false] | ((with_reducible refine useF (hb) ?_ ?_ ?_); (focus exact rfl); (focus exact rfl)) | with_reducible refine vcond_split (fun _ => ?_) (fun _ => ?_) | with_reducible refine vg_split (fun _ => ?_) (fun _ => ?_) | ((with_reducible apply DCalls.frz); (focus exact rfl); (focus exact rfl)) | ((with_reducible refine And.intro ?_ ?_); (focus (first | omega | decide | assumption | (simp only [decide_eq_true_eq, decide_eq_false_iff_not] at *; omega)))))
          exact qr_n (i + 1, k) hJ (by simp only; omega) (weak_mk rfl rfl rfl (by simp [wk_cons, wk_nil, look_cons, closedD, closedC, renT, renD, renC, encT_nil, encS_nil, encC_nil]))
      · have hJ : i + 1 ≤ t.length ∧ ((t.take (i + 1)).filter fun x => !(x.p == p) && !belowR p x.p).length = k := ⟨by omega, by rw [hnx, q1, List.length_append, hk]; rfl⟩
        clear hnx hpl hx hu0 hk hbw
        repeat' (first | simp only [*, go_sem, Nat.reduceLT, Nat.reduceLeDiff, Nat.reduceEqDiff, ↓reduceIte, Nat.reduceAdd, Nat.reduceSub, Nat.reduceMul, Int.reduceLT, Int.reduceLE, Int.reduceAdd, Int.reduceSub, Int.reduceMul, Int.reduceNeg, Int.reduceToNat, Int.reduceEq, Int.reduceBEq, Int.reduceBNe, Nat.reduceBEq, beq_self_eq_true, bne_self_eq_false, Bool.not_true, Bool.not_false] | ((with_reducible refine useF (hb) ?_ ?_ ?_); (focus exact rfl); (focus exact rfl)) | with_reducible refine vcond_split (fun _ => ?_) (fun _ => ?_) | with_reducible refine vg_split (fun _ => ?_) (fun _ => ?_) | ((with_reducible apply DCalls.frz); (focus exact rfl); (focus exact rfl)) | ((with_reducible refine And.intro ?_ ?_); (focus (first | omega | decide | assumption | (simp only [decide_eq_true_eq, decide_eq_false_iff_not] at *; omega)))))
        exact qr_n (i + 1, k) hJ (by simp only; omega) (weak_mk rfl rfl rfl (by simp [wk_cons, wk_nil, look_cons, closedD, closedC, renT, renD, renC, encT_nil, encS_nil, encC_nil]))
    · have h1 : decide ((i : Int) < (t.length : Int)) = false := decide_eq_false (by omega)
      have htt : t.take i = t := List.take_of_length_le (by omega)
      rw [htt, hu0] at hk
      subst hk
      clear hu0 hbw htt
      repeat' (first | simp only [*, go_sem, Nat.reduceLT, Nat.reduceLeDiff, Nat.reduceEqDiff, ↓reduceIte, Nat.reduceAdd, Nat.reduceSub, Nat.reduceMul, Int.reduceLT, Int.reduceLE, Int.reduceAdd, Int.reduceSub, Int.reduceMul, Int.reduceNeg, Int.reduceToNat, Int.reduceEq, Int.reduceBEq, Int.reduceBNe, Nat.reduceBEq, beq_self_eq_true, bne_self_eq_false] | with_reducible refine vcond_split (fun _ => ?_) (fun _ => ?_) | with_reducible refine vg_split (fun _ => ?_) (fun _ => ?_) | ((with_reducible apply DCalls.frz); (focus exact rfl); (focus exact rfl)) | ((with_reducible refine And.intro ?_ ?_); (focus (first | omega | decide | assumption | (simp only [decide_eq_true_eq, decide_eq_false_iff_not] at *; omega)))))
  · have hpl := pathF_len ix
    have hrm := treeRemove_c (t := t) (p := pathF ix) (by omega) (by omega) (fun x hx => Nat.le_trans (ht.dlen x hx) (by decide))
    rw [removeR_filter] at hrm
    generalize pathF ix = p at *
    have hbw := fun (x : It) (hx : x ∈ t) => belowR_c (p := p) (q := x.p) (by omega) (by have := ht.plen x hx; omega)
    generalize hu0 : (t.filter fun x => !(x.p == p) && !belowR p x.p) = u at hrm
    repeat' (first | simp only [*, go_sem, Nat.reduceLT, Nat.reduceLeDiff, Nat.reduceEqDiff, ↓reduceIte, Nat.reduceAdd, Nat.reduceSub, Nat.reduceMul, Int.reduceLT, Int.reduceLE, Int.reduceAdd, Int.reduceSub, Int.reduceMul, Int.reduceNeg, Int.reduceToNat, Int.reduceEq, Int.reduceBEq, Int.reduceBNe, Nat.reduceBEq, beq_self_eq_true, bne_self_eq_false] | ((with_reducible refine useN (hrm) ?_ ?_ ?_); (focus exact rfl); (focus exact fun _ => rfl)) | with_reducible refine vcond_split (fun _ => ?_) (fun _ => ?_) | with_reducible refine vg_split (fun _ => ?_) (fun _ => ?_) | ((with_reducible apply DCalls.frz); (focus exact rfl); (focus exact rfl)) | ((with_reducible refine And.intro ?_ ?_); (focus (first | omega | decide | assumption | (simp only [decide_eq_true_eq, decide_eq_false_iff_not] at *; omega)))))
    clear hrm
    refine loop_ren tabOK hmix (α := Nat × Nat) (fun z => ⟨190, [(5, .c (.p (.sl 5 (encT t)))), (14, .c (.p (.s p))), (15, .c (.p (.sl 5 (encT u)))), (16, .c (.p (.i .i64 z.2))), (17, .c (.p (.i .i64 z.1)))], []⟩)
      (fun z => z.1 ≤ t.length ∧ ((t.take z.1).filter fun x => !(x.p == p) && !belowR p x.p).length = z.2) (fun z => t.length - z.1) (0, 0) ⟨Nat.zero_le _, rfl⟩ (.inl (weak_mk (by rw [hX]; rfl) rfl rfl (by simp [wk_cons, wk_nil, look_cons, closedD, closedC, encT_nil, encS_nil, encC_nil]))) ?_
    rintro ⟨i, k⟩ ⟨hi, hk⟩
    simp only at hi hk
    by_cases hlt : i < t.length
    · have hx : t[i]? = some t[i] := List.getElem?_eq_getElem hlt
      have hg := encT_at hx
      have h1 : decide ((i : Int) < (t.length : Int)) = true := decide_eq_true (by omega)
      have w1 : IntKind.i64.wrap ((i : Int) + 1) = i + 1 := wrap_i64 (by omega) (by omega)
      have hnx := filter_next (g := fun x => !(x.p == p) && !belowR p x.p) hx
      have hpl := fun h => filter_place (g := fun x => !(x.p == p) && !belowR p x.p) hx h
      have hb := hbw _ (List.getElem_mem hlt)
      rw [hk] at hpl
      have hkt : k ≤ t.length := by rw [← hk]; exact Nat.le_trans (List.length_filter_le ..) (by simp; omega)
      generalize t[i] = x at hx hg hnx hpl hb
      rw [hu0] at hpl
      have e1 := sameNd_refl x.n
      cases q1 : (x.p == p)
      · cases q2 : belowR p x.p
        · have hu := hpl (by rw [q1, q2]; rfl)
          have hgu := encT_at hu
          have hkl : (k : Int) < u.length := by have := (List.getElem?_eq_some_iff.1 hu).1; omega
          have hku : decide ((u.length : Int) ≤ k) = false := decide_eq_false (by omega)
          have w2 : IntKind.i64.wrap ((k : Int) + 1) = k + 1 := wrap_i64 (by omega) (by omega)
          have hJ : i + 1 ≤ t.length ∧ ((t.take (i + 1)).filter fun x => !(x.p == p) && !belowR p x.p).length = k + 1 := ⟨by omega, by rw [hnx, q1, q2, List.length_append, hk]; rfl⟩
          rw [q2] at hb
          clear hnx hpl hx hu hu0 hk hbw q2
          repeat' (first | simp only [*, go_sem, Nat.reduceLT, Nat.reduceLeDiff, Nat.reduceEqDiff, ↓reduceIte, Nat.reduceAdd, Nat.reduceSub, Nat.reduceMul, Int.reduceLT, Int.reduceLE, Int.reduceAdd, Int.reduceSub, Int.reduceMul, Int.reduceNeg, Int.reduceToNat, Int.reduceEq, Int.reduceBEq, Int.reduceBNe, Nat.reduceBEq, beq_self_eq_true, bne_self_eq_false, Bool.not_true, Bool.not_false] | ((with_reducible refine useF (hb) ?_ ?_ ?_); (focus exact rfl); (focus exact rfl)) | ((with_reducible refine useF (sameNode_c) ?_ ?_ ?_); (focus exact rfl); (focus exact rfl)) | ((refine vc_drawn (id := 35) tabOK hmix [] [0,1,2,3,4,5,6,7,8,9,10,11,12,13,14,15,16,17,18,19,20,21,22,23,24,25,26,27,28,29,30] (by kernel_rfl) ?_); (repeat' (first | (refine ds_nil ?_) | ((refine ds_one ?_ rfl rfl ?_ ?_); (rotate_left 1); (focus ((repeat' (first | simp only [*, go_sem, Nat.reduceLT, Nat.reduceLeDiff, Nat.reduceEqDiff, ↓reduceIte, Nat.reduceAdd, Nat.reduceSub, Nat.reduceMul, Int.reduceLT, Int.reduceLE, Int.reduceAdd, Int.reduceSub, Int.reduceMul, Int.reduceNeg, Int.reduceToNat, Int.reduceEq, Int.reduceBEq, Int.reduceBNe, Nat.reduceBEq, beq_self_eq_true, bne_self_eq_false, Bool.not_true, Bool.not_false] | ((with_reducible refine useF (hb) ?_ ?_ ?_); (focus exact rfl); (focus exact rfl)) | ((with_reducible refine useF (sameNode_c) ?_ ?_ ?_); (focus exact rfl); (focus exact rfl)) | with_reducible refine vcond_split (fun _ => ?_) (fun _ => ?_) | with_reducible refine vg_split (fun _ => ?_) (fun _ => ?_) | ((with_reducible apply DCalls.frz); (focus exact rfl); (focus exact rfl)) | ((with_reducible refine And.intro ?_ ?_); (focus (first | omega | decide | assumption | (simp only [decide_eq_true_eq, decide_eq_false_iff_not] at *; omega)))))); exact rfl)); (simp only [putF_some, putF_none]))))) | with_reducible refine vcond_split (fun _ => ?_) (fun _ => ?_) | with_reducible refine vg_split (fun _ => ?_) (fun _ => ?_) | ((with_reducible apply DCalls.frz); (focus exact rfl); (focus exact rfl)) | ((with_reducible refine And.intro ?_ ?_); (focus (first | omega | decide | assumption | (simp only [decide_eq_true_eq, decide_eq_false_iff_not] at *; omega)))))
          exact qr_n (i + 1, k + 1) hJ (by simp only; omega) (weak_mk rfl rfl rfl (by simp [wk_cons, wk_nil, look_cons, closedD, closedC, renT, renD, renC, encT_nil, encS_nil, encC_nil]))
        · have hJ : i + 1 ≤ t.length ∧ ((t.take (i + 1)).filter fun x => !(x.p == p) && !belowR p x.p).length = k := ⟨by omega, by rw [hnx, q1, q2, List.length_append, hk]; rfl⟩
          rw [q2] at hb
          clear hnx hpl hx hu0 hk hbw q2
          repeat' (first | simp only [*, go_sem, Nat.reduceLT, Nat.reduceLeDiff, Nat.reduceEqDiff, ↓reduceIte, Nat.reduceAdd, Nat.reduceSub, Nat.reduceMul, Int.reduceLT, Int.reduceLE, Int.reduceAdd, Int.reduceSub, Int.reduceMul, Int.reduceNeg, Int.reduceToNat, Int.reduceEq, Int.reduceBEq, Int.reduceBNe, Nat.reduceBEq, beq_self_eq_true, bne_self_eq_false, Bool.not_true, Bool.not_false] | ((with_reducible refine useF (hb) ?_ ?_ ?_); (focus exact rfl); (focus exact rfl)) | with_reducible refine vcond_split (fun _ => ?_) (fun _ => ?_) | with_reducible refine vg_split (fun _ => ?_) (fun _ => ?_) | ((with_reducible apply DCalls.frz); (focus exact rfl); (focus exact rfl)) | ((with_reducible refine And.intro ?_ ?_); (focus (first | omega | decide | assumption | (simp only [decide_eq_true_eq, decide_eq_false_iff_not] at *; omega)))))
          exact qr_n (i + 1, k) hJ (by simp only; omega) (weak_mk rfl rfl rfl (by simp [wk_cons, wk_nil, look_cons, closedD, closedC, renT, renD, renC, encT_nil, encS_nil, encC_nil]))
      · have hJ : i + 1 ≤ t.length ∧ ((t.take (i + 1)).filter fun x => !(x.p == p) && !belowR p x.p).length = k := ⟨by omega, by rw [hnx, q1, List.length_append, hk]; rfl⟩
        clear hnx hpl hx hu0 hk hbw
        repeat' (first | simp only [*, go_sem, Nat.reduceLT, Nat.reduceLeDiff, Nat.reduceEqDiff, ↓reduceIte, Nat.reduceAdd, Nat.reduceSub, Nat.reduceMul, Int.reduceLT, Int.reduceLE, Int.reduceAdd, Int.reduceSub, Int.reduceMul, Int.reduceNeg, Int.reduceToNat, Int.reduceEq, Int.reduceBEq, Int.reduceBNe, Nat.reduceBEq, beq_self_eq_true, bne_self_eq_false, Bool.not_true, Bool.not_false] | ((with_reducible refine useF (hb) ?_ ?_ ?_); (focus exact rfl); (focus exact rfl)) | with_reducible refine vcond_split (fun _ => ?_) (fun _ => ?_) | with_reducible refine vg_split (fun _ => ?_) (fun _ => ?_) | ((with_reducible apply DCalls.frz); (focus exact rfl); (focus exact rfl)) | ((with_reducible refine And.intro ?_ ?_); (focus (first | omega | decide | assumption | (simp only [decide_eq_true_eq, decide_eq_false_iff_not] at *; omega)))))
        exact qr_n (i + 1, k) hJ (by simp only; omega) (weak_mk rfl rfl rfl (by simp [wk_cons, wk_nil, look_cons, closedD, closedC, renT, renD, renC, encT_nil, encS_nil, encC_nil]))
    · have h1 : decide ((i : Int) < (t.length : Int)) = false := decide_eq_false (by omega)
      have htt : t.take i = t := List.take_of_length_le (by omega)
      rw [htt, hu0] at hk
      subst hk
      clear hu0 hbw htt
      repeat' (first | simp only [*, go_sem, Nat.reduceLT, Nat.reduceLeDiff, Nat.reduceEqDiff, ↓reduceIte, Nat.reduceAdd, Nat.reduceSub, Nat.reduceMul, Int.reduceLT, Int.reduceLE, Int.reduceAdd, Int.reduceSub, Int.reduceMul, Int.reduceNeg, Int.reduceToNat, Int.reduceEq, Int.reduceBEq, Int.reduceBNe, Nat.reduceBEq, beq_self_eq_true, bne_self_eq_false] | with_reducible refine vcond_split (fun _ => ?_) (fun _ => ?_) | with_reducible refine vg_split (fun _ => ?_) (fun _ => ?_) | ((with_reducible apply DCalls.frz); (focus exact rfl); (focus exact rfl)) | ((with_reducible refine And.intro ?_ ?_); (focus (first | omega | decide | assumption | (simp only [decide_eq_true_eq, decide_eq_false_iff_not] at *; omega)))))

end Go.Proofs.YtomaddpcacoodaaGreatDoor
