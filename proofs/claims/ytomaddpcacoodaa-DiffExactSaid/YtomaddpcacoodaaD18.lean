/-
  The law of a diff's exactness, walked.
-/
import Derived.Test.YtomaddpcacoodaaD16
import Derived.Test.YtomaddpcacoodaaD17
set_option linter.unusedSimpArgs false
set_option linter.unusedVariables false
namespace Go.Proofs.Ytomaddpcacoodaa
open Go Go.Dm
set_option maxRecDepth 100000
set_option maxHeartbeats 4000000

theorem diffExact_c {l : List RI} {ts : List RU} (hl : l.length ≤ 9223372036854775807) (hd : ∀ x ∈ l, x.n.d.length ≤ 9223372036854775807) (hdx : ∀ x ∈ l, x.n.x < 18446744073709551616)
    (hl2 : ts.length ≤ 9223372036854775807) (hd2 : ∀ x ∈ ts, x.n.d.length ≤ 9223372036854775807) (hdx2 : ∀ x ∈ ts, x.n.x < 18446744073709551616) :
    DCalls Try.prog 6 [.c (.p (.sl 6 (Go.Dm.encI l))), .c (.p (.sl 8 (Go.Dm.encU ts)))] [] fun r h => r = .c (.p (.b true)) ∧ h = [] := by
  refine ent tabOK hmix Try.func6 rfl rfl fun X0 hX => ?_
  simp only [Try.ntmps6, Try.f6, go_sem]
  repeat' (first | simp only [*, go_sem, Nat.reduceLT, Nat.reduceLeDiff, Nat.reduceEqDiff, ↓reduceIte, Nat.reduceAdd, Nat.reduceSub, Nat.reduceMul, Int.reduceLT, Int.reduceLE, Int.reduceAdd, Int.reduceSub, Int.reduceMul, Int.reduceNeg, Int.reduceToNat, Int.reduceEq, Int.reduceBEq, Int.reduceBNe, Nat.reduceBEq, beq_self_eq_true, bne_self_eq_false] | with_reducible refine vcond_split (fun _ => ?_) (fun _ => ?_) | with_reducible refine vg_split (fun _ => ?_) (fun _ => ?_) | ((with_reducible apply DCalls.frz); (focus exact rfl); (focus exact rfl)) | ((with_reducible refine And.intro ?_ ?_); (focus (first | omega | decide | assumption | (simp only [decide_eq_true_eq, decide_eq_false_iff_not] at *; omega)))))
  refine useNE (C := OkT) (e := fun t => .c (.p (.sl 5 (encT t)))) (tree_c hl hd hdx) rfl (fun _ _ _ => rfl) fun a ha => ?_
  repeat' (first | simp only [*, go_sem, Nat.reduceLT, Nat.reduceLeDiff, Nat.reduceEqDiff, ↓reduceIte, Nat.reduceAdd, Nat.reduceSub, Nat.reduceMul, Int.reduceLT, Int.reduceLE, Int.reduceAdd, Int.reduceSub, Int.reduceMul, Int.reduceNeg, Int.reduceToNat, Int.reduceEq, Int.reduceBEq, Int.reduceBNe, Nat.reduceBEq, beq_self_eq_true, bne_self_eq_false] | with_reducible refine vcond_split (fun _ => ?_) (fun _ => ?_) | with_reducible refine vg_split (fun _ => ?_) (fun _ => ?_) | ((with_reducible apply DCalls.frz); (focus exact rfl); (focus exact rfl)) | ((with_reducible refine And.intro ?_ ?_); (focus (first | omega | decide | assumption | (simp only [decide_eq_true_eq, decide_eq_false_iff_not] at *; omega)))))
  refine useNE (C := OkT) (e := fun t => .c (.p (.sl 5 (encT t)))) (turned_c ha hl2 hd2 hdx2) rfl (fun _ _ _ => rfl) fun b hb => ?_
  have hal := ha.len
  have hbl := hb.len
  have hself := diff_c ha ha
  rw [diffF_self ha] at hself
  have hab := diff_c ha hb
  have hba := diff_c hb ha
  have hcl := diffF_len a b
  have hcl2 := diffF_len b a
  have dl : ∀ {s t : List It} (_ : OkT s) (_ : OkT t), ∀ x ∈ diffF s t, x.o.d.length ≤ 140737488355328 ∧ x.n.d.length ≤ 140737488355328 := fun hs ht x hx => by
    obtain ⟨h1, h2⟩ := diffF_nodes hx
    rw [h1, h2]
    exact ⟨Nat.le_trans (hs.getd _) (by decide), Nat.le_trans (ht.getd _) (by decide)⟩
  have hbk1 := back_c (l := diffF a b) (by omega) (dl ha hb)
  rw [diffF_back ha hb] at hbk1
  have hbk2 := back_c (l := diffF b a) (by omega) (dl hb ha)
  rw [diffF_back hb ha] at hbk2
  have hs1 := diffSame_c (a := diffF b a) (b := diffF b a) (by omega) (by omega)
  rw [sameCs_refl fun x hx => diffF_wf hb ha hx] at hs1
  have hs2 := diffSame_c (a := diffF a b) (b := diffF a b) (by omega) (by omega)
  rw [sameCs_refl fun x hx => diffF_wf ha hb hx] at hs2
  have hnd := fun x => @diffF_nodes a b x
  have htd := fun p => @told_iff a b ha hb p
  have hina := fun x => @getR_has x a
  have hinb := fun x => @getR_has x b
  generalize diffF a b = cs at *
  generalize diffF b a = cs2 at *
  clear dl
  repeat' (first | simp only [*, go_sem, Nat.reduceLT, Nat.reduceLeDiff, Nat.reduceEqDiff, ↓reduceIte, Nat.reduceAdd, Nat.reduceSub, Nat.reduceMul, Int.reduceLT, Int.reduceLE, Int.reduceAdd, Int.reduceSub, Int.reduceMul, Int.reduceNeg, Int.reduceToNat, Int.reduceEq, Int.reduceBEq, Int.reduceBNe, Nat.reduceBEq, beq_self_eq_true, bne_self_eq_false] | ((with_reducible refine useN (hab) ?_ ?_ ?_); (focus exact rfl); (focus exact fun _ => rfl)) | ((with_reducible refine useN (hba) ?_ ?_ ?_); (focus exact rfl); (focus exact fun _ => rfl)) | ((with_reducible refine useN (hself) ?_ ?_ ?_); (focus exact rfl); (focus exact fun _ => rfl)) | ((with_reducible refine useN (hbk1) ?_ ?_ ?_); (focus exact rfl); (focus exact fun _ => rfl)) | ((with_reducible refine useN (hbk2) ?_ ?_ ?_); (focus exact rfl); (focus exact fun _ => rfl)) | ((with_reducible refine useF (hs1) ?_ ?_ ?_); (focus exact rfl); (focus exact rfl)) | ((with_reducible refine useF (hs2) ?_ ?_ ?_); (focus exact rfl); (focus exact rfl)) | ((with_reducible refine useF (known17_c) ?_ ?_ ?_); (focus exact rfl); (focus exact rfl)) | with_reducible refine vcond_split (fun _ => ?_) (fun _ => ?_) | with_reducible refine vg_split (fun _ => ?_) (fun _ => ?_) | ((with_reducible apply DCalls.frz); (focus exact rfl); (focus exact rfl)) | ((with_reducible refine And.intro ?_ ?_); (focus (first | omega | decide | assumption | (simp only [decide_eq_true_eq, decide_eq_false_iff_not] at *; omega)))))
  clear hab hba hself hbk1 hbk2 hs1 hs2
  refine loop_ren tabOK hmix (α := Nat) (fun i => ⟨136, [(5, .c (.p (.sl 5 (encT a)))), (6, .c (.p (.sl 5 (encT b)))), (7, .c (.p (.sl 10 (encC cs)))), (8, .c (.p (.i .i64 i)))], []⟩)
    (fun i => i ≤ a.length + b.length) (fun i => a.length + b.length - i) 0 (Nat.zero_le _) (.inl (weak_mk (by rw [hX]; rfl) rfl rfl (by simp [wk_cons, wk_nil, look_cons, closedD, closedC, encT_nil, encS_nil, encC_nil]))) ?_
  intro i hi
  have wl : IntKind.i64.wrap ((a.length : Int) + b.length) = (a.length : Int) + b.length := wrap_i64 (by omega) (by omega)
  by_cases hlt : i < a.length + b.length
  · have h1 : decide ((i : Int) < (a.length : Int) + b.length) = true := decide_eq_true (by omega)
    have w1 : IntKind.i64.wrap ((i : Int) + 1) = i + 1 := wrap_i64 (by omega) (by omega)
    obtain ⟨p, n, hp, hcase⟩ : ∃ (p : List UInt8) (n : Nd), ((getR a p).isSome = true ∨ (getR b p).isSome = true) ∧
        ((i < a.length ∧ (encT a).getD i [] = [.s p, .i .i64 n.k, .i .i64 n.m, .f n.t, .sl 1 (encB n.d)]) ∨
          (¬ i < a.length ∧ (encT b).getD (i - a.length) [] = [.s p, .i .i64 n.k, .i .i64 n.m, .f n.t, .sl 1 (encB n.d)])) := by
      by_cases h : i < a.length
      · exact ⟨a[i].p, a[i].n, .inl (hina _ (List.getElem_mem h)), .inl ⟨h, encT_at (List.getElem?_eq_getElem h)⟩⟩
      · have h2 : i - a.length < b.length := by omega
        exact ⟨b[i - a.length].p, b[i - a.length].n, .inr (hinb _ (List.getElem_mem h2)), .inr ⟨h, encT_at (List.getElem?_eq_getElem h2)⟩⟩
    have g1 := getR_c (t := a) (p := p) (by omega)
    have g2 := getR_c (t := b) (p := p) (by omega)
    have htp := htd p hp
    have hnp : ∀ z ∈ cs, (z.p == p) = true → z.o = (getR a p).getD nd0 ∧ z.n = (getR b p).getD nd0 := fun z hz he => by
      have := hnd z hz
      rw [eq_of_beq he] at this; exact this
    clear hnd htd hina hinb hp
    generalize (getR a p).getD nd0 = x at g1 htp hnp
    generalize (getR a p).isSome = u at g1 htp
    generalize (getR b p).getD nd0 = y at g2 htp hnp
    generalize (getR b p).isSome = v at g2 htp
    have e1 := sameNd_refl x
    have e2 := sameNd_refl y
    rcases hcase with ⟨c1, hg⟩ | ⟨c1, hg⟩
    · have c2 : decide ((i : Int) < (a.length : Int)) = true := decide_eq_true (by omega)
      have c3 : (i : Int) < a.length := by omega
      repeat' (first | simp only [*, go_sem, Nat.reduceLT, Nat.reduceLeDiff, Nat.reduceEqDiff, ↓reduceIte, Nat.reduceAdd, Nat.reduceSub, Nat.reduceMul, Int.reduceLT, Int.reduceLE, Int.reduceAdd, Int.reduceSub, Int.reduceMul, Int.reduceNeg, Int.reduceToNat, Int.reduceEq, Int.reduceBEq, Int.reduceBNe, Nat.reduceBEq, beq_self_eq_true, bne_self_eq_false] | ((with_reducible refine useN (g1) ?_ ?_ ?_); (focus exact rfl); (focus exact fun _ => rfl)) | ((with_reducible refine useN (g2) ?_ ?_ ?_); (focus exact rfl); (focus exact fun _ => rfl)) | with_reducible refine vcond_split (fun _ => ?_) (fun _ => ?_) | with_reducible refine vg_split (fun _ => ?_) (fun _ => ?_) | ((with_reducible apply DCalls.frz); (focus exact rfl); (focus exact rfl)) | ((with_reducible refine And.intro ?_ ?_); (focus (first | omega | decide | assumption | (simp only [decide_eq_true_eq, decide_eq_false_iff_not] at *; omega)))))
      refine loop_ren tabOK hmix (α := Nat × Bool) (fun k => ⟨136, [(5, .c (.p (.sl 5 (encT a)))), (6, .c (.p (.sl 5 (encT b)))), (7, .c (.p (.sl 10 (encC cs)))), (8, .c (.p (.i .i64 i))), (9, .c (.p (.s p))), (10, .c (.ptr 0 0)), (11, .c (.p (.b u))), (12, .c (.ptr 1 0)), (13, .c (.p (.b v))), (14, .c (.p (.b k.2))), (15, .c (.p (.i .i64 k.1)))], [.box (ndc x.k x.m x.t x.d), .box (ndc y.k y.m y.t y.d)]⟩)
        (fun k => k.1 ≤ cs.length ∧ k.2 = (cs.take k.1).any fun z => z.p == p) (fun k => cs.length - k.1) (0, false) ⟨Nat.zero_le _, rfl⟩ (.inl (weak_mk (by rw [hX]; rfl) rfl rfl (by simp [wk_cons, wk_nil, look_cons, closedD, closedC, encT_nil, encS_nil, encC_nil]))) ?_
      rintro ⟨k, told⟩ ⟨hk, ht⟩
      simp only at hk ht
      by_cases hkl : k < cs.length
      · have hz : cs[k]? = some cs[k] := List.getElem?_eq_getElem hkl
        have hg2 := encC_at hz
        have h2 : decide ((k : Int) < (cs.length : Int)) = true := decide_eq_true (by omega)
        have w2 : IntKind.i64.wrap ((k : Int) + 1) = k + 1 := wrap_i64 (by omega) (by omega)
        have hzz := hnp _ (List.getElem_mem hkl)
        have htk : ((cs.take (k + 1)).any fun z => z.p == p) = (told || (cs[k].p == p)) := by
          rw [List.take_add_one, hz, List.any_append, ht]
          simp only [Option.toList_some, List.any_cons, List.any_nil, Bool.or_false]
        generalize cs[k] = z at hz hg2 hzz htk
        cases hq : (z.p == p)
        · rw [hq, Bool.or_false] at htk
          clear hzz ht htp hnp
          repeat' (first | simp only [*, go_sem, Nat.reduceLT, Nat.reduceLeDiff, Nat.reduceEqDiff, ↓reduceIte, Nat.reduceAdd, Nat.reduceSub, Nat.reduceMul, Int.reduceLT, Int.reduceLE, Int.reduceAdd, Int.reduceSub, Int.reduceMul, Int.reduceNeg, Int.reduceToNat, Int.reduceEq, Int.reduceBEq, Int.reduceBNe, Nat.reduceBEq, beq_self_eq_true, bne_self_eq_false] | with_reducible refine vcond_split (fun _ => ?_) (fun _ => ?_) | with_reducible refine vg_split (fun _ => ?_) (fun _ => ?_) | ((with_reducible apply DCalls.frz); (focus exact rfl); (focus exact rfl)) | ((with_reducible refine And.intro ?_ ?_); (focus (first | omega | decide | assumption | (simp only [decide_eq_true_eq, decide_eq_false_iff_not] at *; omega)))))
          exact qr_n (k + 1, told) ⟨by simp only; omega, htk.symm⟩ (by simp only; omega) (weak_mk rfl rfl rfl (by simp [wk_cons, wk_nil, look_cons, closedD, closedC, renT, renD, renC, encT_nil, encS_nil, encC_nil]))
        · rw [hq, Bool.or_true] at htk
          obtain ⟨q1, q2⟩ := hzz hq
          rw [q1, q2] at hg2
          clear ht htp hnp hzz q1 q2
          cases u <;> cases v
          all_goals repeat' (first | simp only [*, go_sem, Nat.reduceLT, Nat.reduceLeDiff, Nat.reduceEqDiff, ↓reduceIte, Nat.reduceAdd, Nat.reduceSub, Nat.reduceMul, Int.reduceLT, Int.reduceLE, Int.reduceAdd, Int.reduceSub, Int.reduceMul, Int.reduceNeg, Int.reduceToNat, Int.reduceEq, Int.reduceBEq, Int.reduceBNe, Nat.reduceBEq, beq_self_eq_true, bne_self_eq_false, Bool.not_true, Bool.not_false] | ((with_reducible refine useF (sameNode_c) ?_ ?_ ?_); (focus exact rfl); (focus exact rfl)) | ((refine vc_drawn (id := 21) tabOK hmix [] [0,1,2,3,4,5,6,7,8,9,10,11,12,13,14,15,16,17,18,19,20,21,22,23] (by kernel_rfl) ?_); (repeat' (first | (refine ds_nil ?_) | ((refine ds_one ?_ rfl rfl ?_ ?_); (rotate_left 1); (focus ((repeat' (first | simp only [*, go_sem, Nat.reduceLT, Nat.reduceLeDiff, Nat.reduceEqDiff, ↓reduceIte, Nat.reduceAdd, Nat.reduceSub, Nat.reduceMul, Int.reduceLT, Int.reduceLE, Int.reduceAdd, Int.reduceSub, Int.reduceMul, Int.reduceNeg, Int.reduceToNat, Int.reduceEq, Int.reduceBEq, Int.reduceBNe, Nat.reduceBEq, beq_self_eq_true, bne_self_eq_false, Bool.not_true, Bool.not_false] | ((with_reducible refine useF (sameNode_c) ?_ ?_ ?_); (focus exact rfl); (focus exact rfl)) | with_reducible refine vcond_split (fun _ => ?_) (fun _ => ?_) | with_reducible refine vg_split (fun _ => ?_) (fun _ => ?_) | ((with_reducible apply DCalls.frz); (focus exact rfl); (focus exact rfl)) | ((with_reducible refine And.intro ?_ ?_); (focus (first | omega | decide | assumption | (simp only [decide_eq_true_eq, decide_eq_false_iff_not] at *; omega)))))); exact rfl)); (simp only [putF_some, putF_none]))))) | with_reducible refine vcond_split (fun _ => ?_) (fun _ => ?_) | with_reducible refine vg_split (fun _ => ?_) (fun _ => ?_) | ((with_reducible apply DCalls.frz); (focus exact rfl); (focus exact rfl)) | ((with_reducible refine And.intro ?_ ?_); (focus (first | omega | decide | assumption | (simp only [decide_eq_true_eq, decide_eq_false_iff_not] at *; omega)))))
          all_goals exact qr_n (k + 1, true) ⟨by simp only; omega, htk.symm⟩ (by simp only; omega) (weak_mk rfl rfl rfl (by simp [wk_cons, wk_nil, look_cons, closedD, closedC, renT, renD, renC, encT_nil, encS_nil, encC_nil]))
      · have h2 : decide ((k : Int) < (cs.length : Int)) = false := decide_eq_false (by omega)
        rw [List.take_of_length_le (by omega), htp] at ht
        subst ht
        clear htp hnp
        have b1 : (false == true) = false := rfl
        have b2 : (true == false) = false := rfl
        cases u <;> cases v
        all_goals repeat' (first | simp only [*, go_sem, Nat.reduceLT, Nat.reduceLeDiff, Nat.reduceEqDiff, ↓reduceIte, Nat.reduceAdd, Nat.reduceSub, Nat.reduceMul, Int.reduceLT, Int.reduceLE, Int.reduceAdd, Int.reduceSub, Int.reduceMul, Int.reduceNeg, Int.reduceToNat, Int.reduceEq, Int.reduceBEq, Int.reduceBNe, Nat.reduceBEq, beq_self_eq_true, bne_self_eq_false, Bool.not_true, Bool.not_false, Bool.true_or, Bool.false_or] | ((with_reducible refine useF (sameNode_c) ?_ ?_ ?_); (focus exact rfl); (focus exact rfl)) | with_reducible refine vcond_split (fun _ => ?_) (fun _ => ?_) | with_reducible refine vg_split (fun _ => ?_) (fun _ => ?_) | ((with_reducible apply DCalls.frz); (focus exact rfl); (focus exact rfl)) | ((with_reducible refine And.intro ?_ ?_); (focus (first | omega | decide | assumption | (simp only [decide_eq_true_eq, decide_eq_false_iff_not] at *; omega)))))
        all_goals first | exact qr_n (i + 1) (by omega) (by omega) (weak_mk rfl rfl rfl (by simp [wk_cons, wk_nil, look_cons, closedD, closedC, renT, renD, renC, encT_nil, encS_nil, encC_nil])) | (rename_i z1; revert z1; cases sameNd x y <;> simp; done) | (rename_i z1 z2; revert z1 z2; cases sameNd x y <;> simp; done) | (rename_i z1 z2 z3; revert z1 z2 z3; cases sameNd x y <;> simp; done) | trace_state
    · have c2 : decide ((i : Int) < (a.length : Int)) = false := decide_eq_false (by omega)
      have c3 : IntKind.i64.wrap ((i : Int) - a.length) = ((i - a.length : Nat) : Int) := by rw [wrap_i64 (by omega) (by omega)]; omega
      have c4 : ((i - a.length : Nat) : Int) < b.length := by omega
      repeat' (first | simp only [*, go_sem, Nat.reduceLT, Nat.reduceLeDiff, Nat.reduceEqDiff, ↓reduceIte, Nat.reduceAdd, Nat.reduceSub, Nat.reduceMul, Int.reduceLT, Int.reduceLE, Int.reduceAdd, Int.reduceSub, Int.reduceMul, Int.reduceNeg, Int.reduceToNat, Int.reduceEq, Int.reduceBEq, Int.reduceBNe, Nat.reduceBEq, beq_self_eq_true, bne_self_eq_false] | ((with_reducible refine useN (g1) ?_ ?_ ?_); (focus exact rfl); (focus exact fun _ => rfl)) | ((with_reducible refine useN (g2) ?_ ?_ ?_); (focus exact rfl); (focus exact fun _ => rfl)) | with_reducible refine vcond_split (fun _ => ?_) (fun _ => ?_) | with_reducible refine vg_split (fun _ => ?_) (fun _ => ?_) | ((with_reducible apply DCalls.frz); (focus exact rfl); (focus exact rfl)) | ((with_reducible refine And.intro ?_ ?_); (focus (first | omega | decide | assumption | (simp only [decide_eq_true_eq, decide_eq_false_iff_not] at *; omega)))))
      refine loop_ren tabOK hmix (α := Nat × Bool) (fun k => ⟨136, [(5, .c (.p (.sl 5 (encT a)))), (6, .c (.p (.sl 5 (encT b)))), (7, .c (.p (.sl 10 (encC cs)))), (8, .c (.p (.i .i64 i))), (9, .c (.p (.s p))), (10, .c (.ptr 0 0)), (11, .c (.p (.b u))), (12, .c (.ptr 1 0)), (13, .c (.p (.b v))), (14, .c (.p (.b k.2))), (15, .c (.p (.i .i64 k.1)))], [.box (ndc x.k x.m x.t x.d), .box (ndc y.k y.m y.t y.d)]⟩)
        (fun k => k.1 ≤ cs.length ∧ k.2 = (cs.take k.1).any fun z => z.p == p) (fun k => cs.length - k.1) (0, false) ⟨Nat.zero_le _, rfl⟩ (.inl (weak_mk (by rw [hX]; rfl) rfl rfl (by simp [wk_cons, wk_nil, look_cons, closedD, closedC, encT_nil, encS_nil, encC_nil]))) ?_
      rintro ⟨k, told⟩ ⟨hk, ht⟩
      simp only at hk ht
      by_cases hkl : k < cs.length
      · have hz : cs[k]? = some cs[k] := List.getElem?_eq_getElem hkl
        have hg2 := encC_at hz
        have h2 : decide ((k : Int) < (cs.length : Int)) = true := decide_eq_true (by omega)
        have w2 : IntKind.i64.wrap ((k : Int) + 1) = k + 1 := wrap_i64 (by omega) (by omega)
        have hzz := hnp _ (List.getElem_mem hkl)
        have htk : ((cs.take (k + 1)).any fun z => z.p == p) = (told || (cs[k].p == p)) := by
          rw [List.take_add_one, hz, List.any_append, ht]
          simp only [Option.toList_some, List.any_cons, List.any_nil, Bool.or_false]
        generalize cs[k] = z at hz hg2 hzz htk
        cases hq : (z.p == p)
        · rw [hq, Bool.or_false] at htk
          clear hzz ht htp hnp
          repeat' (first | simp only [*, go_sem, Nat.reduceLT, Nat.reduceLeDiff, Nat.reduceEqDiff, ↓reduceIte, Nat.reduceAdd, Nat.reduceSub, Nat.reduceMul, Int.reduceLT, Int.reduceLE, Int.reduceAdd, Int.reduceSub, Int.reduceMul, Int.reduceNeg, Int.reduceToNat, Int.reduceEq, Int.reduceBEq, Int.reduceBNe, Nat.reduceBEq, beq_self_eq_true, bne_self_eq_false] | with_reducible refine vcond_split (fun _ => ?_) (fun _ => ?_) | with_reducible refine vg_split (fun _ => ?_) (fun _ => ?_) | ((with_reducible apply DCalls.frz); (focus exact rfl); (focus exact rfl)) | ((with_reducible refine And.intro ?_ ?_); (focus (first | omega | decide | assumption | (simp only [decide_eq_true_eq, decide_eq_false_iff_not] at *; omega)))))
          exact qr_n (k + 1, told) ⟨by simp only; omega, htk.symm⟩ (by simp only; omega) (weak_mk rfl rfl rfl (by simp [wk_cons, wk_nil, look_cons, closedD, closedC, renT, renD, renC, encT_nil, encS_nil, encC_nil]))
        · rw [hq, Bool.or_true] at htk
          obtain ⟨q1, q2⟩ := hzz hq
          rw [q1, q2] at hg2
          clear ht htp hnp hzz q1 q2
          cases u <;> cases v
          all_goals repeat' (first | simp only [*, go_sem, Nat.reduceLT, Nat.reduceLeDiff, Nat.reduceEqDiff, ↓reduceIte, Nat.reduceAdd, Nat.reduceSub, Nat.reduceMul, Int.reduceLT, Int.reduceLE, Int.reduceAdd, Int.reduceSub, Int.reduceMul, Int.reduceNeg, Int.reduceToNat, Int.reduceEq, Int.reduceBEq, Int.reduceBNe, Nat.reduceBEq, beq_self_eq_true, bne_self_eq_false, Bool.not_true, Bool.not_false] | ((with_reducible refine useF (sameNode_c) ?_ ?_ ?_); (focus exact rfl); (focus exact rfl)) | ((refine vc_drawn (id := 21) tabOK hmix [] [0,1,2,3,4,5,6,7,8,9,10,11,12,13,14,15,16,17,18,19,20,21,22,23] (by kernel_rfl) ?_); (repeat' (first | (refine ds_nil ?_) | ((refine ds_one ?_ rfl rfl ?_ ?_); (rotate_left 1); (focus ((repeat' (first | simp only [*, go_sem, Nat.reduceLT, Nat.reduceLeDiff, Nat.reduceEqDiff, ↓reduceIte, Nat.reduceAdd, Nat.reduceSub, Nat.reduceMul, Int.reduceLT, Int.reduceLE, Int.reduceAdd, Int.reduceSub, Int.reduceMul, Int.reduceNeg, Int.reduceToNat, Int.reduceEq, Int.reduceBEq, Int.reduceBNe, Nat.reduceBEq, beq_self_eq_true, bne_self_eq_false, Bool.not_true, Bool.not_false] | ((with_reducible refine useF (sameNode_c) ?_ ?_ ?_); (focus exact rfl); (focus exact rfl)) | with_reducible refine vcond_split (fun _ => ?_) (fun _ => ?_) | with_reducible refine vg_split (fun _ => ?_) (fun _ => ?_) | ((with_reducible apply DCalls.frz); (focus exact rfl); (focus exact rfl)) | ((with_reducible refine And.intro ?_ ?_); (focus (first | omega | decide | assumption | (simp only [decide_eq_true_eq, decide_eq_false_iff_not] at *; omega)))))); exact rfl)); (simp only [putF_some, putF_none]))))) | with_reducible refine vcond_split (fun _ => ?_) (fun _ => ?_) | with_reducible refine vg_split (fun _ => ?_) (fun _ => ?_) | ((with_reducible apply DCalls.frz); (focus exact rfl); (focus exact rfl)) | ((with_reducible refine And.intro ?_ ?_); (focus (first | omega | decide | assumption | (simp only [decide_eq_true_eq, decide_eq_false_iff_not] at *; omega)))))
          all_goals exact qr_n (k + 1, true) ⟨by simp only; omega, htk.symm⟩ (by simp only; omega) (weak_mk rfl rfl rfl (by simp [wk_cons, wk_nil, look_cons, closedD, closedC, renT, renD, renC, encT_nil, encS_nil, encC_nil]))
      · have h2 : decide ((k : Int) < (cs.length : Int)) = false := decide_eq_false (by omega)
        rw [List.take_of_length_le (by omega), htp] at ht
        subst ht
        clear htp hnp
        have b1 : (false == true) = false := rfl
        have b2 : (true == false) = false := rfl
        cases u <;> cases v
        all_goals repeat' (first | simp only [*, go_sem, Nat.reduceLT, Nat.reduceLeDiff, Nat.reduceEqDiff, ↓reduceIte, Nat.reduceAdd, Nat.reduceSub, Nat.reduceMul, Int.reduceLT, Int.reduceLE, Int.reduceAdd, Int.reduceSub, Int.reduceMul, Int.reduceNeg, Int.reduceToNat, Int.reduceEq, Int.reduceBEq, Int.reduceBNe, Nat.reduceBEq, beq_self_eq_true, bne_self_eq_false, Bool.not_true, Bool.not_false, Bool.true_or, Bool.false_or] | ((with_reducible refine useF (sameNode_c) ?_ ?_ ?_); (focus exact rfl); (focus exact rfl)) | with_reducible refine vcond_split (fun _ => ?_) (fun _ => ?_) | with_reducible refine vg_split (fun _ => ?_) (fun _ => ?_) | ((with_reducible apply DCalls.frz); (focus exact rfl); (focus exact rfl)) | ((with_reducible refine And.intro ?_ ?_); (focus (first | omega | decide | assumption | (simp only [decide_eq_true_eq, decide_eq_false_iff_not] at *; omega)))))
        all_goals first | exact qr_n (i + 1) (by omega) (by omega) (weak_mk rfl rfl rfl (by simp [wk_cons, wk_nil, look_cons, closedD, closedC, renT, renD, renC, encT_nil, encS_nil, encC_nil])) | (rename_i z1; revert z1; cases sameNd x y <;> simp; done) | (rename_i z1 z2; revert z1 z2; cases sameNd x y <;> simp; done) | (rename_i z1 z2 z3; revert z1 z2 z3; cases sameNd x y <;> simp; done) | trace_state
  · have h1 : decide ((i : Int) < (a.length : Int) + b.length) = false := decide_eq_false (by omega)
    repeat' (first | simp only [*, go_sem, Nat.reduceLT, Nat.reduceLeDiff, Nat.reduceEqDiff, ↓reduceIte, Nat.reduceAdd, Nat.reduceSub, Nat.reduceMul, Int.reduceLT, Int.reduceLE, Int.reduceAdd, Int.reduceSub, Int.reduceMul, Int.reduceNeg, Int.reduceToNat, Int.reduceEq, Int.reduceBEq, Int.reduceBNe, Nat.reduceBEq, beq_self_eq_true, bne_self_eq_false] | with_reducible refine vcond_split (fun _ => ?_) (fun _ => ?_) | with_reducible refine vg_split (fun _ => ?_) (fun _ => ?_) | ((with_reducible apply DCalls.frz); (focus exact rfl); (focus exact rfl)) | ((with_reducible refine And.intro ?_ ?_); (focus (first | omega | decide | assumption | (simp only [decide_eq_true_eq, decide_eq_false_iff_not] at *; omega)))))

end Go.Proofs.Ytomaddpcacoodaa
