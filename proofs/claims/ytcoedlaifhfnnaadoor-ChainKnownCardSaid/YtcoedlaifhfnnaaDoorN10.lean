/-
  Contracts of the program's layers: a layer over a tree.
-/
import Derived.Test.YtcoedlaifhfnnaaDoorN8
import Derived.Test.YtcoedlaifhfnnaaDoorG0
import Derived.Test.YtcoedlaifhfnnaaDoorN0
set_option linter.unusedSimpArgs false
set_option linter.unusedVariables false
namespace Go.Proofs.YtcoedlaifhfnnaaDoor
open Go Go.Dm Go.Proofs
set_option maxRecDepth 100000
set_option maxHeartbeats 8000000

theorem ov2_c {q : List UInt8} {k m : Int} {tt : Nat} {d p : List UInt8} : DCalls Tryd.prog 49 [.agg [.p (.s q), .p (.i .i64 k), .p (.i .i64 m), .p (.f tt), .p (.sl 1 (encB d))], .c (.p (.s p))] [] fun r h => r = .c (.p (.i .i64 (cmpS q p))) ∧ h = [] := by
  refine ent tabOK hmix Tryd.func49 rfl rfl fun X0 hX => ?_
  simp only [Tryd.ntmps49, Tryd.f49, go_sem]
  repeat' (first | simp (maxSteps := 1000000) only [*, go_sem, Nat.reduceLT, Nat.reduceLeDiff, Nat.reduceEqDiff, ↓reduceIte, Nat.reduceAdd, Nat.reduceSub, Nat.reduceMul, Int.reduceLT, Int.reduceLE, Int.reduceAdd, Int.reduceSub, Int.reduceMul, Int.reduceNeg, Int.reduceToNat, Int.reduceEq, Int.reduceBEq, Int.reduceBNe, Nat.reduceBEq, beq_self_eq_true, bne_self_eq_false] | ((with_reducible refine useF (strCmp_c) ?_ ?_ ?_); (focus exact rfl); (focus exact rfl)) | with_reducible refine vcond_split (fun _ => ?_) (fun _ => ?_) | with_reducible refine vg_split (fun _ => ?_) (fun _ => ?_) | ((with_reducible apply DCalls.frz); (focus exact rfl); (focus exact rfl)) | ((with_reducible refine And.intro ?_ ?_); (focus (first | omega | decide | assumption | (simp only [decide_eq_true_eq, decide_eq_false_iff_not] at *; omega)))))

theorem bsearchV_c {t : List It} {p : List UInt8} (ht : t.length ≤ 1000000) (hs : Srt t) :
    DCalls Tryd.prog 48 [.c (.p (.sl 5 (encT t))), .c (.p (.s p)), .c (.clo 49 [])] [] fun r h =>
      ∃ i : Nat, FindC t p i ∧ r = findE t p i ∧ h = [] := by
  have hmon : ∀ (k k' : Nat) (x x' : It), t[k]? = some x → t[k']? = some x' → k < k' → bltL x.p x'.p = true := fun k k' x x' h1 h2 h3 => by
    obtain ⟨h4, rfl⟩ := List.getElem?_eq_some_iff.1 h1
    obtain ⟨h5, rfl⟩ := List.getElem?_eq_some_iff.1 h2
    exact List.pairwise_iff_getElem.1 hs _ _ h4 h5 h3
  refine ent tabOK hmix Tryd.func48 rfl rfl fun X0 hX => ?_
  simp only [Tryd.ntmps48, Tryd.f48, go_sem]
  repeat' (first | simp (maxSteps := 1000000) only [*, go_sem, Nat.reduceLT, Nat.reduceLeDiff, Nat.reduceEqDiff, ↓reduceIte, Nat.reduceAdd, Nat.reduceSub, Nat.reduceMul, Int.reduceLT, Int.reduceLE, Int.reduceAdd, Int.reduceSub, Int.reduceMul, Int.reduceNeg, Int.reduceToNat, Int.reduceEq, Int.reduceBEq, Int.reduceBNe, Nat.reduceBEq, beq_self_eq_true, bne_self_eq_false] | with_reducible refine vcond_split (fun _ => ?_) (fun _ => ?_) | with_reducible refine vg_split (fun _ => ?_) (fun _ => ?_) | ((with_reducible apply DCalls.frz); (focus exact rfl); (focus exact rfl)) | ((with_reducible refine And.intro ?_ ?_); (focus (first | omega | decide | assumption | (simp only [decide_eq_true_eq, decide_eq_false_iff_not] at *; omega)))))
  refine loop_ren tabOK hmix (α := Nat × Nat) (fun x => ⟨49, [(0, .c (.p (.sl 5 (encT t)))), (1, .c (.p (.s p))), (2, .c (.clo 49 [])), (8, .c (.p (.i .i64 t.length))), (9, .c (.p (.i .i64 x.1))), (10, .c (.p (.i .i64 x.2)))], []⟩)
    (fun x => x.1 ≤ x.2 ∧ x.2 ≤ t.length ∧ ∀ k y, t[k]? = some y → (k < x.1 → bltL y.p p = true) ∧ (x.2 ≤ k → bltL y.p p = false)) (fun x => x.2 - x.1) (0, t.length) ⟨Nat.zero_le _, Nat.le_refl _, fun k y hy => ⟨fun h => by omega, fun h => by rw [List.getElem?_eq_none h] at hy; cases hy⟩⟩ (.inl (weak_mk (by rw [hX]; rfl) rfl rfl (by simp [wk_cons, wk_nil, look_cons, closedD, closedC, encT_nil, encS_nil, encC_nil]))) ?_
  rintro ⟨i, j⟩ ⟨hij, hj, hl⟩
  simp only at hij hj hl
  by_cases hlt : i < j
  · have h1 : decide ((i : Int) < (j : Int)) = true := decide_eq_true (by omega)
    have w1 : IntKind.i64.wrap ((i : Int) + j) = (i : Int) + j := wrap_i64 (by omega) (by omega)
    have w2 : IntKind.u64.wrap ((i : Int) + j) = (i : Int) + j := wrap_u64 (by omega) (by omega)
    obtain ⟨m, hm, hmi, hmj⟩ : ∃ m : Nat, ((i : Int) + j).fdiv (2 ^ min 1 64) = (m : Int) ∧ i ≤ m ∧ m < j :=
      ⟨(i + j) / 2, by rw [show (2 : Int) ^ min 1 64 = 2 from rfl, Int.fdiv_eq_ediv_of_nonneg _ (by decide)]; omega, by omega, by omega⟩
    have w3 : IntKind.i64.wrap (m : Int) = m := wrap_i64 (by omega) (by omega)
    have w4 : IntKind.i64.wrap ((m : Int) + 1) = m + 1 := wrap_i64 (by omega) (by omega)
    have hml : m < t.length := by omega
    have hx : t[m]? = some t[m] := List.getElem?_eq_getElem hml
    have hg := encT_at hx
    generalize t[m] = x at hx hg
    repeat' (first | simp (maxSteps := 1000000) only [*, go_sem, Nat.reduceLT, Nat.reduceLeDiff, Nat.reduceEqDiff, ↓reduceIte, Nat.reduceAdd, Nat.reduceSub, Nat.reduceMul, Int.reduceLT, Int.reduceLE, Int.reduceAdd, Int.reduceSub, Int.reduceMul, Int.reduceNeg, Int.reduceToNat, Int.reduceEq, Int.reduceBEq, Int.reduceBNe, Nat.reduceBEq, beq_self_eq_true, bne_self_eq_false] | ((with_reducible refine useF (ov2_c) ?_ ?_ ?_); (focus exact rfl); (focus exact rfl)) | with_reducible refine vcond_split (fun _ => ?_) (fun _ => ?_) | with_reducible refine vg_split (fun _ => ?_) (fun _ => ?_) | ((with_reducible apply DCalls.frz); (focus exact rfl); (focus exact rfl)) | ((with_reducible refine And.intro ?_ ?_); (focus (first | omega | decide | assumption | (simp only [decide_eq_true_eq, decide_eq_false_iff_not] at *; omega)))))
    · rename_i hb
      have hb : bltL x.p p = true := by rw [← cmpS_lt]; exact hb
      exact qr_n (m + 1, j) ⟨by simp only; omega, hj, fun k y hy => ⟨fun hk => by
        rcases Nat.lt_or_ge k m with h | h
        · exact blt_trans (hmon _ _ _ _ hy hx h) hb
        · have : k = m := by simp only at hk; omega
          subst this; rw [hx] at hy; cases hy; exact hb, (hl k y hy).2⟩⟩ (by simp only; omega) (weak_mk rfl rfl rfl (by simp [wk_cons, wk_nil, look_cons, closedD, closedC, renT, renD, renC, encT_nil, encS_nil, encC_nil]))
    · rename_i hb
      have hb : bltL x.p p = false := by rw [← cmpS_lt]; exact hb
      exact qr_n (i, m) ⟨hmi, by simp only; omega, fun k y hy => ⟨(hl k y hy).1, fun hk => by
        rcases Nat.lt_or_ge m k with h | h
        · cases hc : bltL y.p p
          · rfl
          · have := blt_trans (hmon _ _ _ _ hx hy h) hc
            rw [hb] at this; cases this
        · have : k = m := by simp only at hk; omega
          subst this; rw [hx] at hy; cases hy; exact hb⟩⟩ (by simp only; omega) (weak_mk rfl rfl rfl (by simp [wk_cons, wk_nil, look_cons, closedD, closedC, renT, renD, renC, encT_nil, encS_nil, encC_nil]))
  · have h1 : decide ((i : Int) < (j : Int)) = false := decide_eq_false (by omega)
    have : i = j := by omega
    subst this
    by_cases hil : i < t.length
    · have hx : t[i]? = some t[i] := List.getElem?_eq_getElem hil
      have hg := encT_at hx
      have h2 : decide ((i : Int) < (t.length : Int)) = true := decide_eq_true (by omega)
      generalize t[i] = x at hx hg
      repeat' (first | simp (maxSteps := 1000000) only [*, go_sem, Nat.reduceLT, Nat.reduceLeDiff, Nat.reduceEqDiff, ↓reduceIte, Nat.reduceAdd, Nat.reduceSub, Nat.reduceMul, Int.reduceLT, Int.reduceLE, Int.reduceAdd, Int.reduceSub, Int.reduceMul, Int.reduceNeg, Int.reduceToNat, Int.reduceEq, Int.reduceBEq, Int.reduceBNe, Nat.reduceBEq, beq_self_eq_true, bne_self_eq_false] | ((with_reducible refine useF (ov2_c) ?_ ?_ ?_); (focus exact rfl); (focus exact rfl)) | with_reducible refine vcond_split (fun _ => ?_) (fun _ => ?_) | with_reducible refine vg_split (fun _ => ?_) (fun _ => ?_) | ((with_reducible apply DCalls.frz); (focus exact rfl); (focus exact rfl)) | ((with_reducible refine And.intro ?_ ?_); (focus (first | omega | decide | assumption | (simp only [decide_eq_true_eq, decide_eq_false_iff_not] at *; omega)))))
      refine ⟨i, ⟨hj, hl⟩, ?_⟩
      simp only [findE, foundF, hx, cmpS_eq]
    · have h2 : decide ((i : Int) < (t.length : Int)) = false := decide_eq_false (by omega)
      repeat' (first | simp (maxSteps := 1000000) only [*, go_sem, Nat.reduceLT, Nat.reduceLeDiff, Nat.reduceEqDiff, ↓reduceIte, Nat.reduceAdd, Nat.reduceSub, Nat.reduceMul, Int.reduceLT, Int.reduceLE, Int.reduceAdd, Int.reduceSub, Int.reduceMul, Int.reduceNeg, Int.reduceToNat, Int.reduceEq, Int.reduceBEq, Int.reduceBNe, Nat.reduceBEq, beq_self_eq_true, bne_self_eq_false] | ((with_reducible refine useF (ov2_c) ?_ ?_ ?_); (focus exact rfl); (focus exact rfl)) | with_reducible refine vcond_split (fun _ => ?_) (fun _ => ?_) | with_reducible refine vg_split (fun _ => ?_) (fun _ => ?_) | ((with_reducible apply DCalls.frz); (focus exact rfl); (focus exact rfl)) | ((with_reducible refine And.intro ?_ ?_); (focus (first | omega | decide | assumption | (simp only [decide_eq_true_eq, decide_eq_false_iff_not] at *; omega)))))
      refine ⟨i, ⟨hj, hl⟩, ?_⟩
      simp only [findE, foundF, List.getElem?_eq_none (Nat.le_of_not_lt hil)]


theorem bsearchO_k {h : DHeap} {i n : Nat} {es : List (List PV)} {t : List It} {p : List UInt8} {K : DV → DHeap → Prop} (h0 : h[i]? = some (.arr 5 es false)) (hes : es.take n = encT t) (ht : t.length ≤ 1000000) (hs : Srt t) (hk : ∀ j, FindC t p j → K (findE t p j) h) :
    DCalls Tryd.prog 48 [.c (.own i 0 n), .c (.p (.s p)), .c (.clo 49 [])] h K :=
  useO3 (R := fun d => ∃ j, FindC t p j ∧ d = findE t p j) rfl rfl hes (DCalls.mono (bsearchV_c ht hs) fun d h' ⟨j, a, b, c⟩ => ⟨⟨j, a, b⟩, c⟩) h0 (fun d ⟨j, h1, h2⟩ => by subst h2; exact ⟨rfl, hk j h1⟩)
theorem isDirO_k {h : DHeap} {i n : Nat} {es : List (List PV)} {t : List It} {p : List UInt8} {K : DV → DHeap → Prop} (h0 : h[i]? = some (.arr 5 es false)) (hes : es.take n = encT t) (ht : t.length ≤ 1000000) (hs : Srt t) (hk : K (.c (.p (.b (isDirR t p)))) h) :
    DCalls Tryd.prog 45 [.c (.own i 0 n), .c (.p (.s p))] h K :=
  useO2 rfl hes (treeIsDir_c ht hs) h0 (fun d h1 => by subst h1; exact ⟨rfl, hk⟩)
theorem rightO_k {h : DHeap} {i n : Nat} {es : List (List PV)} {t : List It} {K : DV → DHeap → Prop} (h0 : h[i]? = some (.arr 5 es false)) (hes : es.take n = encT t) (hl : t.length ≤ 1000000) (hp : ∀ x ∈ t, x.p.length ≤ 1000000000) (ht : ∀ x ∈ t, x.n.t < 18446744073709551616) (hk : K (.c (.p (.b (rightT t)))) h) :
    DCalls Tryd.prog 28 [.c (.own i 0 n)] h K :=
  useO1 hes (treeRightG_c hl hp ht) h0 (fun d h1 => by subst h1; exact ⟨rfl, hk⟩)

theorem left_go (t : List It) (x : En) : leftE t x = t.filter fun y => !goC x.p (coverE t x) y := rfl

theorem layerOver_c {t : List It} {l : List En} (ht : OkT t) (h : OkE l) :
    DCalls Tryd.prog 17 [.c (.p (.sl 5 (encT t))), .c (.p (.sl 7 (encE l)))] [] fun r h => r = .tup [.c (.p (.sl 5 (encT (overF t l).1))), .c (.p (.b (overF t l).2))] ∧ h = [] := by
  have hR := layerRight_c h
  have htl := ht.len
  have hll := h.len
  have hdl : ∀ x ∈ t, x.n.d.length ≤ 140737488355328 := fun x hx => Nat.le_trans (ht.dlen x hx) (by decide)
  refine dcalls_wk ?_
  refine ent tabOK hmix Tryd.func17 rfl rfl fun X0 hX => ?_
  simp only [Tryd.ntmps17, Tryd.f17, go_sem]
  repeat' (first | simp (maxSteps := 1000000) only [*, go_sem, Nat.reduceLT, Nat.reduceLeDiff, Nat.reduceEqDiff, ↓reduceIte, Nat.reduceAdd, Nat.reduceSub, Nat.reduceMul, Int.reduceLT, Int.reduceLE, Int.reduceAdd, Int.reduceSub, Int.reduceMul, Int.reduceNeg, Int.reduceToNat, Int.reduceEq, Int.reduceBEq, Int.reduceBNe, Nat.reduceBEq, beq_self_eq_true, bne_self_eq_false, Bool.not_true, Bool.not_false] | ((with_reducible refine useF (hR) ?_ ?_ ?_); (focus exact rfl); (focus exact rfl)) | refine copyT_k (by omega) hdl ?_ | with_reducible refine vcond_split (fun _ => ?_) (fun _ => ?_) | with_reducible refine vg_split (fun _ => ?_) (fun _ => ?_) | ((with_reducible apply DCalls.frz); (focus exact rfl); (focus exact rfl)) | ((with_reducible refine And.intro ?_ ?_); (focus (first | omega | decide | assumption | (simp only [decide_eq_true_eq, decide_eq_false_iff_not] at *; omega)))))
  refine loop_ren tabOK hmix (α := Nat × List (List PV)) (fun x => ⟨28, [(14, .c (.p (.sl 7 (encE l)))), (15, .c (.p (.i .i64 l.length))), (16, .c (.p (.i .i64 x.1))), (6, .c (.own 0 0 (overs t (l.take x.1)).length))], [.arr 5 x.2 false]⟩)
    (fun x => x.1 ≤ l.length ∧ x.2.take (overs t (l.take x.1)).length = encT (overs t (l.take x.1))) (fun x => l.length - x.1) (0, encT t) ⟨Nat.zero_le _, List.take_of_length_le (Nat.le_of_eq (encT_len t))⟩ (.inl (weak_mk (by rw [hX]; rfl) rfl rfl (by simp [wk_cons, wk_nil, look_cons, closedD, closedC, overs]))) ?_
  rintro ⟨k, es⟩ ⟨hk, hes⟩
  simp only at hk hes
  have hus : Srt (overs t (l.take k)) := overs_srt ht.srt
  have hul : (overs t (l.take k)).length ≤ t.length + k := overs_len t l k
  by_cases hlt : k < l.length
  · have hx : l[k]? = some l[k] := List.getElem?_eq_getElem hlt
    have hg := encE_at hx
    have h1 : decide ((k : Int) < (l.length : Int)) = true := decide_eq_true (by omega)
    have w1 : IntKind.i64.wrap ((k : Int) + 1) = k + 1 := wrap_i64 (by omega) (by omega)
    have hnx : overs t (l.take (k + 1)) = over1 (overs t (l.take k)) l[k] := by
      unfold overs; rw [List.take_add_one, hx, List.foldl_append]; rfl
    have p1 := h.plen _ (List.getElem_mem hlt)
    have p2 := h.dlen _ (List.getElem_mem hlt)
    have p3 : l[k].n.d.length ≤ 140737488355328 := by omega
    generalize l[k] = x at hx hg hnx p1 p2 p3
    generalize overs t (l.take k) = u at hes hus hul hnx
    have hsplit : es = encT u ++ es.drop u.length := by rw [← hes, List.take_append_drop]
    generalize es.drop u.length = J at hsplit
    subst hsplit
    have hlu := over1_len u x
    have hll1 := leftE_len u x
    have hls := leftE_srt hus x
    have hno := leftE_no (t := u) (x := x)
    have hsh := shutE_c (p := x.p) (k := x.k) (o := x.o) (nk := x.n.k) (nm := x.n.m) (nt := x.n.t) (nd := x.n.d)
    rw [show (⟨x.p, x.k, x.o, ⟨x.n.k, x.n.m, x.n.t, x.n.d⟩⟩ : En) = x from rfl] at hsh
    have hcv : coverE u x = (x.o || (shutE x || !isDirR u x.p)) := rfl
    have hlg := left_go u x
    have hcp := copy_c (k := x.n.k) (m := x.n.m) (t := x.n.t) (d := x.n.d) p3
    clear h hx hdl ht
    have hes2 : (encT u ++ J).take u.length = encT u := List.take_left' (encT_len u)
    have hN := PLift.up hnx
    have hE := PLift.up hes2
    have hLG := PLift.up hlg
    have hNo := PLift.up hno
    clear hnx hes hes2 hlg hno
    by_cases c4 : (x.k == 2) = true
    · have ho : over1 u x = leftE u x := by unfold over1; rw [if_pos c4]
      cases c1 : x.o <;> cases c2 : shutE x <;> cases c3 : isDirR u x.p
      all_goals rw [c1, c2, c3] at hcv
      all_goals rw [c1, c2] at hsh
      all_goals simp only [Bool.not_true, Bool.not_false, Bool.or_true, Bool.or_false, Bool.true_or, Bool.false_or] at hcv
      all_goals have hdo := fun (h : DHeap) (i : Nat) (K : DV → DHeap → Prop) (h0 : h[i]? = some (.arr 5 (encT u ++ J) false)) (hk : K (.c (.p (.b (isDirR u x.p)))) h) => isDirO_k (p := x.p) h0 hE.down (by omega) hus hk
      all_goals rw [c3] at hdo
      all_goals rw [hcv] at hLG
      all_goals repeat' (first | simp (maxSteps := 1000000) only [*, go_sem, Nat.reduceLT, Nat.reduceLeDiff, Nat.reduceEqDiff, ↓reduceIte, Nat.reduceAdd, Nat.reduceSub, Nat.reduceMul, Int.reduceLT, Int.reduceLE, Int.reduceAdd, Int.reduceSub, Int.reduceMul, Int.reduceNeg, Int.reduceToNat, Int.reduceEq, Int.reduceBEq, Int.reduceBNe, Nat.reduceBEq, beq_self_eq_true, bne_self_eq_false, Bool.not_true, Bool.not_false] | ((with_reducible refine entR tabOK hmix Tryd.func27 rfl rfl fun _ _ => ?_); simp only [Tryd.ntmps27, Tryd.f27, go_sem]) | ((with_reducible refine useF (hsh) ?_ ?_ ?_); (focus exact rfl); (focus exact rfl)) | refine hdo _ 0 _ rfl ?_ | refine ovDelete_c (by omega) (by omega) ?_ | with_reducible refine vcond_split (fun _ => ?_) (fun _ => ?_) | with_reducible refine vg_split (fun _ => ?_) (fun _ => ?_) | ((with_reducible apply DCalls.frz); (focus exact rfl); (focus exact rfl)) | ((with_reducible refine And.intro ?_ ?_); (focus (first | omega | decide | assumption | (simp only [decide_eq_true_eq, decide_eq_false_iff_not] at *; omega)))))
      all_goals intro es' hes'
      all_goals rw [← hLG.down] at hes' ⊢
      all_goals repeat' (first | simp (maxSteps := 1000000) only [*, go_sem, Nat.reduceLT, Nat.reduceLeDiff, Nat.reduceEqDiff, ↓reduceIte, Nat.reduceAdd, Nat.reduceSub, Nat.reduceMul, Int.reduceLT, Int.reduceLE, Int.reduceAdd, Int.reduceSub, Int.reduceMul, Int.reduceNeg, Int.reduceToNat, Int.reduceEq, Int.reduceBEq, Int.reduceBNe, Nat.reduceBEq, beq_self_eq_true, bne_self_eq_false] | with_reducible refine vcond_split (fun _ => ?_) (fun _ => ?_) | with_reducible refine vg_split (fun _ => ?_) (fun _ => ?_) | ((with_reducible apply DCalls.frz); (focus exact rfl); (focus exact rfl)) | ((with_reducible refine And.intro ?_ ?_); (focus (first | omega | decide | assumption | (simp only [decide_eq_true_eq, decide_eq_false_iff_not] at *; omega)))))
      all_goals exact qr_n (k + 1, es') ⟨by simp only; omega, by rw [hN.down, ho]; exact hes'⟩ (by simp only; omega) (weak_mk rfl rfl rfl (by simp [wk_cons, wk_nil, look_cons, closedD, closedC, closedK, closedB, hN.down, ho]))
    · have c4 : (x.k == 2) = false := by simpa using c4
      have ho : over1 u x = setR (leftE u x) x.p x.n := by unfold over1; rw [if_neg (by rw [c4]; decide)]
      cases c1 : x.o <;> cases c2 : shutE x <;> cases c3 : isDirR u x.p
      all_goals rw [c1, c2, c3] at hcv
      all_goals rw [c1, c2] at hsh
      all_goals simp only [Bool.not_true, Bool.not_false, Bool.or_true, Bool.or_false, Bool.true_or, Bool.false_or] at hcv
      all_goals have hdo := fun (h : DHeap) (i : Nat) (K : DV → DHeap → Prop) (h0 : h[i]? = some (.arr 5 (encT u ++ J) false)) (hk : K (.c (.p (.b (isDirR u x.p)))) h) => isDirO_k (p := x.p) h0 hE.down (by omega) hus hk
      all_goals rw [c3] at hdo
      all_goals rw [hcv] at hLG
      all_goals repeat' (first | simp (maxSteps := 1000000) only [*, go_sem, Nat.reduceLT, Nat.reduceLeDiff, Nat.reduceEqDiff, ↓reduceIte, Nat.reduceAdd, Nat.reduceSub, Nat.reduceMul, Int.reduceLT, Int.reduceLE, Int.reduceAdd, Int.reduceSub, Int.reduceMul, Int.reduceNeg, Int.reduceToNat, Int.reduceEq, Int.reduceBEq, Int.reduceBNe, Nat.reduceBEq, beq_self_eq_true, bne_self_eq_false, Bool.not_true, Bool.not_false] | ((with_reducible refine entR tabOK hmix Tryd.func27 rfl rfl fun _ _ => ?_); simp only [Tryd.ntmps27, Tryd.f27, go_sem]) | ((with_reducible refine useF (hsh) ?_ ?_ ?_); (focus exact rfl); (focus exact rfl)) | refine hdo _ 0 _ rfl ?_ | refine ovDelete_c (by omega) (by omega) ?_ | with_reducible refine vcond_split (fun _ => ?_) (fun _ => ?_) | with_reducible refine vg_split (fun _ => ?_) (fun _ => ?_) | ((with_reducible apply DCalls.frz); (focus exact rfl); (focus exact rfl)) | ((with_reducible refine And.intro ?_ ?_); (focus (first | omega | decide | assumption | (simp only [decide_eq_true_eq, decide_eq_false_iff_not] at *; omega)))))
      all_goals intro es' hes'
      all_goals rw [← hLG.down] at hes' ⊢
      all_goals repeat' (first | simp (maxSteps := 1000000) only [*, go_sem, Nat.reduceLT, Nat.reduceLeDiff, Nat.reduceEqDiff, ↓reduceIte, Nat.reduceAdd, Nat.reduceSub, Nat.reduceMul, Int.reduceLT, Int.reduceLE, Int.reduceAdd, Int.reduceSub, Int.reduceMul, Int.reduceNeg, Int.reduceToNat, Int.reduceEq, Int.reduceBEq, Int.reduceBNe, Nat.reduceBEq, beq_self_eq_true, bne_self_eq_false] | refine bsearchO_k (i := 0) (t := leftE u x) rfl hes' (by omega) hls ?_ | with_reducible refine vcond_split (fun _ => ?_) (fun _ => ?_) | with_reducible refine vg_split (fun _ => ?_) (fun _ => ?_) | ((with_reducible apply DCalls.frz); (focus exact rfl); (focus exact rfl)) | ((with_reducible refine And.intro ?_ ?_); (focus (first | omega | decide | assumption | (simp only [decide_eq_true_eq, decide_eq_false_iff_not] at *; omega)))))
      all_goals intro j hj
      all_goals unfold findE
      all_goals have hj1 := hj.1
      all_goals have hat : At (leftE u x) x.p j := hj
      all_goals have hnew := setR_new (n := x.n) hls hat (fun y hy => hNo.down y (List.mem_of_getElem? hy))
      all_goals have hle : (leftE u x).length ≤ es'.length := by have := congrArg List.length hes'; rw [List.length_take, encT_len] at this; omega
      all_goals have hjm : (j : Int) ≤ ((leftE u x).length : Int) := by omega
      all_goals clear hat hj
      all_goals repeat' (first | simp (maxSteps := 1000000) only [*, go_sem, Nat.reduceLT, Nat.reduceLeDiff, Nat.reduceEqDiff, ↓reduceIte, Nat.reduceAdd, Nat.reduceSub, Nat.reduceMul, Int.reduceLT, Int.reduceLE, Int.reduceAdd, Int.reduceSub, Int.reduceMul, Int.reduceNeg, Int.reduceToNat, Int.reduceEq, Int.reduceBEq, Int.reduceBNe, Nat.reduceBEq, beq_self_eq_true, bne_self_eq_false] | ((with_reducible refine useN (hcp) ?_ ?_ ?_); (focus exact rfl); (focus exact fun _ => rfl)) | refine insert_k (x := [.s x.p, .i .i64 x.n.k, .i .i64 x.n.m, .f x.n.t, .sl 1 (encB x.n.d)]) rfl rfl (by decide) hle hj1 (by omega) ?_ | ((refine vc_drawn (id := 6) tabOK hmix [8,9] [2,3,4,5,6,7,8,0,1,9,10] (by decide +kernel) ?_); (repeat' (first | (refine ds_nil ?_) | ((refine ds_chg ?_ ?_ rfl rfl rfl ?_ ?_); (rotate_left 2); (focus ((repeat' (first | simp (maxSteps := 1000000) only [*, go_sem, Nat.reduceLT, Nat.reduceLeDiff, Nat.reduceEqDiff, ↓reduceIte, Nat.reduceAdd, Nat.reduceSub, Nat.reduceMul, Int.reduceLT, Int.reduceLE, Int.reduceAdd, Int.reduceSub, Int.reduceMul, Int.reduceNeg, Int.reduceToNat, Int.reduceEq, Int.reduceBEq, Int.reduceBNe, Nat.reduceBEq, beq_self_eq_true, bne_self_eq_false] | ((with_reducible refine useN (hcp) ?_ ?_ ?_); (focus exact rfl); (focus exact fun _ => rfl)) | refine insert_k (x := [.s x.p, .i .i64 x.n.k, .i .i64 x.n.m, .f x.n.t, .sl 1 (encB x.n.d)]) rfl rfl (by decide) hle hj1 (by omega) ?_ | with_reducible refine vcond_split (fun _ => ?_) (fun _ => ?_) | with_reducible refine vg_split (fun _ => ?_) (fun _ => ?_) | ((with_reducible apply DCalls.frz); (focus exact rfl); (focus exact rfl)) | ((with_reducible refine And.intro ?_ ?_); (focus (first | omega | decide | assumption | (simp only [decide_eq_true_eq, decide_eq_false_iff_not] at *; omega)))))); (first | exact rfl | (refine And.intro ?_ ?_ <;> exact rfl)))); (simp only [putF_some, putF_none])) | ((refine ds_all ?_ rfl rfl rfl ?_ ?_); (rotate_left 1); (focus ((repeat' (first | exact allH_nil | refine allH_cons ?_ ?_)); (all_goals ((repeat' (first | simp (maxSteps := 1000000) only [*, go_sem, Nat.reduceLT, Nat.reduceLeDiff, Nat.reduceEqDiff, ↓reduceIte, Nat.reduceAdd, Nat.reduceSub, Nat.reduceMul, Int.reduceLT, Int.reduceLE, Int.reduceAdd, Int.reduceSub, Int.reduceMul, Int.reduceNeg, Int.reduceToNat, Int.reduceEq, Int.reduceBEq, Int.reduceBNe, Nat.reduceBEq, beq_self_eq_true, bne_self_eq_false] | ((with_reducible refine useN (hcp) ?_ ?_ ?_); (focus exact rfl); (focus exact fun _ => rfl)) | refine insert_k (x := [.s x.p, .i .i64 x.n.k, .i .i64 x.n.m, .f x.n.t, .sl 1 (encB x.n.d)]) rfl rfl (by decide) hle hj1 (by omega) ?_ | with_reducible refine vcond_split (fun _ => ?_) (fun _ => ?_) | with_reducible refine vg_split (fun _ => ?_) (fun _ => ?_) | ((with_reducible apply DCalls.frz); (focus exact rfl); (focus exact rfl)) | ((with_reducible refine And.intro ?_ ?_); (focus (first | omega | decide | assumption | (simp only [decide_eq_true_eq, decide_eq_false_iff_not] at *; omega)))))); (try (first | exact rfl | omega)))))); (simp only [putF_some, putF_none]))))) | with_reducible refine vcond_split (fun _ => ?_) (fun _ => ?_) | with_reducible refine vg_split (fun _ => ?_) (fun _ => ?_) | ((with_reducible apply DCalls.frz); (focus exact rfl); (focus exact rfl)) | ((with_reducible refine And.intro ?_ ?_); (focus (first | omega | decide | assumption | (simp only [decide_eq_true_eq, decide_eq_false_iff_not] at *; omega)))))
      all_goals have hrow : encT (over1 u x) = insAt j [.s x.p, .i .i64 x.n.k, .i .i64 x.n.m, .f x.n.t, .sl 1 (encB x.n.d)] (encT (leftE u x)) := by rw [ho, hnew]; exact (insAt_enc (leftE u x) j x.p x.n.k x.n.m x.n.t x.n.d).symm
      all_goals have hln : (over1 u x).length = (leftE u x).length + 1 := by rw [ho, hnew, List.length_append, List.length_cons, List.length_take, List.length_drop]; omega
      all_goals exact qr_ren (k + 1, encT (over1 u x)) 0 6 ⟨by simp only; omega, by rw [hN.down]; exact List.take_of_length_le (Nat.le_of_eq (encT_len _))⟩ (by simp only; omega) rfl rfl (weak_mk rfl (by rw [hrow]; rfl) rfl (by simp [wk_cons, wk_nil, look_cons, closedD, closedC, closedK, closedB, renT, renD, renC, hN.down, hln]))
  · have h1 : decide ((k : Int) < (l.length : Int)) = false := decide_eq_false (by omega)
    have hk2 : k = l.length := by omega
    subst hk2
    rw [List.take_length] at hes hus hul
    rw [List.take_length]
    have hmem : ∀ y ∈ overs t l, y.p.length ≤ 1000000000 ∧ y.n.t < 18446744073709551616 := fun y hy => by
      rcases overs_mem hy with hy | ⟨x, hx, rfl⟩
      · exact ⟨Nat.le_trans (ht.plen y hy) (by decide), ht.tlen y hy⟩
      · exact ⟨Nat.le_trans (h.plen x hx) (by decide), h.tlen x hx⟩
    have hro := fun (h : DHeap) (K : DV → DHeap → Prop) (h0 : h[0]? = some (.arr 5 es false)) (hk : K (.c (.p (.b (rightT (overs t l))))) h) => rightO_k (t := overs t l) (i := 0) h0 hes (by omega) (fun x hx => (hmem x hx).1) (fun x hx => (hmem x hx).2) hk
    unfold overF
    have hE := PLift.up hes
    clear hes hmem hdl ht h hlt
    generalize overs t l = u at *
    cases c1 : rightT u
    · rw [c1] at hro
      repeat' (first | simp (maxSteps := 1000000) only [*, go_sem, Nat.reduceLT, Nat.reduceLeDiff, Nat.reduceEqDiff, ↓reduceIte, Nat.reduceAdd, Nat.reduceSub, Nat.reduceMul, Int.reduceLT, Int.reduceLE, Int.reduceAdd, Int.reduceSub, Int.reduceMul, Int.reduceNeg, Int.reduceToNat, Int.reduceEq, Int.reduceBEq, Int.reduceBNe, Nat.reduceBEq, beq_self_eq_true, bne_self_eq_false, Bool.not_true, Bool.not_false] | refine hro _ _ rfl ?_ | with_reducible refine vcond_split (fun _ => ?_) (fun _ => ?_) | with_reducible refine vg_split (fun _ => ?_) (fun _ => ?_) | ((with_reducible apply DCalls.frz); (focus exact rfl); (focus exact rfl)) | ((with_reducible refine And.intro ?_ ?_); (focus (first | omega | decide | assumption | (simp only [decide_eq_true_eq, decide_eq_false_iff_not] at *; omega)))))
      all_goals exact .inr ⟨_, rfl⟩
    · rw [c1] at hro
      repeat' (first | simp (maxSteps := 1000000) only [*, go_sem, Nat.reduceLT, Nat.reduceLeDiff, Nat.reduceEqDiff, ↓reduceIte, Nat.reduceAdd, Nat.reduceSub, Nat.reduceMul, Int.reduceLT, Int.reduceLE, Int.reduceAdd, Int.reduceSub, Int.reduceMul, Int.reduceNeg, Int.reduceToNat, Int.reduceEq, Int.reduceBEq, Int.reduceBNe, Nat.reduceBEq, beq_self_eq_true, bne_self_eq_false, Bool.not_true, Bool.not_false] | refine hro _ _ rfl ?_ | with_reducible refine vcond_split (fun _ => ?_) (fun _ => ?_) | with_reducible refine vg_split (fun _ => ?_) (fun _ => ?_) | ((with_reducible apply DCalls.frz); (focus exact rfl); (focus exact rfl)) | ((with_reducible refine And.intro ?_ ?_); (focus (first | omega | decide | assumption | (simp only [decide_eq_true_eq, decide_eq_false_iff_not] at *; omega)))))
      all_goals rw [hE.down]
end Go.Proofs.YtcoedlaifhfnnaaDoor
