/-
  Contracts of the document's diff.
-/
import Derived.Test.YtjanmkknbijecaaGreatDoorD1
import Derived.Test.YtjanmkknbijecaaGreatDoorSC
set_option linter.unusedSimpArgs false
set_option linter.unusedVariables false
namespace Go.Proofs.YtjanmkknbijecaaGreatDoor
open Go Go.Dm
set_option maxRecDepth 100000
set_option maxHeartbeats 4000000

theorem enter_c {l : List (List UInt8)} {s : List UInt8} (hl : l.length ≤ 1000000) :
    DCalls Tryz.prog 55 [.c (.p (.sl 1 (Go.Dm.encS l))), .c (.p (.s s))] [] fun r h => r = .c (.p (.sl 1 (Go.Dm.encS (insS s l)))) ∧ h = [] := by
  refine ent tabOK hmix Tryz.func55 rfl rfl fun X0 hX => ?_
  simp only [Tryz.ntmps55, Tryz.f55, go_sem]
  repeat' (first | simp (maxSteps := 1000000) only [*, go_sem, Nat.reduceLT, Nat.reduceLeDiff, Nat.reduceEqDiff, ↓reduceIte, Nat.reduceAdd, Nat.reduceSub, Nat.reduceMul, Int.reduceLT, Int.reduceLE, Int.reduceAdd, Int.reduceSub, Int.reduceMul, Int.reduceNeg, Int.reduceToNat, Int.reduceEq, Int.reduceBEq, Int.reduceBNe, Nat.reduceBEq, beq_self_eq_true, bne_self_eq_false] | with_reducible refine vcond_split (fun _ => ?_) (fun _ => ?_) | with_reducible refine vg_split (fun _ => ?_) (fun _ => ?_) | ((with_reducible apply DCalls.frz); (focus exact rfl); (focus exact rfl)) | ((with_reducible refine And.intro ?_ ?_); (focus (first | omega | decide | assumption | (simp only [decide_eq_true_eq, decide_eq_false_iff_not] at *; omega)))))
  refine loop_ren tabOK hmix (α := Nat) (fun k => ⟨48, [(0, .c (.p (.sl 1 (Go.Dm.encS l)))), (1, .c (.p (.s s))), (5, .c (.p (.i .i64 k)))], []⟩)
    (fun k => k ≤ l.length ∧ ∀ j x, l[j]? = some x → j < k → bltL x s = true) (fun k => l.length - k) 0 ⟨Nat.zero_le _, fun j x _ h => by omega⟩ (.inl (weak_mk (by rw [hX]; rfl) rfl rfl (by simp [wk_cons, wk_nil, look_cons, closedD, closedC, encT_nil, encS_nil, encC_nil]))) ?_
  rintro k ⟨hk, hs⟩
  by_cases hlt : k < l.length
  · have hx : l[k]? = some l[k] := List.getElem?_eq_getElem hlt
    have hg := Go.Dm.encS_at hx
    have h1 : decide ((k : Int) < (l.length : Int)) = true := decide_eq_true (by omega)
    have w1 : IntKind.i64.wrap ((k : Int) + 1) = k + 1 := wrap_i64 (by omega) (by omega)
    have hli : (k : Int) ≤ (l.length : Int) := by omega
    have hli2 : (k : Int) < (l.length : Int) := by omega
    have hmin : min k l.length = k := Nat.min_eq_left hk
    have hk0 : (0 : Int) ≤ (k : Int) := by omega
    have ht1 : (l.take k).length = k := by rw [List.length_take]; exact hmin
    have ht2 : (l.drop k).length = l.length - k := List.length_drop
    generalize l[k] = x at hx hg
    cases hb : bltL x s
    · have hat := insS_at (s := s) hk hs (fun y hy => by rw [hx] at hy; cases hy; exact hb)
      rw [hx] at hat
      simp only at hat
      rw [hat]
      clear hat hs hx
      cases he : (x == s)
      · repeat' (first | simp (maxSteps := 1000000) only [*, go_sem, Nat.reduceLT, Nat.reduceLeDiff, Nat.reduceEqDiff, ↓reduceIte, Nat.reduceAdd, Nat.reduceSub, Nat.reduceMul, Int.reduceLT, Int.reduceLE, Int.reduceAdd, Int.reduceSub, Int.reduceMul, Int.reduceNeg, Int.reduceToNat, Int.reduceEq, Int.reduceBEq, Int.reduceBNe, Nat.reduceBEq, beq_self_eq_true, bne_self_eq_false, Bool.false_eq_true] | with_reducible refine vcond_split (fun _ => ?_) (fun _ => ?_) | with_reducible refine vg_split (fun _ => ?_) (fun _ => ?_) | ((with_reducible apply DCalls.frz); (focus exact rfl); (focus exact rfl)) | ((with_reducible refine And.intro ?_ ?_); (focus (first | omega | decide | assumption | (simp only [decide_eq_true_eq, decide_eq_false_iff_not] at *; omega)))))
        rw [List.take_of_length_le (by simp; omega)]
        simp
      · repeat' (first | simp (maxSteps := 1000000) only [*, go_sem, Nat.reduceLT, Nat.reduceLeDiff, Nat.reduceEqDiff, ↓reduceIte, Nat.reduceAdd, Nat.reduceSub, Nat.reduceMul, Int.reduceLT, Int.reduceLE, Int.reduceAdd, Int.reduceSub, Int.reduceMul, Int.reduceNeg, Int.reduceToNat, Int.reduceEq, Int.reduceBEq, Int.reduceBNe, Nat.reduceBEq, beq_self_eq_true, bne_self_eq_false] | with_reducible refine vcond_split (fun _ => ?_) (fun _ => ?_) | with_reducible refine vg_split (fun _ => ?_) (fun _ => ?_) | ((with_reducible apply DCalls.frz); (focus exact rfl); (focus exact rfl)) | ((with_reducible refine And.intro ?_ ?_); (focus (first | omega | decide | assumption | (simp only [decide_eq_true_eq, decide_eq_false_iff_not] at *; omega)))))
    · have hs' : k + 1 ≤ l.length ∧ ∀ j y, l[j]? = some y → j < k + 1 → bltL y s = true := ⟨by omega, fun j y hy hj => by
        rcases Nat.lt_or_ge j k with h | h
        · exact hs j y hy h
        · have : j = k := by omega
          subst this; rw [hx] at hy; cases hy; exact hb⟩
      clear hs hx
      repeat' (first | simp (maxSteps := 1000000) only [*, go_sem, Nat.reduceLT, Nat.reduceLeDiff, Nat.reduceEqDiff, ↓reduceIte, Nat.reduceAdd, Nat.reduceSub, Nat.reduceMul, Int.reduceLT, Int.reduceLE, Int.reduceAdd, Int.reduceSub, Int.reduceMul, Int.reduceNeg, Int.reduceToNat, Int.reduceEq, Int.reduceBEq, Int.reduceBNe, Nat.reduceBEq, beq_self_eq_true, bne_self_eq_false] | with_reducible refine vcond_split (fun _ => ?_) (fun _ => ?_) | with_reducible refine vg_split (fun _ => ?_) (fun _ => ?_) | ((with_reducible apply DCalls.frz); (focus exact rfl); (focus exact rfl)) | ((with_reducible refine And.intro ?_ ?_); (focus (first | omega | decide | assumption | (simp only [decide_eq_true_eq, decide_eq_false_iff_not] at *; omega)))))
      exact qr_n (k + 1) hs' (by omega) (weak_mk rfl rfl rfl (by simp [wk_cons, wk_nil, look_cons, closedD, closedC, renT, renD, renC, encT_nil, encS_nil, encC_nil]))
  · have h1 : decide ((k : Int) < (l.length : Int)) = false := decide_eq_false (by omega)
    have hkl : k = l.length := by omega
    subst hkl
    have hx : l[l.length]? = none := List.getElem?_eq_none (Nat.le_refl _)
    have hat := insS_at (s := s) hk hs (fun y hy => by rw [hx] at hy; cases hy)
    rw [hx] at hat
    simp only at hat
    rw [hat]
    clear hat hs hx
    have hdl : l.drop l.length = [] := List.drop_length
    repeat' (first | simp (maxSteps := 1000000) only [*, go_sem, Nat.reduceLT, Nat.reduceLeDiff, Nat.reduceEqDiff, ↓reduceIte, Nat.reduceAdd, Nat.reduceSub, Nat.reduceMul, Int.reduceLT, Int.reduceLE, Int.reduceAdd, Int.reduceSub, Int.reduceMul, Int.reduceNeg, Int.reduceToNat, Int.reduceEq, Int.reduceBEq, Int.reduceBNe, Nat.reduceBEq, beq_self_eq_true, bne_self_eq_false, List.append_nil, List.length_nil, Nat.add_zero] | with_reducible refine vcond_split (fun _ => ?_) (fun _ => ?_) | with_reducible refine vg_split (fun _ => ?_) (fun _ => ?_) | ((with_reducible apply DCalls.frz); (focus exact rfl); (focus exact rfl)) | ((with_reducible refine And.intro ?_ ?_); (focus (first | omega | decide | assumption | (simp only [decide_eq_true_eq, decide_eq_false_iff_not] at *; omega)))))
    rw [List.take_of_length_le (by simp)]

theorem paths_c {ts : List (List It)} (hl : ts.length ≤ 3) (ht : ∀ t ∈ ts, t.length ≤ 120) :
    DCalls Tryz.prog 44 [.c (.p (.sl 1 (ts.map fun t => [.sl 5 (encT t)])))] [] fun r h => r = .c (.p (.sl 1 (Go.Dm.encS (ts.foldl insAll [])))) ∧ h = [] := by
  have hgen : (ts.map fun t => [PV.sl 5 (encT t)]).length = ts.length := List.length_map _
  have hone : (∀ x ∈ (ts.map fun t => [PV.sl 5 (encT t)]), x.length = 1) = True := eq_true fun x hx => by
    obtain ⟨t, _, rfl⟩ := List.mem_map.1 hx
    rfl
  have hat : ∀ i t, ts[i]? = some t → (ts.map fun t => [PV.sl 5 (encT t)]).getD i [] = [.sl 5 (encT t)] := fun i t h => by
    simp only [List.getD_eq_getElem?_getD, List.getElem?_map, h]; rfl
  generalize (ts.map fun t => [PV.sl 5 (encT t)]) = arg at *
  refine ent tabOK hmix Tryz.func44 rfl rfl fun X0 hX => ?_
  simp only [Tryz.ntmps44, Tryz.f44, go_sem]
  repeat' (first | simp (maxSteps := 1000000) only [*, go_sem, Nat.reduceLT, Nat.reduceLeDiff, Nat.reduceEqDiff, ↓reduceIte, Nat.reduceAdd, Nat.reduceSub, Nat.reduceMul, Int.reduceLT, Int.reduceLE, Int.reduceAdd, Int.reduceSub, Int.reduceMul, Int.reduceNeg, Int.reduceToNat, Int.reduceEq, Int.reduceBEq, Int.reduceBNe, Nat.reduceBEq, beq_self_eq_true, bne_self_eq_false] | with_reducible refine vcond_split (fun _ => ?_) (fun _ => ?_) | with_reducible refine vg_split (fun _ => ?_) (fun _ => ?_) | ((with_reducible apply DCalls.frz); (focus exact rfl); (focus exact rfl)) | ((with_reducible refine And.intro ?_ ?_); (focus (first | omega | decide | assumption | (simp only [decide_eq_true_eq, decide_eq_false_iff_not] at *; omega)))))
  refine vc_sl 3 1 rfl ?_
  refine loop_ren tabOK hmix (α := Nat) (fun i => ⟨32, [(0, .c (.p (.sl 1 arg))), (3, .c (.p (.sl 1 (Go.Dm.encS ((ts.take i).foldl insAll []))))), (4, .c (.p (.i .i64 i)))], []⟩)
    (fun i => i ≤ ts.length ∧ ((ts.take i).foldl insAll []).length ≤ 120 * i) (fun i => ts.length - i) 0 ⟨Nat.zero_le _, Nat.le_refl _⟩ (.inl (weak_mk (by rw [hX]; rfl) rfl rfl (by simp [wk_cons, wk_nil, look_cons, closedD, closedC, encT_nil, encS_nil, encC_nil]))) ?_
  rintro i ⟨hi, hol⟩
  by_cases hlt : i < ts.length
  · have hx : ts[i]? = some ts[i] := List.getElem?_eq_getElem hlt
    have hg := hat _ _ hx
    have h1 : decide ((i : Int) < (ts.length : Int)) = true := decide_eq_true (by omega)
    have hli : (i : Int) < (ts.length : Int) := by omega
    have w1 : IntKind.i64.wrap ((i : Int) + 1) = i + 1 := wrap_i64 (by omega) (by omega)
    have htl := ht _ (List.getElem_mem hlt)
    have hnext : (ts.take (i + 1)).foldl insAll [] = insAll ((ts.take i).foldl insAll []) ts[i] := by
      rw [List.take_add_one, hx, List.foldl_append]; rfl
    generalize ts[i] = t at hx hg htl hnext
    generalize (ts.take i).foldl insAll [] = o at hol hnext
    clear hat hx
    repeat' (first | simp (maxSteps := 1000000) only [*, go_sem, Nat.reduceLT, Nat.reduceLeDiff, Nat.reduceEqDiff, ↓reduceIte, Nat.reduceAdd, Nat.reduceSub, Nat.reduceMul, Int.reduceLT, Int.reduceLE, Int.reduceAdd, Int.reduceSub, Int.reduceMul, Int.reduceNeg, Int.reduceToNat, Int.reduceEq, Int.reduceBEq, Int.reduceBNe, Nat.reduceBEq, beq_self_eq_true, bne_self_eq_false] | with_reducible refine vcond_split (fun _ => ?_) (fun _ => ?_) | with_reducible refine vg_split (fun _ => ?_) (fun _ => ?_) | ((with_reducible apply DCalls.frz); (focus exact rfl); (focus exact rfl)) | ((with_reducible refine And.intro ?_ ?_); (focus (first | omega | decide | assumption | (simp only [decide_eq_true_eq, decide_eq_false_iff_not] at *; omega)))))
    refine loop_ren tabOK hmix (α := Nat) (fun k => ⟨32, [(0, .c (.p (.sl 1 arg))), (3, .c (.p (.sl 1 (Go.Dm.encS (insAll o (t.take k)))))), (4, .c (.p (.i .i64 i))), (5, .c (.p (.i .i64 k)))], []⟩)
      (fun k => k ≤ t.length) (fun k => t.length - k) 0 (Nat.zero_le _) (.inl (weak_mk (by rw [hX]; rfl) rfl rfl (by simp [wk_cons, wk_nil, look_cons, closedD, closedC, insAll]))) ?_
    intro k hk
    by_cases hkl : k < t.length
    · have hy : t[k]? = some t[k] := List.getElem?_eq_getElem hkl
      have hg2 := encT_at hy
      have h2 : decide ((k : Int) < (t.length : Int)) = true := decide_eq_true (by omega)
      have w2 : IntKind.i64.wrap ((k : Int) + 1) = k + 1 := wrap_i64 (by omega) (by omega)
      have hn2 : insAll o (t.take (k + 1)) = insS t[k].p (insAll o (t.take k)) := by
        unfold insAll
        rw [List.take_add_one, hy, List.foldl_append]; rfl
      have hle : (insAll o (t.take k)).length ≤ o.length + k := by
        have := insAll_len (t.take k) o
        rw [List.length_take] at this
        omega
      generalize t[k] = y at hy hg2 hn2
      generalize hq : insAll o (t.take k) = q at hle hn2
      clear hq hy hnext
      repeat' (first | simp (maxSteps := 1000000) only [*, go_sem, Nat.reduceLT, Nat.reduceLeDiff, Nat.reduceEqDiff, ↓reduceIte, Nat.reduceAdd, Nat.reduceSub, Nat.reduceMul, Int.reduceLT, Int.reduceLE, Int.reduceAdd, Int.reduceSub, Int.reduceMul, Int.reduceNeg, Int.reduceToNat, Int.reduceEq, Int.reduceBEq, Int.reduceBNe, Nat.reduceBEq, beq_self_eq_true, bne_self_eq_false] | ((with_reducible refine useN (enter_c (by omega)) ?_ ?_ ?_); (focus exact rfl); (focus exact fun _ => rfl)) | with_reducible refine vcond_split (fun _ => ?_) (fun _ => ?_) | with_reducible refine vg_split (fun _ => ?_) (fun _ => ?_) | ((with_reducible apply DCalls.frz); (focus exact rfl); (focus exact rfl)) | ((with_reducible refine And.intro ?_ ?_); (focus (first | omega | decide | assumption | (simp only [decide_eq_true_eq, decide_eq_false_iff_not] at *; omega)))))
      exact qr_n (k + 1) (by omega) (by omega) (weak_mk rfl rfl rfl (by simp [wk_cons, wk_nil, look_cons, closedD, closedC, hn2]))
    · have h2 : decide ((k : Int) < (t.length : Int)) = false := decide_eq_false (by omega)
      rw [List.take_of_length_le (by omega)]
      have hle := insAll_len t o
      rw [← hnext] at hle ⊢
      have hfin : i + 1 ≤ ts.length ∧ ((ts.take (i + 1)).foldl insAll []).length ≤ 120 * (i + 1) := ⟨by omega, by omega⟩
      clear hnext hle
      repeat' (first | simp (maxSteps := 1000000) only [*, go_sem, Nat.reduceLT, Nat.reduceLeDiff, Nat.reduceEqDiff, ↓reduceIte, Nat.reduceAdd, Nat.reduceSub, Nat.reduceMul, Int.reduceLT, Int.reduceLE, Int.reduceAdd, Int.reduceSub, Int.reduceMul, Int.reduceNeg, Int.reduceToNat, Int.reduceEq, Int.reduceBEq, Int.reduceBNe, Nat.reduceBEq, beq_self_eq_true, bne_self_eq_false] | with_reducible refine vcond_split (fun _ => ?_) (fun _ => ?_) | with_reducible refine vg_split (fun _ => ?_) (fun _ => ?_) | ((with_reducible apply DCalls.frz); (focus exact rfl); (focus exact rfl)) | ((with_reducible refine And.intro ?_ ?_); (focus (first | omega | decide | assumption | (simp only [decide_eq_true_eq, decide_eq_false_iff_not] at *; omega)))))
      exact qr_n (i + 1) hfin (by omega) (weak_mk rfl rfl rfl (by simp [wk_cons, wk_nil, look_cons, closedD, closedC, renT, renD, renC, encT_nil, encS_nil, encC_nil]))
  · have h1 : decide ((i : Int) < (ts.length : Int)) = false := decide_eq_false (by omega)
    rw [List.take_of_length_le (by omega)]
    repeat' (first | simp (maxSteps := 1000000) only [*, go_sem, Nat.reduceLT, Nat.reduceLeDiff, Nat.reduceEqDiff, ↓reduceIte, Nat.reduceAdd, Nat.reduceSub, Nat.reduceMul, Int.reduceLT, Int.reduceLE, Int.reduceAdd, Int.reduceSub, Int.reduceMul, Int.reduceNeg, Int.reduceToNat, Int.reduceEq, Int.reduceBEq, Int.reduceBNe, Nat.reduceBEq, beq_self_eq_true, bne_self_eq_false] | with_reducible refine vcond_split (fun _ => ?_) (fun _ => ?_) | with_reducible refine vg_split (fun _ => ?_) (fun _ => ?_) | ((with_reducible apply DCalls.frz); (focus exact rfl); (focus exact rfl)) | ((with_reducible refine And.intro ?_ ?_); (focus (first | omega | decide | assumption | (simp only [decide_eq_true_eq, decide_eq_false_iff_not] at *; omega)))))

theorem refKind_c {k m k' m' : Int} {t t' : Nat} {d d' : List UInt8} (p q : Bool) : DCalls Tryz.prog 45 [.agg (ndc k m t d), .agg (ndc k' m' t' d'), .c (.p (.b p)), .c (.p (.b q))] [] fun r h => r = .c (.p (.i .i64 (kindR ⟨k, m, t, d⟩ ⟨k', m', t', d'⟩ p q))) ∧ h = [] := by
  cases p <;> cases q
  all_goals
    refine ent tabOK hmix Tryz.func45 rfl rfl fun X0 hX => ?_
    simp only [Tryz.ntmps45, Tryz.f45, go_sem]
  all_goals repeat' (first | simp (maxSteps := 1000000) only [*, go_sem, Nat.reduceLT, Nat.reduceLeDiff, Nat.reduceEqDiff, ↓reduceIte, Nat.reduceAdd, Nat.reduceSub, Nat.reduceMul, Int.reduceLT, Int.reduceLE, Int.reduceAdd, Int.reduceSub, Int.reduceMul, Int.reduceNeg, Int.reduceToNat, Int.reduceEq, Int.reduceBEq, Int.reduceBNe, Nat.reduceBEq, beq_self_eq_true, bne_self_eq_false] | with_reducible refine vcond_split (fun _ => ?_) (fun _ => ?_) | with_reducible refine vg_split (fun _ => ?_) (fun _ => ?_) | ((with_reducible apply DCalls.frz); (focus exact rfl); (focus exact rfl)) | ((with_reducible refine And.intro ?_ ?_); (focus (first | omega | decide | assumption | (simp only [decide_eq_true_eq, decide_eq_false_iff_not] at *; omega)))))
  all_goals simp_all [kindR]

end Go.Proofs.YtjanmkknbijecaaGreatDoor
