/-
  The contract of the function that turns a tree.
-/
import Derived.Test.YtfiopamaiolfhaaGreatDoorD8
set_option linter.unusedSimpArgs false
set_option linter.unusedVariables false
namespace Go.Proofs.YtfiopamaiolfhaaGreatDoor
open Go Go.Dm
set_option maxRecDepth 100000
set_option maxHeartbeats 4000000

theorem turned_c {t0 : List It} {l : List RU} (ht0 : OkT t0) (hl : l.length ≤ 9223372036854775807) (hd : ∀ x ∈ l, x.n.d.length ≤ 9223372036854775807) (hdx : ∀ x ∈ l, x.n.x < 18446744073709551616) :
    DCalls Tryz.prog 30 [.c (.p (.sl 5 (encT t0))), .c (.p (.sl 8 (encU l)))] [] fun r h => ∃ t, OkT t ∧ r = .c (.p (.sl 5 (encT t))) ∧ h = [] := by
  refine ent tabOK hmix Tryz.func30 rfl rfl fun X0 hX => ?_
  simp only [Tryz.ntmps30, Tryz.f30, go_sem]
  repeat' (first | simp (maxSteps := 1000000) only [*, go_sem, Nat.reduceLT, Nat.reduceLeDiff, Nat.reduceEqDiff, ↓reduceIte, Nat.reduceAdd, Nat.reduceSub, Nat.reduceMul, Int.reduceLT, Int.reduceLE, Int.reduceAdd, Int.reduceSub, Int.reduceMul, Int.reduceNeg, Int.reduceToNat, Int.reduceEq, Int.reduceBEq, Int.reduceBNe, Nat.reduceBEq, beq_self_eq_true, bne_self_eq_false] | with_reducible refine vcond_split (fun _ => ?_) (fun _ => ?_) | with_reducible refine vg_split (fun _ => ?_) (fun _ => ?_) | ((with_reducible apply DCalls.frz); (focus exact rfl); (focus exact rfl)) | ((with_reducible refine And.intro ?_ ?_); (focus (first | omega | decide | assumption | (simp only [decide_eq_true_eq, decide_eq_false_iff_not] at *; omega)))))
  refine loop_ren tabOK hmix (α := Nat × List It) (fun x => ⟨141, [(0, .c (.p (.sl 5 (encT x.2)))), (1, .c (.p (.sl 8 (encU l)))), (5, .c (.p (.i .i64 x.1)))], []⟩)
    (fun x => x.1 ≤ l.length ∧ OkT x.2) (fun x => l.length - x.1) (0, t0) ⟨Nat.zero_le _, ht0⟩ (.inl (weak_mk (by rw [hX]; rfl) rfl rfl (by simp [wk_cons, wk_nil, look_cons, closedD, closedC, encT_nil, encS_nil, encC_nil]))) ?_
  rintro ⟨i, t⟩ ⟨hi, ht⟩
  simp only at hi ht
  by_cases hlt : i < l.length
  · have hx : l[i]? = some l[i] := List.getElem?_eq_getElem hlt
    have hg := encU_at hx
    have h1 : decide ((i : Int) < (l.length : Int)) = true := decide_eq_true (by omega)
    have w1 : IntKind.i64.wrap ((i : Int) + 1) = i + 1 := wrap_i64 (by omega) (by omega)
    generalize l[i] = x at hx hg
    have hxd := hd x (List.mem_of_getElem? hx)
    have hxx := hdx x (List.mem_of_getElem? hx)
    have hpl := pathF_len x.at'
    have hul := ht.len
    have hup : ∀ x ∈ t, x.p.length ≤ 9223372036854775807 := fun x hx => Nat.le_trans (ht.plen x hx) (by decide)
    have huq : ∀ x ∈ t, x.p.length ≤ 1000000000 := fun x hx => Nat.le_trans (ht.plen x hx) (by decide)
    have hgd := ht.getd
    have hgt := ht.gett
    obtain ⟨nn, ⟨hnn, hnt⟩, hnc⟩ : ∃ nn : Nd, (nn.d.length ≤ 60 ∧ nn.t < 18446744073709551616) ∧ DCalls Tryz.prog 72 [.agg (rnc x.n.k x.n.m x.n.t x.n.x x.n.d)] [] fun r h => r = .agg (ndc nn.k nn.m nn.t nn.d) ∧ h = [] :=
      ⟨nodeF x.n, ⟨nodeD_len x.n, nodeF_wf hxx⟩, nodeF_c hxd⟩
    have key : ∃ j : Nat, 0 < t.length → (IntKind.i64.wrap (x.at'.tdiv 3)) % (t.length : Int) = (j : Int) ∧ j < t.length := by
      refine ⟨((IntKind.i64.wrap (x.at'.tdiv 3)) % (t.length : Int)).toNat, fun h0 => ?_⟩
      have := Int.emod_nonneg (IntKind.i64.wrap (x.at'.tdiv 3)) (show (t.length : Int) ≠ 0 by omega)
      have := Int.emod_lt_of_pos (IntKind.i64.wrap (x.at'.tdiv 3)) (show (0 : Int) < t.length by omega)
      omega
    obtain ⟨j, hj⟩ := key
    by_cases htl : 0 < t.length
    · obtain ⟨hj, hjl⟩ := hj htl
      have hy : t[j]? = some t[j] := List.getElem?_eq_getElem hjl
      have hgy := encT_at hy
      have h2 : decide ((0 : Int) < (t.length : Int)) = true := decide_eq_true (by omega)
      generalize t[j] = y at hy hgy
      have hyp := ht.plen y (List.mem_of_getElem? hy)
      repeat' (first | simp (maxSteps := 1000000) only [*, go_sem, Nat.reduceLT, Nat.reduceLeDiff, Nat.reduceEqDiff, ↓reduceIte, Nat.reduceAdd, Nat.reduceSub, Nat.reduceMul, Int.reduceLT, Int.reduceLE, Int.reduceAdd, Int.reduceSub, Int.reduceMul, Int.reduceNeg, Int.reduceToNat, Int.reduceEq, Int.reduceBEq, Int.reduceBNe, Nat.reduceBEq, beq_self_eq_true, bne_self_eq_false] | ((with_reducible refine useF (Path_c) ?_ ?_ ?_); (focus exact rfl); (focus exact rfl)) | ((with_reducible refine useF (Pick_c (by omega) (by omega)) ?_ ?_ ?_); (focus exact rfl); (focus exact rfl)) | ((with_reducible refine useN (getR_c (t := t) (by omega)) ?_ ?_ ?_); (focus exact rfl); (focus exact fun _ => rfl)) | ((with_reducible refine useN (removeR_c (t := t) (by omega) (by omega) hup) ?_ ?_ ?_); (focus exact rfl); (focus exact fun _ => rfl)) | ((with_reducible refine useF (Time_c) ?_ ?_ ?_); (focus exact rfl); (focus exact rfl)) | ((with_reducible refine useF (PlainTime_c _) ?_ ?_ ?_); (focus exact rfl); (focus exact rfl)) | ((with_reducible refine useN (Few_c (by omega) (by omega) hxd) ?_ ?_ ?_); (focus exact rfl); (focus exact fun _ => rfl)) | ((with_reducible refine useN (hnc) ?_ ?_ ?_); (focus exact rfl); (focus exact fun _ => rfl)) | ((with_reducible refine useN (putR_c (t := t) (by omega) (by omega) hup (by first | omega | exact Nat.le_trans (hgd _) (by decide) | exact Nat.le_trans (List.length_take_le ..) (by decide))) ?_ ?_ ?_); (focus exact rfl); (focus exact fun _ => rfl)) | ((with_reducible refine useN (moveR_c (t := t) (by omega) (by omega) (by first | omega | exact Nat.le_trans (pathF_len _) (by decide)) huq) ?_ ?_ ?_); (focus exact rfl); (focus exact fun _ => rfl)) | with_reducible refine vcond_split (fun _ => ?_) (fun _ => ?_) | with_reducible refine vg_split (fun _ => ?_) (fun _ => ?_) | ((with_reducible apply DCalls.frz); (focus exact rfl); (focus exact rfl)) | ((with_reducible refine And.intro ?_ ?_); (focus (first | omega | decide | assumption | (simp only [decide_eq_true_eq, decide_eq_false_iff_not] at *; omega)))))
      all_goals rename_i hb
      all_goals first
        | (refine qr_n (i + 1, _) ⟨?_, ht.put ?_ (eq_of_beq hb)⟩ ?_ (weak_mk rfl rfl rfl ?_) <;> first | omega | (simp only; omega; done) | exact hgt _ | exact bitsF_lt (timeF_lt hxx) | (simp [wk_cons, wk_nil, look_cons, closedD, closedC, renT, renD, renC, encT_nil, encS_nil, encC_nil]; done))
        | (refine qr_n (i + 1, _) ⟨?_, ht.move (eq_of_beq hb)⟩ ?_ (weak_mk rfl rfl rfl ?_) <;> first | omega | (simp only; omega; done) | exact hgt _ | exact bitsF_lt (timeF_lt hxx) | (simp [wk_cons, wk_nil, look_cons, closedD, closedC, renT, renD, renC, encT_nil, encS_nil, encC_nil]; done))
        | (refine qr_n (i + 1, t) ⟨?_, ht⟩ ?_ (weak_mk rfl rfl rfl ?_) <;> first | omega | (simp only; omega; done) | exact hgt _ | exact bitsF_lt (timeF_lt hxx) | (simp [wk_cons, wk_nil, look_cons, closedD, closedC, renT, renD, renC, encT_nil, encS_nil, encC_nil]; done))
        | (refine qr_n (i + 1, removeR t y.p) ⟨?_, ht.remove y.p⟩ ?_ (weak_mk rfl rfl rfl ?_) <;> first | omega | (simp only; omega; done) | exact hgt _ | exact bitsF_lt (timeF_lt hxx) | (simp [wk_cons, wk_nil, look_cons, closedD, closedC, renT, renD, renC, encT_nil, encS_nil, encC_nil]; done))
        | (refine qr_n (i + 1, removeR t (pathF x.at')) ⟨?_, ht.remove (pathF x.at')⟩ ?_ (weak_mk rfl rfl rfl ?_) <;> first | omega | (simp only; omega; done) | exact hgt _ | exact bitsF_lt (timeF_lt hxx) | (simp [wk_cons, wk_nil, look_cons, closedD, closedC, renT, renD, renC, encT_nil, encS_nil, encC_nil]; done))
        | exact ⟨t, ht, rfl⟩
    · have h2 : decide ((0 : Int) < (t.length : Int)) = false := decide_eq_false (by omega)
      clear hj
      repeat' (first | simp (maxSteps := 1000000) only [*, go_sem, Nat.reduceLT, Nat.reduceLeDiff, Nat.reduceEqDiff, ↓reduceIte, Nat.reduceAdd, Nat.reduceSub, Nat.reduceMul, Int.reduceLT, Int.reduceLE, Int.reduceAdd, Int.reduceSub, Int.reduceMul, Int.reduceNeg, Int.reduceToNat, Int.reduceEq, Int.reduceBEq, Int.reduceBNe, Nat.reduceBEq, beq_self_eq_true, bne_self_eq_false] | ((with_reducible refine useF (Path_c) ?_ ?_ ?_); (focus exact rfl); (focus exact rfl)) | ((with_reducible refine useF (Pick_c (by omega) (by omega)) ?_ ?_ ?_); (focus exact rfl); (focus exact rfl)) | ((with_reducible refine useN (getR_c (t := t) (by omega)) ?_ ?_ ?_); (focus exact rfl); (focus exact fun _ => rfl)) | ((with_reducible refine useN (removeR_c (t := t) (by omega) (by omega) hup) ?_ ?_ ?_); (focus exact rfl); (focus exact fun _ => rfl)) | ((with_reducible refine useF (Time_c) ?_ ?_ ?_); (focus exact rfl); (focus exact rfl)) | ((with_reducible refine useF (PlainTime_c _) ?_ ?_ ?_); (focus exact rfl); (focus exact rfl)) | ((with_reducible refine useN (Few_c (by omega) (by omega) hxd) ?_ ?_ ?_); (focus exact rfl); (focus exact fun _ => rfl)) | ((with_reducible refine useN (hnc) ?_ ?_ ?_); (focus exact rfl); (focus exact fun _ => rfl)) | ((with_reducible refine useN (putR_c (t := t) (by omega) (by omega) hup (by first | omega | exact Nat.le_trans (hgd _) (by decide) | exact Nat.le_trans (List.length_take_le ..) (by decide))) ?_ ?_ ?_); (focus exact rfl); (focus exact fun _ => rfl)) | ((with_reducible refine useN (moveR_c (t := t) (by omega) (by omega) (by first | omega | exact Nat.le_trans (pathF_len _) (by decide)) huq) ?_ ?_ ?_); (focus exact rfl); (focus exact fun _ => rfl)) | with_reducible refine vcond_split (fun _ => ?_) (fun _ => ?_) | with_reducible refine vg_split (fun _ => ?_) (fun _ => ?_) | ((with_reducible apply DCalls.frz); (focus exact rfl); (focus exact rfl)) | ((with_reducible refine And.intro ?_ ?_); (focus (first | omega | decide | assumption | (simp only [decide_eq_true_eq, decide_eq_false_iff_not] at *; omega)))))
      all_goals rename_i hb
      all_goals first
        | (refine qr_n (i + 1, _) ⟨?_, ht.put ?_ (eq_of_beq hb)⟩ ?_ (weak_mk rfl rfl rfl ?_) <;> first | omega | (simp only; omega; done) | exact hgt _ | exact bitsF_lt (timeF_lt hxx) | (simp [wk_cons, wk_nil, look_cons, closedD, closedC, renT, renD, renC, encT_nil, encS_nil, encC_nil]; done))
        | (refine qr_n (i + 1, _) ⟨?_, ht.move (eq_of_beq hb)⟩ ?_ (weak_mk rfl rfl rfl ?_) <;> first | omega | (simp only; omega; done) | exact hgt _ | exact bitsF_lt (timeF_lt hxx) | (simp [wk_cons, wk_nil, look_cons, closedD, closedC, renT, renD, renC, encT_nil, encS_nil, encC_nil]; done))
        | (refine qr_n (i + 1, t) ⟨?_, ht⟩ ?_ (weak_mk rfl rfl rfl ?_) <;> first | omega | (simp only; omega; done) | exact hgt _ | exact bitsF_lt (timeF_lt hxx) | (simp [wk_cons, wk_nil, look_cons, closedD, closedC, renT, renD, renC, encT_nil, encS_nil, encC_nil]; done))
        | (refine qr_n (i + 1, removeR t (pathF x.at')) ⟨?_, ht.remove (pathF x.at')⟩ ?_ (weak_mk rfl rfl rfl ?_) <;> first | omega | (simp only; omega; done) | exact hgt _ | exact bitsF_lt (timeF_lt hxx) | (simp [wk_cons, wk_nil, look_cons, closedD, closedC, renT, renD, renC, encT_nil, encS_nil, encC_nil]; done))
        | exact ⟨t, ht, rfl⟩
  · have h1 : decide ((i : Int) < (l.length : Int)) = false := decide_eq_false (by omega)
    repeat' (first | simp (maxSteps := 1000000) only [*, go_sem, Nat.reduceLT, Nat.reduceLeDiff, Nat.reduceEqDiff, ↓reduceIte, Nat.reduceAdd, Nat.reduceSub, Nat.reduceMul, Int.reduceLT, Int.reduceLE, Int.reduceAdd, Int.reduceSub, Int.reduceMul, Int.reduceNeg, Int.reduceToNat, Int.reduceEq, Int.reduceBEq, Int.reduceBNe, Nat.reduceBEq, beq_self_eq_true, bne_self_eq_false] | with_reducible refine vcond_split (fun _ => ?_) (fun _ => ?_) | with_reducible refine vg_split (fun _ => ?_) (fun _ => ?_) | ((with_reducible apply DCalls.frz); (focus exact rfl); (focus exact rfl)) | ((with_reducible refine And.intro ?_ ?_); (focus (first | omega | decide | assumption | (simp only [decide_eq_true_eq, decide_eq_false_iff_not] at *; omega)))))
    exact ⟨t, ht, rfl⟩

end Go.Proofs.YtfiopamaiolfhaaGreatDoor
