/-
  Chapter 14's law: folded to one layer less, and then that one over it, it is the whole; a layer without entries shows what is below it.
-/
import Derived.Test.YtfiopamaiolfhaaGreatDoorN18
import Derived.Test.YtfiopamaiolfhaaGreatDoorN16
import Derived.Test.YtfiopamaiolfhaaGreatDoorG5
import Derived.Test.YtfiopamaiolfhaaGreatDoorC6
import Derived.Test.YtfiopamaiolfhaaGreatDoorLK
set_option linter.unusedSimpArgs false
set_option linter.unusedVariables false
namespace Go.Proofs.YtfiopamaiolfhaaGreatDoor
open Go Go.Dm Go.Proofs
set_option maxRecDepth 100000
set_option maxHeartbeats 8000000

theorem pickY_c {n m : Int} (hm : 0 < m) (hm2 : m ≤ 9223372036854775807) : DCalls Tryz.prog 14 [.c (.p (.i .i64 n)), .c (.p (.i .i64 m))] [] fun r h => ∃ k : Nat, (k : Int) < m ∧ r = .c (.p (.i .i64 k)) ∧ h = [] :=
  (Pick_c hm hm2).mono fun d h ⟨h1, h2⟩ => by
    have e1 := Int.emod_nonneg n (show m ≠ 0 by omega)
    have e2 := Int.emod_lt_of_pos n hm
    exact ⟨(n % m).toNat, by omega, by rw [h1]; congr 4; omega, h2⟩

theorem chainSteps_law {l : List (List RI)} {u : List (List RU)} {at_ : Int} (hl : smallII l) (hu : smallUU u) :
    DCalls Tryz.prog 5 [.c (.p (.sl 1 (encII l))), .c (.p (.sl 1 (encUU u))), .c (.p (.i .i64 at_))] [] fun r h => r = .c (.p (.b true)) ∧ h = [] := by
  refine entS tabOK Tryz.func5 rfl rfl fun X0 hX => ?_
  simp only [Tryz.ntmps5, Tryz.f5, go_sem]
  refine swp_first tabOK hmix ?_
  repeat' (first | simp (maxSteps := 1000000) only [*, go_sem, Nat.reduceLT, Nat.reduceLeDiff, Nat.reduceEqDiff, ↓reduceIte, Nat.reduceAdd, Nat.reduceSub, Nat.reduceMul, Int.reduceLT, Int.reduceLE, Int.reduceAdd, Int.reduceSub, Int.reduceMul, Int.reduceNeg, Int.reduceToNat, Int.reduceEq, Int.reduceBEq, Int.reduceBNe, Nat.reduceBEq, beq_self_eq_true, bne_self_eq_false] | with_reducible refine vcond_split (fun _ => ?_) (fun _ => ?_) | with_reducible refine vg_split (fun _ => ?_) (fun _ => ?_) | ((with_reducible apply DCalls.frz); (focus exact rfl); (focus exact rfl)) | ((with_reducible refine And.intro ?_ ?_); (focus (first | omega | decide | assumption | (simp only [decide_eq_true_eq, decide_eq_false_iff_not] at *; omega)))))
  refine swp_first tabOK hmix ?_
  repeat' (first | simp (maxSteps := 1000000) only [*, go_sem, Nat.reduceLT, Nat.reduceLeDiff, Nat.reduceEqDiff, ↓reduceIte, Nat.reduceAdd, Nat.reduceSub, Nat.reduceMul, Int.reduceLT, Int.reduceLE, Int.reduceAdd, Int.reduceSub, Int.reduceMul, Int.reduceNeg, Int.reduceToNat, Int.reduceEq, Int.reduceBEq, Int.reduceBNe, Nat.reduceBEq, beq_self_eq_true, bne_self_eq_false] | with_reducible refine vcond_split (fun _ => ?_) (fun _ => ?_) | with_reducible refine vg_split (fun _ => ?_) (fun _ => ?_) | ((with_reducible apply DCalls.frz); (focus exact rfl); (focus exact rfl)) | ((with_reducible refine And.intro ?_ ?_); (focus (first | omega | decide | assumption | (simp only [decide_eq_true_eq, decide_eq_false_iff_not] at *; omega)))))
  refine useNE (C := fun ts : List (List It) => ts.length ≤ 6 ∧ ∀ t ∈ ts, OkT t) (e := fun ts => .tup [.c (.p (.sl 1 (encL (mksF [] ts)))), .c (.p (.sl 1 (encTs ts)))]) (layers_c hl hu) rfl (fun _ _ _ => rfl) fun ts hts => ?_
  obtain ⟨htl, hok⟩ := hts
  have hxl := mksF_len ts []
  have hxo := mksF_ok OkT.nil hok
  have hfm := fold_mks (ws := ts) OkT.nil hok
  have hfo := chainFold_c (ls := mksF [] ts) (by omega) hxo
  rw [hfm] at hfo
  simp only at hfo
  clear hl hu hfm
  repeat' (first | simp (maxSteps := 1000000) only [*, go_sem, Nat.reduceLT, Nat.reduceLeDiff, Nat.reduceEqDiff, ↓reduceIte, Nat.reduceAdd, Nat.reduceSub, Nat.reduceMul, Int.reduceLT, Int.reduceLE, Int.reduceAdd, Int.reduceSub, Int.reduceMul, Int.reduceNeg, Int.reduceToNat, Int.reduceEq, Int.reduceBEq, Int.reduceBNe, Nat.reduceBEq, beq_self_eq_true, bne_self_eq_false] | with_reducible refine vcond_split (fun _ => ?_) (fun _ => ?_) | with_reducible refine vg_split (fun _ => ?_) (fun _ => ?_) | ((with_reducible apply DCalls.frz); (focus exact rfl); (focus exact rfl)) | ((with_reducible refine And.intro ?_ ?_); (focus (first | omega | decide | assumption | (simp only [decide_eq_true_eq, decide_eq_false_iff_not] at *; omega)))))
  refine swp_first tabOK hmix ?_
  repeat' (first | simp (maxSteps := 1000000) only [*, go_sem, Nat.reduceLT, Nat.reduceLeDiff, Nat.reduceEqDiff, ↓reduceIte, Nat.reduceAdd, Nat.reduceSub, Nat.reduceMul, Int.reduceLT, Int.reduceLE, Int.reduceAdd, Int.reduceSub, Int.reduceMul, Int.reduceNeg, Int.reduceToNat, Int.reduceEq, Int.reduceBEq, Int.reduceBNe, Nat.reduceBEq, beq_self_eq_true, bne_self_eq_false] | ((with_reducible refine useN (hfo) ?_ ?_ ?_); (focus exact rfl); (focus exact fun _ => rfl)) | with_reducible refine vcond_split (fun _ => ?_) (fun _ => ?_) | with_reducible refine vg_split (fun _ => ?_) (fun _ => ?_) | ((with_reducible apply DCalls.frz); (focus exact rfl); (focus exact rfl)) | ((with_reducible refine And.intro ?_ ?_); (focus (first | omega | decide | assumption | (simp only [decide_eq_true_eq, decide_eq_false_iff_not] at *; omega)))))
  refine swp_first tabOK hmix ?_
  repeat' (first | simp (maxSteps := 1000000) only [*, go_sem, Nat.reduceLT, Nat.reduceLeDiff, Nat.reduceEqDiff, ↓reduceIte, Nat.reduceAdd, Nat.reduceSub, Nat.reduceMul, Int.reduceLT, Int.reduceLE, Int.reduceAdd, Int.reduceSub, Int.reduceMul, Int.reduceNeg, Int.reduceToNat, Int.reduceEq, Int.reduceBEq, Int.reduceBNe, Nat.reduceBEq, beq_self_eq_true, bne_self_eq_false, Bool.not_true, Bool.not_false] | ((with_reducible refine useF (known14_c) ?_ ?_ ?_); (focus exact rfl); (focus exact rfl)) | with_reducible refine vcond_split (fun _ => ?_) (fun _ => ?_) | with_reducible refine vg_split (fun _ => ?_) (fun _ => ?_) | ((with_reducible apply DCalls.frz); (focus exact rfl); (focus exact rfl)) | ((with_reducible refine And.intro ?_ ?_); (focus (first | omega | decide | assumption | (simp only [decide_eq_true_eq, decide_eq_false_iff_not] at *; omega)))))
  clear hfo
  have w0 : IntKind.i64.wrap ((ts.length : Int) + 1) = (ts.length : Int) + 1 := wrap_i64 (by omega) (by omega)
  refine swp_first tabOK hmix ?_
  repeat' (first | simp (maxSteps := 1000000) only [*, go_sem, Nat.reduceLT, Nat.reduceLeDiff, Nat.reduceEqDiff, ↓reduceIte, Nat.reduceAdd, Nat.reduceSub, Nat.reduceMul, Int.reduceLT, Int.reduceLE, Int.reduceAdd, Int.reduceSub, Int.reduceMul, Int.reduceNeg, Int.reduceToNat, Int.reduceEq, Int.reduceBEq, Int.reduceBNe, Nat.reduceBEq, beq_self_eq_true, bne_self_eq_false] | with_reducible refine vcond_split (fun _ => ?_) (fun _ => ?_) | with_reducible refine vg_split (fun _ => ?_) (fun _ => ?_) | ((with_reducible apply DCalls.frz); (focus exact rfl); (focus exact rfl)) | ((with_reducible refine And.intro ?_ ?_); (focus (first | omega | decide | assumption | (simp only [decide_eq_true_eq, decide_eq_false_iff_not] at *; omega)))))
  refine useFE (C := fun k : Nat => (k : Int) < (ts.length : Int) + 1) (e := fun k => .c (.p (.i .i64 k))) (pickY_c (by omega) (by omega)) rfl (fun _ _ => rfl) fun k hk => ?_
  repeat' (first | simp (maxSteps := 1000000) only [*, go_sem, Nat.reduceLT, Nat.reduceLeDiff, Nat.reduceEqDiff, ↓reduceIte, Nat.reduceAdd, Nat.reduceSub, Nat.reduceMul, Int.reduceLT, Int.reduceLE, Int.reduceAdd, Int.reduceSub, Int.reduceMul, Int.reduceNeg, Int.reduceToNat, Int.reduceEq, Int.reduceBEq, Int.reduceBNe, Nat.reduceBEq, beq_self_eq_true, bne_self_eq_false] | with_reducible refine vcond_split (fun _ => ?_) (fun _ => ?_) | with_reducible refine vg_split (fun _ => ?_) (fun _ => ?_) | ((with_reducible apply DCalls.frz); (focus exact rfl); (focus exact rfl)) | ((with_reducible refine And.intro ?_ ?_); (focus (first | omega | decide | assumption | (simp only [decide_eq_true_eq, decide_eq_false_iff_not] at *; omega)))))
  have hk0 : (0 : Int) ≤ k := by omega
  have hk1 : (k : Int) ≤ (ts.length : Int) := by omega
  have hkn : k ≤ ts.length := by omega
  have hfk := fold_mks (ws := ts.take k) OkT.nil fun w h => hok w (List.mem_of_mem_take h)
  have hck := chainFold_c (ls := mksF [] (ts.take k)) (by rw [mksF_len, List.length_take]; omega) (mksF_ok OkT.nil fun w h => hok w (List.mem_of_mem_take h))
  rw [hfk, ← mksF_take] at hck
  simp only at hck
  clear hfk
  refine swp_first tabOK hmix ?_
  repeat' (first | simp (maxSteps := 1000000) only [*, go_sem, Nat.reduceLT, Nat.reduceLeDiff, Nat.reduceEqDiff, ↓reduceIte, Nat.reduceAdd, Nat.reduceSub, Nat.reduceMul, Int.reduceLT, Int.reduceLE, Int.reduceAdd, Int.reduceSub, Int.reduceMul, Int.reduceNeg, Int.reduceToNat, Int.reduceEq, Int.reduceBEq, Int.reduceBNe, Nat.reduceBEq, beq_self_eq_true, bne_self_eq_false, encL_take] | ((with_reducible refine useN (hck) ?_ ?_ ?_); (focus exact rfl); (focus exact fun _ => rfl)) | with_reducible refine vcond_split (fun _ => ?_) (fun _ => ?_) | with_reducible refine vg_split (fun _ => ?_) (fun _ => ?_) | ((with_reducible apply DCalls.frz); (focus exact rfl); (focus exact rfl)) | ((with_reducible refine And.intro ?_ ?_); (focus (first | omega | decide | assumption | (simp only [decide_eq_true_eq, decide_eq_false_iff_not] at *; omega)))))
  clear hck
  refine swp_join tabOK hmix (α := Unit) (fun _ => ⟨95, [(7, .c (.p (.sl 1 (encL (mksF [] ts))))), (9, .c (.p (.sl 5 (encT (lastT [] ts))))), (11, .c (.p (.i .i64 k))), (12, .c (.p (.sl 5 (encT (lastT [] ts))))), (13, .c (.p (.b true)))], []⟩) (fun _ => True) ?_ ?_
  · repeat' (first | simp (maxSteps := 1000000) only [*, go_sem, Nat.reduceLT, Nat.reduceLeDiff, Nat.reduceEqDiff, ↓reduceIte, Nat.reduceAdd, Nat.reduceSub, Nat.reduceMul, Int.reduceLT, Int.reduceLE, Int.reduceAdd, Int.reduceSub, Int.reduceMul, Int.reduceNeg, Int.reduceToNat, Int.reduceEq, Int.reduceBEq, Int.reduceBNe, Nat.reduceBEq, beq_self_eq_true, bne_self_eq_false] | with_reducible refine vcond_split (fun _ => ?_) (fun _ => ?_) | with_reducible refine vg_split (fun _ => ?_) (fun _ => ?_) | ((with_reducible apply DCalls.frz); (focus exact rfl); (focus exact rfl)) | ((with_reducible refine And.intro ?_ ?_); (focus (first | omega | decide | assumption | (simp only [decide_eq_true_eq, decide_eq_false_iff_not] at *; omega)))))
    refine loop_renS (α := Nat) (fun i => ⟨95, [(7, .c (.p (.sl 1 (encL (mksF [] ts))))), (9, .c (.p (.sl 5 (encT (lastT [] ts))))), (11, .c (.p (.i .i64 k))), (12, .c (.p (.sl 5 (encT (lastT [] (ts.take i)))))), (13, .c (.p (.b true))), (14, .c (.p (.i .i64 i)))], []⟩)
      (fun i => i ≤ ts.length) (fun i => ts.length - i) k hkn (.inl (weak_mk (by rw [hX]; rfl) rfl rfl (by simp [wk_cons, wk_nil, look_cons, closedD, closedC, renT, renD, renC, encT_nil, encS_nil, encC_nil]))) ?_
    intro i hi
    by_cases hlt : i < ts.length
    · have hx : ts[i]? = some ts[i] := List.getElem?_eq_getElem hlt
      have hw := hok _ (List.getElem_mem hlt)
      have hm := mksF_at (t := []) hx
      have hg := encL_at hm
      have hto := lastT_ok OkT.nil (ws := ts.take i) fun w h => hok w (List.mem_of_mem_take h)
      have hov := layerOver_c hto (make_ok hto hw)
      rw [over_make hto hw] at hov
      simp only at hov
      have hnx := lastT_take (t := []) hx
      have h1 : decide ((i : Int) < (ts.length : Int)) = true := decide_eq_true (by omega)
      have hli : (i : Int) < (ts.length : Int) := by omega
      have hi0 : (0 : Int) ≤ i := by omega
      have w1 : IntKind.i64.wrap ((i : Int) + 1) = i + 1 := wrap_i64 (by omega) (by omega)
      generalize ts[i] = w at hx hw hm hg hov hnx
      generalize makeF (lastT [] (ts.take i)) w = e at hm hg hov
      generalize lastT [] (ts.take i) = v at hov hto ⊢
      have hN := PLift.up hnx
      clear hx hw hm hto hok hxo hnx
      refine swp_vc tabOK hmix ?_
      repeat' (first | simp (maxSteps := 1000000) only [*, go_sem, Nat.reduceLT, Nat.reduceLeDiff, Nat.reduceEqDiff, ↓reduceIte, Nat.reduceAdd, Nat.reduceSub, Nat.reduceMul, Int.reduceLT, Int.reduceLE, Int.reduceAdd, Int.reduceSub, Int.reduceMul, Int.reduceNeg, Int.reduceToNat, Int.reduceEq, Int.reduceBEq, Int.reduceBNe, Nat.reduceBEq, beq_self_eq_true, bne_self_eq_false] | ((with_reducible refine useN (hov) ?_ ?_ ?_); (focus exact rfl); (focus exact fun _ => rfl)) | with_reducible refine vcond_split (fun _ => ?_) (fun _ => ?_) | with_reducible refine vg_split (fun _ => ?_) (fun _ => ?_) | ((with_reducible apply DCalls.frz); (focus exact rfl); (focus exact rfl)) | ((with_reducible refine And.intro ?_ ?_); (focus (first | omega | decide | assumption | (simp only [decide_eq_true_eq, decide_eq_false_iff_not] at *; omega)))))
      exact qr_n (i + 1) (by omega) (by omega) (weak_mk rfl rfl rfl (by simp [wk_cons, wk_nil, look_cons, closedD, closedC, hN.down]))
    · have h1 : decide ((i : Int) < (ts.length : Int)) = false := decide_eq_false (by omega)
      have hla := lastT_all (Nat.le_of_not_lt hlt) []
      have hN := PLift.up hla
      clear hok hxo hla
      refine swp_first tabOK hmix ?_
      repeat' (first | simp (maxSteps := 1000000) only [*, go_sem, Nat.reduceLT, Nat.reduceLeDiff, Nat.reduceEqDiff, ↓reduceIte, Nat.reduceAdd, Nat.reduceSub, Nat.reduceMul, Int.reduceLT, Int.reduceLE, Int.reduceAdd, Int.reduceSub, Int.reduceMul, Int.reduceNeg, Int.reduceToNat, Int.reduceEq, Int.reduceBEq, Int.reduceBNe, Nat.reduceBEq, beq_self_eq_true, bne_self_eq_false] | with_reducible refine vcond_split (fun _ => ?_) (fun _ => ?_) | with_reducible refine vg_split (fun _ => ?_) (fun _ => ?_) | ((with_reducible apply DCalls.frz); (focus exact rfl); (focus exact rfl)) | ((with_reducible refine And.intro ?_ ?_); (focus (first | omega | decide | assumption | (simp only [decide_eq_true_eq, decide_eq_false_iff_not] at *; omega)))))
      exact qj_n () trivial (weak_mk (by rw [hX]; rfl) rfl rfl (by simp [wk_cons, wk_nil, look_cons, closedD, closedC, hN.down]))
  rintro - -
  have hbl := fold_blank hok k hkn
  have hw := lastT_ok OkT.nil hok
  have hbo : ∀ y ∈ (mksF [] ts).take k ++ [[]] ++ (mksF [] ts).drop k, OkE y := fun y hy => by
    rcases List.mem_append.1 hy with hy | hy
    · rcases List.mem_append.1 hy with hy | hy
      · exact hxo y (List.mem_of_mem_take hy)
      · rw [List.mem_singleton.1 hy]; exact OkE.nil
    · exact hxo y (List.mem_of_mem_drop hy)
  rw [← hxl] at hkn htl hk1
  try simp only [← hxl]
  generalize mksF [] ts = ls at *
  generalize lastT [] ts = w at *
  have hbf := DCalls.wkQ1 (blank_wk ls k) (chainFold_c (ls := ls.take k ++ [[]] ++ ls.drop k) (by simp only [List.length_append, List.length_take, List.length_drop, List.length_singleton]; omega) hbo)
  rw [hbl] at hbf
  simp only at hbf
  have hwl := hw.len
  have hsT := sameT_c (a := w) (by omega)
  have hlt : (ls.take k).length = k := by rw [List.length_take]; omega
  have hld : (ls.drop k).length = ls.length - k := List.length_drop
  clear hbl hbo hok hxo hxl
  refine swp_join tabOK hmix (α := Unit) (fun _ => ⟨95, [(9, .c (.p (.sl 5 (encT w)))), (12, .c (.p (.sl 5 (encT w)))), (13, .c (.p (.b true))), (15, .c (.p (.sl 1 (blankR ls k))))], []⟩) (fun _ => True) ?_ ?_
  · have hkm : min k ls.length = k := Nat.min_eq_left hkn
    have hb1 : (k + 1) * 24 ≤ 140737488355328 := by omega
    have hb2 : (k + 1 + (ls.length - k)) * 24 ≤ 140737488355328 := by omega
    have hb3 : k + 1 ≤ 9223372036854775807 := by omega
    have hb4 : k + 1 + (ls.length - k) ≤ 9223372036854775807 := by omega
    clear hbf hsT
    repeat' (first | simp (maxSteps := 1000000) only [*, go_sem, Nat.reduceLT, Nat.reduceLeDiff, Nat.reduceEqDiff, ↓reduceIte, Nat.reduceAdd, Nat.reduceSub, Nat.reduceMul, Int.reduceLT, Int.reduceLE, Int.reduceAdd, Int.reduceSub, Int.reduceMul, Int.reduceNeg, Int.reduceToNat, Int.reduceEq, Int.reduceBEq, Int.reduceBNe, Nat.reduceBEq, beq_self_eq_true, bne_self_eq_false] | ((refine vc_drawn (id := 11) tabOK hmix [4,5,9] [4,0,1,2,3,5,6,7,8,9,10] (by decide +kernel) ?_); (repeat' (first | (refine ds_nil ?_) | ((refine ds_chg ?_ ?_ rfl rfl rfl ?_ ?_); (rotate_left 2); (focus ((repeat' (first | simp (maxSteps := 1000000) only [*, go_sem, Nat.reduceLT, Nat.reduceLeDiff, Nat.reduceEqDiff, ↓reduceIte, Nat.reduceAdd, Nat.reduceSub, Nat.reduceMul, Int.reduceLT, Int.reduceLE, Int.reduceAdd, Int.reduceSub, Int.reduceMul, Int.reduceNeg, Int.reduceToNat, Int.reduceEq, Int.reduceBEq, Int.reduceBNe, Nat.reduceBEq, beq_self_eq_true, bne_self_eq_false] | with_reducible refine vcond_split (fun _ => ?_) (fun _ => ?_) | with_reducible refine vg_split (fun _ => ?_) (fun _ => ?_) | ((with_reducible apply DCalls.frz); (focus exact rfl); (focus exact rfl)) | ((with_reducible refine And.intro ?_ ?_); (focus (first | omega | decide | assumption | (simp only [decide_eq_true_eq, decide_eq_false_iff_not] at *; omega)))))); (first | exact rfl | (refine And.intro ?_ ?_ <;> exact rfl)))); (simp only [putF_some, putF_none])) | ((refine ds_all ?_ rfl rfl rfl ?_ ?_); (rotate_left 1); (focus ((repeat' (first | exact allH_nil | refine allH_cons ?_ ?_)); (all_goals ((repeat' (first | simp (maxSteps := 1000000) only [*, go_sem, Nat.reduceLT, Nat.reduceLeDiff, Nat.reduceEqDiff, ↓reduceIte, Nat.reduceAdd, Nat.reduceSub, Nat.reduceMul, Int.reduceLT, Int.reduceLE, Int.reduceAdd, Int.reduceSub, Int.reduceMul, Int.reduceNeg, Int.reduceToNat, Int.reduceEq, Int.reduceBEq, Int.reduceBNe, Nat.reduceBEq, beq_self_eq_true, bne_self_eq_false] | with_reducible refine vcond_split (fun _ => ?_) (fun _ => ?_) | with_reducible refine vg_split (fun _ => ?_) (fun _ => ?_) | ((with_reducible apply DCalls.frz); (focus exact rfl); (focus exact rfl)) | ((with_reducible refine And.intro ?_ ?_); (focus (first | omega | decide | assumption | (simp only [decide_eq_true_eq, decide_eq_false_iff_not] at *; omega)))))); (try (first | exact rfl | omega)))))); (simp only [putF_some, putF_none]))))) | with_reducible refine vcond_split (fun _ => ?_) (fun _ => ?_) | with_reducible refine vg_split (fun _ => ?_) (fun _ => ?_) | ((with_reducible apply DCalls.frz); (focus exact rfl); (focus exact rfl)) | ((with_reducible refine And.intro ?_ ?_); (focus (first | omega | decide | assumption | (simp only [decide_eq_true_eq, decide_eq_false_iff_not] at *; omega)))))
    exact qj_data () 15 2 0 (k + 1 + (ls.length - k)) trivial rfl (pvOf_row rfl (by simp only [List.length_append, encL_len, List.length_singleton]; omega)) (weak_mk (by rw [hX]; rfl) rfl rfl (by simp [wk_cons, wk_nil, look_cons, closedD, closedC, blankR]))
  rintro - -
  refine swp_vc tabOK hmix ?_
  repeat' (first | simp (maxSteps := 1000000) only [*, go_sem, Nat.reduceLT, Nat.reduceLeDiff, Nat.reduceEqDiff, ↓reduceIte, Nat.reduceAdd, Nat.reduceSub, Nat.reduceMul, Int.reduceLT, Int.reduceLE, Int.reduceAdd, Int.reduceSub, Int.reduceMul, Int.reduceNeg, Int.reduceToNat, Int.reduceEq, Int.reduceBEq, Int.reduceBNe, Nat.reduceBEq, beq_self_eq_true, bne_self_eq_false] | ((with_reducible refine useN (hbf) ?_ ?_ ?_); (focus exact rfl); (focus exact fun _ => rfl)) | ((with_reducible refine useN (hsT) ?_ ?_ ?_); (focus exact rfl); (focus exact fun _ => rfl)) | with_reducible refine vcond_split (fun _ => ?_) (fun _ => ?_) | with_reducible refine vg_split (fun _ => ?_) (fun _ => ?_) | ((with_reducible apply DCalls.frz); (focus exact rfl); (focus exact rfl)) | ((with_reducible refine And.intro ?_ ?_); (focus (first | omega | decide | assumption | (simp only [decide_eq_true_eq, decide_eq_false_iff_not] at *; omega)))))
end Go.Proofs.YtfiopamaiolfhaaGreatDoor
