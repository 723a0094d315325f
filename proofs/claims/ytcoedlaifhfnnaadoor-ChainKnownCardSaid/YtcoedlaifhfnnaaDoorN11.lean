/-
  Contracts of the program's chains: layers folded.
-/
import Derived.Test.YtcoedlaifhfnnaaDoorN10
import Derived.Test.YtcoedlaifhfnnaaDoorLA
set_option linter.unusedSimpArgs false
set_option linter.unusedVariables false
namespace Go.Proofs.YtcoedlaifhfnnaaDoor
open Go Go.Dm Go.Proofs
set_option maxRecDepth 100000
set_option maxHeartbeats 8000000

theorem chainFold_c {ls : List (List En)} (hls : ls.length ≤ 1000) (h : ∀ l ∈ ls, OkE l) :
    DCalls Tryd.prog 7 [.c (.p (.sl 1 (encL ls)))] [] fun r h => r = .tup [.c (.p (.sl 5 (encT (foldG [] ls).1))), .c (.p (.b (foldG [] ls).2))] ∧ h = [] := by
  refine dcalls_wk ?_
  refine ent tabOK hmix Tryd.func7 rfl rfl fun X0 hX => ?_
  simp only [Tryd.ntmps7, Tryd.f7, go_sem]
  repeat' (first | simp (maxSteps := 1000000) only [*, go_sem, Nat.reduceLT, Nat.reduceLeDiff, Nat.reduceEqDiff, ↓reduceIte, Nat.reduceAdd, Nat.reduceSub, Nat.reduceMul, Int.reduceLT, Int.reduceLE, Int.reduceAdd, Int.reduceSub, Int.reduceMul, Int.reduceNeg, Int.reduceToNat, Int.reduceEq, Int.reduceBEq, Int.reduceBNe, Nat.reduceBEq, beq_self_eq_true, bne_self_eq_false] | with_reducible refine vcond_split (fun _ => ?_) (fun _ => ?_) | with_reducible refine vg_split (fun _ => ?_) (fun _ => ?_) | ((with_reducible apply DCalls.frz); (focus exact rfl); (focus exact rfl)) | ((with_reducible refine And.intro ?_ ?_); (focus (first | omega | decide | assumption | (simp only [decide_eq_true_eq, decide_eq_false_iff_not] at *; omega)))))
  refine vc_sl 4 5 rfl ?_
  refine loop_ren tabOK hmix (α := Nat × List It) (fun x => ⟨25, [(8, .c (.p (.sl 1 (encL ls)))), (9, .c (.p (.i .i64 ls.length))), (10, .c (.p (.i .i64 x.1))), (4, .c (.p (.sl 5 (encT x.2))))], []⟩)
    (fun x => x.1 ≤ ls.length ∧ OkT x.2 ∧ foldG x.2 (ls.drop x.1) = foldG [] ls) (fun x => ls.length - x.1) (0, []) ⟨Nat.zero_le _, OkT.nil, rfl⟩ (.inl (weak_mk (by rw [hX]; rfl) rfl rfl (by simp [wk_cons, wk_nil, look_cons, closedD, closedC, encT_nil, encS_nil, encC_nil]))) ?_
  rintro ⟨k, t⟩ ⟨hk, ht, hf⟩
  simp only at hk ht hf
  by_cases hlt : k < ls.length
  · have hx : ls[k]? = some ls[k] := List.getElem?_eq_getElem hlt
    have hg := encL_at hx
    have hd := drop_at hx
    have h1 : decide ((k : Int) < (ls.length : Int)) = true := decide_eq_true (by omega)
    have w1 : IntKind.i64.wrap ((k : Int) + 1) = k + 1 := wrap_i64 (by omega) (by omega)
    have hl := h _ (List.getElem_mem hlt)
    generalize ls[k] = l at hx hg hd hl
    rw [hd, foldG] at hf
    have hov := layerOver_c ht hl
    have hok := fun h0 => overF_ok ht hl h0
    generalize (overF t l).1 = u at hov hok hf
    generalize (overF t l).2 = b at hov hok hf
    clear hd hx
    cases b
    · rw [if_neg (by decide)] at hf
      rw [← hf]
      clear hf hok
      repeat' (first | simp (maxSteps := 1000000) only [*, go_sem, Nat.reduceLT, Nat.reduceLeDiff, Nat.reduceEqDiff, ↓reduceIte, Nat.reduceAdd, Nat.reduceSub, Nat.reduceMul, Int.reduceLT, Int.reduceLE, Int.reduceAdd, Int.reduceSub, Int.reduceMul, Int.reduceNeg, Int.reduceToNat, Int.reduceEq, Int.reduceBEq, Int.reduceBNe, Nat.reduceBEq, beq_self_eq_true, bne_self_eq_false, Bool.not_true, Bool.not_false] | ((with_reducible refine useN (hov) ?_ ?_ ?_); (focus exact rfl); (focus exact fun _ => rfl)) | with_reducible refine vcond_split (fun _ => ?_) (fun _ => ?_) | with_reducible refine vg_split (fun _ => ?_) (fun _ => ?_) | ((with_reducible apply DCalls.frz); (focus exact rfl); (focus exact rfl)) | ((with_reducible refine And.intro ?_ ?_); (focus (first | omega | decide | assumption | (simp only [decide_eq_true_eq, decide_eq_false_iff_not] at *; omega)))))
      all_goals exact .inr ⟨_, rfl⟩
    · rw [if_pos rfl] at hf
      have hu := hok rfl
      have hF := PLift.up hf
      clear hf hok
      repeat' (first | simp (maxSteps := 1000000) only [*, go_sem, Nat.reduceLT, Nat.reduceLeDiff, Nat.reduceEqDiff, ↓reduceIte, Nat.reduceAdd, Nat.reduceSub, Nat.reduceMul, Int.reduceLT, Int.reduceLE, Int.reduceAdd, Int.reduceSub, Int.reduceMul, Int.reduceNeg, Int.reduceToNat, Int.reduceEq, Int.reduceBEq, Int.reduceBNe, Nat.reduceBEq, beq_self_eq_true, bne_self_eq_false, Bool.not_true, Bool.not_false] | ((with_reducible refine useN (hov) ?_ ?_ ?_); (focus exact rfl); (focus exact fun _ => rfl)) | with_reducible refine vcond_split (fun _ => ?_) (fun _ => ?_) | with_reducible refine vg_split (fun _ => ?_) (fun _ => ?_) | ((with_reducible apply DCalls.frz); (focus exact rfl); (focus exact rfl)) | ((with_reducible refine And.intro ?_ ?_); (focus (first | omega | decide | assumption | (simp only [decide_eq_true_eq, decide_eq_false_iff_not] at *; omega)))))
      exact qr_n (k + 1, u) ⟨by simp only; omega, hu, hF.down⟩ (by simp only; omega) (weak_mk rfl rfl rfl (by simp [wk_cons, wk_nil, look_cons, closedD, closedC, renT, renD, renC, encT_nil, encS_nil, encC_nil]))
  · have h1 : decide ((k : Int) < (ls.length : Int)) = false := decide_eq_false (by omega)
    rw [List.drop_of_length_le (by omega), foldG] at hf
    rw [← hf]
    have hdl : ∀ x ∈ t, x.n.d.length ≤ 140737488355328 := fun x hx => Nat.le_trans (ht.dlen x hx) (by decide)
    have htl := ht.len
    clear hf
    repeat' (first | simp (maxSteps := 1000000) only [*, go_sem, Nat.reduceLT, Nat.reduceLeDiff, Nat.reduceEqDiff, ↓reduceIte, Nat.reduceAdd, Nat.reduceSub, Nat.reduceMul, Int.reduceLT, Int.reduceLE, Int.reduceAdd, Int.reduceSub, Int.reduceMul, Int.reduceNeg, Int.reduceToNat, Int.reduceEq, Int.reduceBEq, Int.reduceBNe, Nat.reduceBEq, beq_self_eq_true, bne_self_eq_false] | refine copyT_k (by omega) hdl ?_ | with_reducible refine vcond_split (fun _ => ?_) (fun _ => ?_) | with_reducible refine vg_split (fun _ => ?_) (fun _ => ?_) | ((with_reducible apply DCalls.frz); (focus exact rfl); (focus exact rfl)) | ((with_reducible refine And.intro ?_ ?_); (focus (first | omega | decide | assumption | (simp only [decide_eq_true_eq, decide_eq_false_iff_not] at *; omega)))))
end Go.Proofs.YtcoedlaifhfnnaaDoor
