/-
  The law of a diff as the document says it, walked.
-/
import Derived.Test.YtomaddpcacoodaaGreatDoorE3
import Derived.Test.YtomaddpcacoodaaGreatDoorD15
import Derived.Test.YtomaddpcacoodaaGreatDoorD17
set_option linter.unusedSimpArgs false
set_option linter.unusedVariables false
namespace Go.Proofs.YtomaddpcacoodaaGreatDoor
open Go Go.Dm
set_option maxRecDepth 100000
set_option maxHeartbeats 4000000

theorem diffTells_c {l l2 : List RI} {ts : List RU} {near : Bool} (hl : l.length ≤ 9223372036854775807) (hd : ∀ x ∈ l, x.n.d.length ≤ 9223372036854775807) (hdx : ∀ x ∈ l, x.n.x < 18446744073709551616)
    (hl3 : l2.length ≤ 9223372036854775807) (hd3 : ∀ x ∈ l2, x.n.d.length ≤ 9223372036854775807) (hdx3 : ∀ x ∈ l2, x.n.x < 18446744073709551616)
    (hl2 : ts.length ≤ 9223372036854775807) (hd2 : ∀ x ∈ ts, x.n.d.length ≤ 9223372036854775807) (hdx2 : ∀ x ∈ ts, x.n.x < 18446744073709551616) :
    DCalls Tryz.prog 9 [.c (.p (.sl 6 (Go.Dm.encI l))), .c (.p (.sl 8 (Go.Dm.encU ts))), .c (.p (.sl 6 (Go.Dm.encI l2))), .c (.p (.b near))] [] fun r h => r = .c (.p (.b true)) ∧ h = [] := by
  refine ent tabOK hmix Tryz.func9 rfl rfl fun X0 hX => ?_
  simp only [Tryz.ntmps9, Tryz.f9, go_sem]
  repeat' (first | simp only [*, go_sem, Nat.reduceLT, Nat.reduceLeDiff, Nat.reduceEqDiff, ↓reduceIte, Nat.reduceAdd, Nat.reduceSub, Nat.reduceMul, Int.reduceLT, Int.reduceLE, Int.reduceAdd, Int.reduceSub, Int.reduceMul, Int.reduceNeg, Int.reduceToNat, Int.reduceEq, Int.reduceBEq, Int.reduceBNe, Nat.reduceBEq, beq_self_eq_true, bne_self_eq_false] | with_reducible refine vcond_split (fun _ => ?_) (fun _ => ?_) | with_reducible refine vg_split (fun _ => ?_) (fun _ => ?_) | ((with_reducible apply DCalls.frz); (focus exact rfl); (focus exact rfl)) | ((with_reducible refine And.intro ?_ ?_); (focus (first | omega | decide | assumption | (simp only [decide_eq_true_eq, decide_eq_false_iff_not] at *; omega)))))
  refine useNE (C := OkT) (e := fun t => .c (.p (.sl 5 (encT t)))) (tree_c hl hd hdx) rfl (fun _ _ _ => rfl) fun a ha => ?_
  repeat' (first | simp only [*, go_sem, Nat.reduceLT, Nat.reduceLeDiff, Nat.reduceEqDiff, ↓reduceIte, Nat.reduceAdd, Nat.reduceSub, Nat.reduceMul, Int.reduceLT, Int.reduceLE, Int.reduceAdd, Int.reduceSub, Int.reduceMul, Int.reduceNeg, Int.reduceToNat, Int.reduceEq, Int.reduceBEq, Int.reduceBNe, Nat.reduceBEq, beq_self_eq_true, bne_self_eq_false] | with_reducible refine vcond_split (fun _ => ?_) (fun _ => ?_) | with_reducible refine vg_split (fun _ => ?_) (fun _ => ?_) | ((with_reducible apply DCalls.frz); (focus exact rfl); (focus exact rfl)) | ((with_reducible refine And.intro ?_ ?_); (focus (first | omega | decide | assumption | (simp only [decide_eq_true_eq, decide_eq_false_iff_not] at *; omega)))))
  refine useNE (C := OkT) (e := fun t => .c (.p (.sl 5 (encT t)))) (tree_c hl3 hd3 hdx3) rfl (fun _ _ _ => rfl) fun b hb => ?_
  cases near
  · have hal := ha.len
    have hbl := hb.len
    have hab := diff_c ha hb
    have hrd := refDiff_c ha hb
    rw [refDiff_eq ha hb] at hrd
    have hcl := diffF_len a b
    have dl : ∀ x ∈ diffF a b, x.o.d.length ≤ 140737488355328 ∧ x.n.d.length ≤ 140737488355328 := fun x hx => by
      obtain ⟨h1, h2⟩ := diffF_nodes hx
      rw [h1, h2]
      exact ⟨Nat.le_trans (ha.getd _) (by decide), Nat.le_trans (hb.getd _) (by decide)⟩
    have hbk := back_c (l := diffF a b) (by omega) dl
    have hrb := refBack_c (l := diffF a b) (by omega)
    have hs := diffSame_c (a := diffF a b) (b := diffF a b) (by omega) (by omega)
    rw [sameCs_refl fun x hx => diffF_wf ha hb hx] at hs
    have hsc1 := sameChanges_c (a := diffF a b) (by omega)
    have hsc2 := sameChanges_c (a := (diffF a b).map backC) (by rw [List.length_map]; omega)
    have hrt := diffRight_c (l := diffF a b) (by omega) (diffF_may ha hb) (diffF_srt a b) (fun x hx => ⟨Nat.le_trans (isPathR_len (by have := diffF_may ha hb x hx; simp only [mayC, Bool.and_eq_true] at this; exact this.1.1.1.1.1.1.2)) (by decide), (diffF_wf ha hb hx).1, (diffF_wf ha hb hx).2⟩)
    generalize hm : (diffF a b).map backC = cs2 at *
    generalize diffF a b = cs at *
    clear dl hm
    repeat' (first | simp only [*, go_sem, Nat.reduceLT, Nat.reduceLeDiff, Nat.reduceEqDiff, ↓reduceIte, Nat.reduceAdd, Nat.reduceSub, Nat.reduceMul, Int.reduceLT, Int.reduceLE, Int.reduceAdd, Int.reduceSub, Int.reduceMul, Int.reduceNeg, Int.reduceToNat, Int.reduceEq, Int.reduceBEq, Int.reduceBNe, Nat.reduceBEq, beq_self_eq_true, bne_self_eq_false] | ((with_reducible refine useN (hab) ?_ ?_ ?_); (focus exact rfl); (focus exact fun _ => rfl)) | ((with_reducible refine useN (hrd) ?_ ?_ ?_); (focus exact rfl); (focus exact fun _ => rfl)) | ((with_reducible refine useN (hbk) ?_ ?_ ?_); (focus exact rfl); (focus exact fun _ => rfl)) | ((with_reducible refine useN (hrb) ?_ ?_ ?_); (focus exact rfl); (focus exact fun _ => rfl)) | ((with_reducible refine useF (hs) ?_ ?_ ?_); (focus exact rfl); (focus exact rfl)) | ((with_reducible refine useF (hsc1) ?_ ?_ ?_); (focus exact rfl); (focus exact rfl)) | ((with_reducible refine useF (hsc2) ?_ ?_ ?_); (focus exact rfl); (focus exact rfl)) | ((with_reducible refine useF (hrt) ?_ ?_ ?_); (focus exact rfl); (focus exact rfl)) | ((with_reducible refine useF (known17_c) ?_ ?_ ?_); (focus exact rfl); (focus exact rfl)) | with_reducible refine vcond_split (fun _ => ?_) (fun _ => ?_) | with_reducible refine vg_split (fun _ => ?_) (fun _ => ?_) | ((with_reducible apply DCalls.frz); (focus exact rfl); (focus exact rfl)) | ((with_reducible refine And.intro ?_ ?_); (focus (first | omega | decide | assumption | (simp only [decide_eq_true_eq, decide_eq_false_iff_not] at *; omega)))))
  · repeat' (first | simp only [*, go_sem, Nat.reduceLT, Nat.reduceLeDiff, Nat.reduceEqDiff, ↓reduceIte, Nat.reduceAdd, Nat.reduceSub, Nat.reduceMul, Int.reduceLT, Int.reduceLE, Int.reduceAdd, Int.reduceSub, Int.reduceMul, Int.reduceNeg, Int.reduceToNat, Int.reduceEq, Int.reduceBEq, Int.reduceBNe, Nat.reduceBEq, beq_self_eq_true, bne_self_eq_false] | with_reducible refine vcond_split (fun _ => ?_) (fun _ => ?_) | with_reducible refine vg_split (fun _ => ?_) (fun _ => ?_) | ((with_reducible apply DCalls.frz); (focus exact rfl); (focus exact rfl)) | ((with_reducible refine And.intro ?_ ?_); (focus (first | omega | decide | assumption | (simp only [decide_eq_true_eq, decide_eq_false_iff_not] at *; omega)))))
    refine useNE (C := OkT) (e := fun t => .c (.p (.sl 5 (encT t)))) (turned_c ha hl2 hd2 hdx2) rfl (fun _ _ _ => rfl) fun c hc => ?_
    clear hb
    have hb := hc
    clear hc
    have hal := ha.len
    have hbl := hb.len
    have hab := diff_c ha hb
    have hrd := refDiff_c ha hb
    rw [refDiff_eq ha hb] at hrd
    have hcl := diffF_len a c
    have dl : ∀ x ∈ diffF a c, x.o.d.length ≤ 140737488355328 ∧ x.n.d.length ≤ 140737488355328 := fun x hx => by
      obtain ⟨h1, h2⟩ := diffF_nodes hx
      rw [h1, h2]
      exact ⟨Nat.le_trans (ha.getd _) (by decide), Nat.le_trans (hb.getd _) (by decide)⟩
    have hbk := back_c (l := diffF a c) (by omega) dl
    have hrb := refBack_c (l := diffF a c) (by omega)
    have hs := diffSame_c (a := diffF a c) (b := diffF a c) (by omega) (by omega)
    rw [sameCs_refl fun x hx => diffF_wf ha hb hx] at hs
    have hsc1 := sameChanges_c (a := diffF a c) (by omega)
    have hsc2 := sameChanges_c (a := (diffF a c).map backC) (by rw [List.length_map]; omega)
    have hrt := diffRight_c (l := diffF a c) (by omega) (diffF_may ha hb) (diffF_srt a c) (fun x hx => ⟨Nat.le_trans (isPathR_len (by have := diffF_may ha hb x hx; simp only [mayC, Bool.and_eq_true] at this; exact this.1.1.1.1.1.1.2)) (by decide), (diffF_wf ha hb hx).1, (diffF_wf ha hb hx).2⟩)
    generalize hm : (diffF a c).map backC = cs2 at *
    generalize diffF a c = cs at *
    clear dl hm
    repeat' (first | simp only [*, go_sem, Nat.reduceLT, Nat.reduceLeDiff, Nat.reduceEqDiff, ↓reduceIte, Nat.reduceAdd, Nat.reduceSub, Nat.reduceMul, Int.reduceLT, Int.reduceLE, Int.reduceAdd, Int.reduceSub, Int.reduceMul, Int.reduceNeg, Int.reduceToNat, Int.reduceEq, Int.reduceBEq, Int.reduceBNe, Nat.reduceBEq, beq_self_eq_true, bne_self_eq_false] | ((with_reducible refine useN (hab) ?_ ?_ ?_); (focus exact rfl); (focus exact fun _ => rfl)) | ((with_reducible refine useN (hrd) ?_ ?_ ?_); (focus exact rfl); (focus exact fun _ => rfl)) | ((with_reducible refine useN (hbk) ?_ ?_ ?_); (focus exact rfl); (focus exact fun _ => rfl)) | ((with_reducible refine useN (hrb) ?_ ?_ ?_); (focus exact rfl); (focus exact fun _ => rfl)) | ((with_reducible refine useF (hs) ?_ ?_ ?_); (focus exact rfl); (focus exact rfl)) | ((with_reducible refine useF (hsc1) ?_ ?_ ?_); (focus exact rfl); (focus exact rfl)) | ((with_reducible refine useF (hsc2) ?_ ?_ ?_); (focus exact rfl); (focus exact rfl)) | ((with_reducible refine useF (hrt) ?_ ?_ ?_); (focus exact rfl); (focus exact rfl)) | ((with_reducible refine useF (known17_c) ?_ ?_ ?_); (focus exact rfl); (focus exact rfl)) | with_reducible refine vcond_split (fun _ => ?_) (fun _ => ?_) | with_reducible refine vg_split (fun _ => ?_) (fun _ => ?_) | ((with_reducible apply DCalls.frz); (focus exact rfl); (focus exact rfl)) | ((with_reducible refine And.intro ?_ ?_); (focus (first | omega | decide | assumption | (simp only [decide_eq_true_eq, decide_eq_false_iff_not] at *; omega)))))

end Go.Proofs.YtomaddpcacoodaaGreatDoor
