/-
  Chapter 14's example: what three layers tell. No condition.
-/
import Derived.Test.YtcoedlaifhfnnaaDoorN16
import Derived.Test.YtcoedlaifhfnnaaDoorN23
import Derived.Test.YtcoedlaifhfnnaaDoorBS
set_option linter.unusedSimpArgs false
set_option linter.unusedVariables false
namespace Go.Proofs.YtcoedlaifhfnnaaDoor
open Go Go.Dm Go.Proofs
set_option maxRecDepth 100000
set_option maxHeartbeats 8000000

def ls50 : List (List En) := [[⟨[97], 1, false, ⟨2, 0, 0, []⟩⟩, ⟨[97, 47, 120], 1, false, ⟨1, 0, 0, []⟩⟩, ⟨[97, 47, 121], 1, false, ⟨1, 0, 0, []⟩⟩], [⟨[97], 1, true, ⟨2, 0, 0, []⟩⟩, ⟨[97, 47, 122], 1, false, ⟨1, 0, 0, []⟩⟩], [⟨[97, 47, 121], 1, false, ⟨3, 0, 0, [113]⟩⟩]]
def es50 : List (List PV) := [[.sl 7 [[.s [97], .i .i64 1, .b false, .i .i64 2, .i .i64 0, .f 0, .nil], [.s [97, 47, 120], .i .i64 1, .b false, .i .i64 1, .i .i64 0, .f 0, .nil], [.s [97, 47, 121], .i .i64 1, .b false, .i .i64 1, .i .i64 0, .f 0, .nil]]], [.sl 7 [[.s [97], .i .i64 1, .b true, .i .i64 2, .i .i64 0, .f 0, .nil], [.s [97, 47, 122], .i .i64 1, .b false, .i .i64 1, .i .i64 0, .f 0, .nil]]], [.sl 7 [[.s [97, 47, 121], .i .i64 1, .b false, .i .i64 3, .i .i64 0, .f 0, .sl 1 [[.i .u8 113]]]]]]
def lf50 : List (List En) := [[⟨[97, 47, 98], 1, false, ⟨1, 0, 0, []⟩⟩]]
def ef50 : List (List PV) := [[.sl 7 [[.s [97, 47, 98], .i .i64 1, .b false, .i .i64 1, .i .i64 0, .f 0, .nil]]]]
theorem wkRow7 {p : List UInt8} {k m n : Int} {o : Bool} {f : Nat} : wkPs [.s p, .i .i64 k, .b o, .i .i64 m, .i .i64 n, .f f, .nil] [.s p, .i .i64 k, .b o, .i .i64 m, .i .i64 n, .f f, .sl 1 (encB [])] :=
  ⟨.inl rfl, .inl rfl, .inl rfl, .inl rfl, .inl rfl, .inl rfl, .inr ⟨rfl, 1, rfl⟩, True.intro⟩
theorem es50_wk : wkQRows es50 (encL ls50) :=
  ⟨⟨.inr ⟨7, _, _, rfl, rfl, wkRow7, wkRow7, wkRow7, True.intro⟩, True.intro⟩,
   ⟨.inr ⟨7, _, _, rfl, rfl, wkRow7, wkRow7, True.intro⟩, True.intro⟩,
   ⟨.inr ⟨7, _, _, rfl, rfl, ⟨.inl rfl, .inl rfl, .inl rfl, .inl rfl, .inl rfl, .inl rfl, .inl rfl, True.intro⟩, True.intro⟩, True.intro⟩, True.intro⟩
theorem ef50_wk : wkQRows ef50 (encL lf50) :=
  ⟨⟨.inr ⟨7, _, _, rfl, rfl, wkRow7, True.intro⟩, True.intro⟩, True.intro⟩
theorem ls50_ok : ∀ l ∈ ls50, OkE l := by
  intro l hl
  simp only [ls50, List.mem_cons, List.not_mem_nil, or_false] at hl
  rcases hl with rfl | rfl | rfl
  · exact okE_lit (by decide +kernel) (by decide +kernel) (by decide +kernel) (by decide) (by decide)
  · exact okE_lit (by decide +kernel) (by decide +kernel) (by decide +kernel) (by decide) (by decide)
  · exact okE_lit (by decide +kernel) (by decide +kernel) (by decide +kernel) (by decide) (by decide)
theorem lf50_ok : ∀ l ∈ lf50, OkE l := by
  intro l hl
  simp only [lf50, List.mem_cons, List.not_mem_nil, or_false] at hl
  rcases hl with rfl
  exact okE_lit (by decide +kernel) (by decide +kernel) (by decide +kernel) (by decide) (by decide)

theorem n50_a : namesL ls50 [97] = ([[121], [122]], true) := by
  unfold namesL
  rw [if_pos (by decide +kernel)]
  have h : nmF ls50 [97] = [[121], [122]] := strict_unique (lt := bltL) blt_irrefl (fun h => blt_asymm h) (paths_strict _) (by decide +kernel) fun b => by
    unfold nmF
    rw [compact_iff]
    have : nmO ls50 [97] ls50 = [[121], [122], [121]] := by decide +kernel
    rw [this]
    simp only [List.mem_cons, List.not_mem_nil, or_false]
    constructor
    · rintro (h | h | h)
      · exact .inl h
      · exact .inr h
      · exact .inl h
    · rintro (h | h)
      · exact .inl h
      · exact .inr (.inl h)
  rw [h]
theorem n50_b : namesL ls50 [97, 47, 122] = ([], false) := by
  unfold namesL
  rw [if_neg (by decide +kernel)]
theorem n50_c : namesL [] [] = ([], true) := by
  unfold namesL
  rw [if_pos (by decide +kernel), nmF_eq (fun _ h => by cases h) (by decide +kernel)]
  decide +kernel

theorem chainKnown_law : DCalls Tryd.prog 3 [] [] fun r h => r = .c (.p (.b true)) ∧ h = [] := by
  have n1 := DCalls.wkQ2 es50_wk (chainNames_c (p := [97]) (by decide) ls50_ok (by decide))
  have n2 := DCalls.wkQ2 es50_wk (chainNames_c (p := [97, 47, 122]) (by decide) ls50_ok (by decide))
  have n3 := chainNames_c (ls := []) (p := []) (by decide) (fun _ h => by cases h) (by decide)
  have l1 := DCalls.wkQ2 es50_wk (chainLook_c (p := [97, 47, 121]) (by decide) ls50_ok (by decide))
  have l2 := DCalls.wkQ2 es50_wk (chainLook_c (p := [97, 47, 120]) (by decide) ls50_ok (by decide))
  have l3 := DCalls.wkQ2 es50_wk (chainLook_c (p := []) (by decide) ls50_ok (by decide))
  have f1 := DCalls.wkQ1 ef50_wk (chainFold_c (ls := lf50) (by decide) lf50_ok)
  have st := sameTexts_c (a := [[121], [122]]) (by decide)
  have b1 : (lookF ls50 [97, 47, 121]).1.k = 3 := by decide +kernel
  have b2 : (lookF ls50 [97, 47, 121]).2 = (2, true) := by decide +kernel
  have b3 : (lookF ls50 [97, 47, 120]).2.2 = false := by decide +kernel
  have b4 : (lookF ls50 []).2.2 = false := by decide +kernel
  have b5 : (foldG [] lf50).2 = false := by decide +kernel
  rw [n50_a] at n1
  rw [n50_b] at n2
  rw [n50_c] at n3
  rw [b2] at l1
  rw [b3] at l2
  rw [b4] at l3
  rw [b5] at f1
  generalize (foldG [] lf50).1 = t at f1
  generalize (lookF ls50 [97, 47, 121]).1 = x1 at l1 b1
  generalize (lookF ls50 [97, 47, 120]).1 = x2 at l2
  generalize (lookF ls50 [97, 47, 120]).2.1 = k2 at l2
  generalize (lookF ls50 []).1 = x3 at l3
  generalize (lookF ls50 []).2.1 = k3 at l3
  obtain ⟨x1k, x1m, x1t, x1d⟩ := x1
  obtain ⟨x2k, x2m, x2t, x2d⟩ := x2
  obtain ⟨x3k, x3m, x3t, x3d⟩ := x3
  simp only at b1
  subst b1
  unfold ef50 at f1
  have n4 := DCalls.wkA (args := [.c (.p .nil), .c (.p (.s []))]) (args' := [.c (.p (.sl 1 (encL []))), .c (.p (.s []))]) ⟨wkD_nil, wkD_rfl, trivial⟩ n3
  clear n3
  have e1 : Go.Dm.encS [[121], [122]] = [[.s [121]], [.s [122]]] := rfl
  simp only [e1] at n1 st
  refine entS tabOK Tryd.func3 rfl rfl fun X0 hX => ?_
  simp only [Tryd.ntmps3, Tryd.f3, go_sem]
  refine swp_first tabOK hmix ?_
  repeat' (first | simp (maxSteps := 1000000) only [*, go_sem, Nat.reduceLT, Nat.reduceLeDiff, Nat.reduceEqDiff, ↓reduceIte, Nat.reduceAdd, Nat.reduceSub, Nat.reduceMul, Int.reduceLT, Int.reduceLE, Int.reduceAdd, Int.reduceSub, Int.reduceMul, Int.reduceNeg, Int.reduceToNat, Int.reduceEq, Int.reduceBEq, Int.reduceBNe, Nat.reduceBEq, beq_self_eq_true, bne_self_eq_false] | with_reducible refine vcond_split (fun _ => ?_) (fun _ => ?_) | with_reducible refine vg_split (fun _ => ?_) (fun _ => ?_) | ((with_reducible apply DCalls.frz); (focus exact rfl); (focus exact rfl)) | ((with_reducible refine And.intro ?_ ?_); (focus (first | omega | decide | assumption | (simp only [decide_eq_true_eq, decide_eq_false_iff_not] at *; omega)))))
  refine swp_seq (swp_boxS tabOK 10 rfl rfl rfl rfl rfl rfl (by decide) rfl fun K hK => ?_)
  repeat' (first | simp (maxSteps := 1000000) only [*, go_sem, Nat.reduceLT, Nat.reduceLeDiff, Nat.reduceEqDiff, ↓reduceIte, Nat.reduceAdd, Nat.reduceSub, Nat.reduceMul, Int.reduceLT, Int.reduceLE, Int.reduceAdd, Int.reduceSub, Int.reduceMul, Int.reduceNeg, Int.reduceToNat, Int.reduceEq, Int.reduceBEq, Int.reduceBNe, Nat.reduceBEq, beq_self_eq_true, bne_self_eq_false] | ((with_reducible refine useF (put14_c) ?_ ?_ ?_); (focus exact rfl); (focus exact rfl)) | with_reducible refine vcond_split (fun _ => ?_) (fun _ => ?_) | with_reducible refine vg_split (fun _ => ?_) (fun _ => ?_) | ((with_reducible apply DCalls.frz); (focus exact rfl); (focus exact rfl)) | ((with_reducible refine And.intro ?_ ?_); (focus (first | omega | decide | assumption | (simp only [decide_eq_true_eq, decide_eq_false_iff_not] at *; omega)))))
  refine hK _ _ _ [.own 0 0 3, .own 1 0 2, .own 2 0 1] (by decide) rfl fun K2 hK2 => ?_
  repeat' (first | simp (maxSteps := 1000000) only [*, go_sem, Nat.reduceLT, Nat.reduceLeDiff, Nat.reduceEqDiff, ↓reduceIte, Nat.reduceAdd, Nat.reduceSub, Nat.reduceMul, Int.reduceLT, Int.reduceLE, Int.reduceAdd, Int.reduceSub, Int.reduceMul, Int.reduceNeg, Int.reduceToNat, Int.reduceEq, Int.reduceBEq, Int.reduceBNe, Nat.reduceBEq, beq_self_eq_true, bne_self_eq_false] | with_reducible refine vcond_split (fun _ => ?_) (fun _ => ?_) | with_reducible refine vg_split (fun _ => ?_) (fun _ => ?_) | ((with_reducible apply DCalls.frz); (focus exact rfl); (focus exact rfl)) | ((with_reducible refine And.intro ?_ ?_); (focus (first | omega | decide | assumption | (simp only [decide_eq_true_eq, decide_eq_false_iff_not] at *; omega)))))
  refine hK2 _ ?_
  clear hK hK2
  refine swp_first tabOK hmix ?_
  repeat' (first | simp (maxSteps := 1000000) only [*, go_sem, Nat.reduceLT, Nat.reduceLeDiff, Nat.reduceEqDiff, ↓reduceIte, Nat.reduceAdd, Nat.reduceSub, Nat.reduceMul, Int.reduceLT, Int.reduceLE, Int.reduceAdd, Int.reduceSub, Int.reduceMul, Int.reduceNeg, Int.reduceToNat, Int.reduceEq, Int.reduceBEq, Int.reduceBNe, Nat.reduceBEq, beq_self_eq_true, bne_self_eq_false] | with_reducible refine vcond_split (fun _ => ?_) (fun _ => ?_) | with_reducible refine vg_split (fun _ => ?_) (fun _ => ?_) | ((with_reducible apply DCalls.frz); (focus exact rfl); (focus exact rfl)) | ((with_reducible refine And.intro ?_ ?_); (focus (first | omega | decide | assumption | (simp only [decide_eq_true_eq, decide_eq_false_iff_not] at *; omega)))))
  refine swp_lead (Lead.trans (lead_bs 1 3 3 rfl rfl rfl rfl (by rw [hX]; exact Nat.zero_le _)) (lead_weak (s' := ⟨122, [(1, .c (.p (.sl 1 es50))), (0, .c (.p (.b false)))], []⟩) (weak_mk (by rw [hX]; rfl) rfl rfl (by simp only [wk_cons, wk_nil]; exact ⟨⟨rfl, rfl⟩, ⟨rfl, rfl⟩, True.intro⟩)))) ?_
  refine swp_vc tabOK hmix ?_
  repeat' (first | simp (maxSteps := 1000000) only [*, go_sem, Nat.reduceLT, Nat.reduceLeDiff, Nat.reduceEqDiff, ↓reduceIte, Nat.reduceAdd, Nat.reduceSub, Nat.reduceMul, Int.reduceLT, Int.reduceLE, Int.reduceAdd, Int.reduceSub, Int.reduceMul, Int.reduceNeg, Int.reduceToNat, Int.reduceEq, Int.reduceBEq, Int.reduceBNe, Nat.reduceBEq, beq_self_eq_true, bne_self_eq_false, Bool.not_true, Bool.not_false] | ((with_reducible refine useN (n1) ?_ ?_ ?_); (focus exact rfl); (focus exact fun _ => rfl)) | ((with_reducible refine useN (n2) ?_ ?_ ?_); (focus exact rfl); (focus exact fun _ => rfl)) | ((with_reducible refine useN (n4) ?_ ?_ ?_); (focus exact rfl); (focus exact fun _ => rfl)) | ((with_reducible refine useN (l1) ?_ ?_ ?_); (focus exact rfl); (focus exact fun _ => rfl)) | ((with_reducible refine useN (l2) ?_ ?_ ?_); (focus exact rfl); (focus exact fun _ => rfl)) | ((with_reducible refine useN (l3) ?_ ?_ ?_); (focus exact rfl); (focus exact fun _ => rfl)) | ((with_reducible refine useN (f1) ?_ ?_ ?_); (focus exact rfl); (focus exact fun _ => rfl)) | ((with_reducible refine useF (put14_c) ?_ ?_ ?_); (focus exact rfl); (focus exact rfl)) | ((with_reducible refine useF (known14_c) ?_ ?_ ?_); (focus exact rfl); (focus exact rfl)) | ((with_reducible refine useN (st) ?_ ?_ ?_); (focus exact rfl); (focus exact fun _ => rfl)) | with_reducible refine vcond_split (fun _ => ?_) (fun _ => ?_) | with_reducible refine vg_split (fun _ => ?_) (fun _ => ?_) | ((with_reducible apply DCalls.frz); (focus exact rfl); (focus exact rfl)) | ((with_reducible refine And.intro ?_ ?_); (focus (first | omega | decide | assumption | (simp only [decide_eq_true_eq, decide_eq_false_iff_not] at *; omega)))))
end Go.Proofs.YtcoedlaifhfnnaaDoor
