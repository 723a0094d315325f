/-
  The law of a merge's example, walked.
-/
import Derived.Test.YtjanmkknbijecaaGreatDoorM6
import Derived.Test.YtjanmkknbijecaaGreatDoorC4
import Derived.Test.YtjanmkknbijecaaGreatDoorVE
set_option linter.unusedSimpArgs false
set_option linter.unusedVariables false
namespace Go.Proofs.YtjanmkknbijecaaGreatDoor
open Go Go.Dm Go.Sort
set_option maxRecDepth 100000
set_option maxHeartbeats 8000000

def ndX : Nd := ⟨1, 0, 0, [120]⟩
def ndY : Nd := ⟨1, 0, 0, [121]⟩
def ndZ : Nd := ⟨1, 0, 0, [122]⟩
def ndD : Nd := ⟨2, 0, 0, []⟩
def kBase : List It := [⟨[97], ndX⟩, ⟨[100], ndD⟩]
def kOurs : List It := [⟨[98], ndX⟩, ⟨[100], ndD⟩, ⟨[100, 47, 110], ndY⟩]
def kTheirs : List It := [⟨[99], ndX⟩]
theorem kBase_ok : OkT kBase := ⟨⟨by decide +kernel, by
  intro x hx
  simp only [kBase, List.mem_cons, List.not_mem_nil, or_false] at hx
  rcases hx with rfl | rfl <;> exact ⟨by decide, by decide +kernel, by decide +kernel, by decide⟩, by decide⟩, by
  intro x hx
  simp only [kBase, List.mem_cons, List.not_mem_nil, or_false] at hx
  rcases hx with rfl | rfl <;> decide +kernel⟩
theorem kOurs_ok : OkT kOurs := ⟨⟨by decide +kernel, by
  intro x hx
  simp only [kOurs, List.mem_cons, List.not_mem_nil, or_false] at hx
  rcases hx with rfl | rfl | rfl <;> exact ⟨by decide, by decide +kernel, by decide +kernel, by decide⟩, by decide⟩, by
  intro x hx
  simp only [kOurs, List.mem_cons, List.not_mem_nil, or_false] at hx
  rcases hx with rfl | rfl | rfl <;> decide +kernel⟩
theorem kTheirs_ok : OkT kTheirs := ⟨⟨by decide +kernel, by
  intro x hx
  simp only [kTheirs, List.mem_cons, List.not_mem_nil, or_false] at hx
  rcases hx with rfl <;> exact ⟨by decide, by decide +kernel, by decide +kernel, by decide⟩, by decide⟩, by
  intro x hx
  simp only [kTheirs, List.mem_cons, List.not_mem_nil, or_false] at hx
  rcases hx with rfl <;> decide +kernel⟩
def kBad : List Cf := [⟨[97], 6⟩, ⟨[100, 47, 110], 7⟩]
def kMir0 : List Cf := [⟨[97], 2⟩, ⟨[97], 1⟩, ⟨[98], 3⟩]
def kMir : List Cf := [⟨[97], 1⟩, ⟨[97], 3⟩, ⟨[98], 2⟩]
theorem kMir_eq : mirrorF kMir0 = kMir := by
  have h : kMir = sortC (kMir0.map mirC) := sortC_unique (l := kMir0.map mirC) (List.Perm.swap _ _ _) (by decide +kernel)
  exact h.symm
theorem kPaths : paths3 kBase kOurs kTheirs = [[97], [98], [99], [100], [100, 47, 110]] := by rw [← paths3_ref]; rfl
theorem kPairs1 : pairsG (diffF kBase kOurs) = [⟨[97], [98]⟩] := by
  unfold pairsG
  rw [if_pos (diffF_rightCs kBase_ok kOurs_ok), ← refDiff_eq kBase_ok kOurs_ok]; rfl
theorem kPairs2 : pairsG (diffF kBase kTheirs) = [⟨[97], [99]⟩] := by
  unfold pairsG
  rw [if_pos (diffF_rightCs kBase_ok kTheirs_ok), ← refDiff_eq kBase_ok kTheirs_ok]; rfl
theorem kAll : allF kBase kOurs kTheirs = [⟨[100, 47, 110], 7⟩, ⟨[97], 6⟩] := by
  unfold allF outF
  rw [kPaths, kPairs1, kPairs2]; rfl
theorem kMerge : mergeF kBase kOurs kTheirs = ([], kBad) := by
  have h : kBad = sortC (allF kBase kOurs kTheirs) := by
    rw [kAll]
    exact sortC_unique (List.Perm.swap _ _ _) (by decide +kernel)
  unfold mergeF
  rw [badF_eq, ← h]; rfl

theorem mergeKnown_c : DCalls Tryz.prog 6 [] [] fun r h => r = .c (.p (.b true)) ∧ h = [] := by
  have cl : ∀ {d : List UInt8}, d.length ≤ 1 → d.length ≤ 140737488355328 := fun h => Nat.le_trans h (by decide)
  have n1 := nodeM_c (k := 1) (m := 0) (t := 0) (d := [120]) (k1 := 1) (m1 := 0) (t1 := 0) (d1 := [121]) (k2 := 1) (m2 := 0) (t2 := 0) (d2 := [122]) (by decide) (by decide) true true true
  have n2 := nodeM_c (k := 1) (m := 0) (t := 0) (d := [120]) (k1 := 1) (m1 := 0) (t1 := 0) (d1 := [121]) (k2 := 1) (m2 := 0) (t2 := 0) (d2 := [120]) (by decide) (by decide) true true false
  have n3 := nodeM_c (k := 1) (m := 0) (t := 0) (d := [120]) (k1 := 1) (m1 := 0) (t1 := 0) (d1 := [120]) (k2 := 1) (m2 := 0) (t2 := 0) (d2 := [121]) (by decide) (by decide) true false true
  have n4 := nodeM_c (k := 1) (m := 0) (t := 0) (d := [120]) (k1 := 2) (m1 := 0) (t1 := 0) (d1 := []) (k2 := 1) (m2 := 0) (t2 := 0) (d2 := [121]) (by decide) (by decide) true true true
  rw [show ndc 2 0 0 [] = [.p (.i .i64 2), .p (.i .i64 0), .p (.f 0), .p (.sl 1 [])] from rfl] at n4
  have n5 := nodeM_c (k := 1) (m := 0) (t := 0) (d := [120]) (k1 := 1) (m1 := 0) (t1 := 0) (d1 := [121]) (k2 := 1) (m2 := 0) (t2 := 0) (d2 := [122]) (by decide) (by decide) false true true
  have n6 := nodeM_c (k := 1) (m := 0) (t := 0) (d := [120]) (k1 := 1) (m1 := 7) (t1 := 0) (d1 := [120]) (k2 := 1) (m2 := 0) (t2 := 0) (d2 := [121]) (by decide) (by decide) true true true
  rw [show nodeM ⟨1, 0, 0, [120]⟩ ⟨1, 0, 0, [121]⟩ ⟨1, 0, 0, [122]⟩ true true true = (nd0, false, 1) by rfl] at n1
  rw [show nodeM ⟨1, 0, 0, [120]⟩ ⟨1, 0, 0, [121]⟩ ⟨1, 0, 0, [120]⟩ true true false = (nd0, false, 2) by rfl] at n2
  rw [show nodeM ⟨1, 0, 0, [120]⟩ ⟨1, 0, 0, [120]⟩ ⟨1, 0, 0, [121]⟩ true false true = (nd0, false, 3) by rfl] at n3
  rw [show nodeM ⟨1, 0, 0, [120]⟩ ⟨2, 0, 0, []⟩ ⟨1, 0, 0, [121]⟩ true true true = (nd0, false, 4) by rfl] at n4
  rw [show nodeM ⟨1, 0, 0, [120]⟩ ⟨1, 0, 0, [121]⟩ ⟨1, 0, 0, [122]⟩ false true true = (nd0, false, 5) by rfl] at n5
  rw [show nodeM ⟨1, 0, 0, [120]⟩ ⟨1, 7, 0, [120]⟩ ⟨1, 0, 0, [121]⟩ true true true = (⟨1, 7, 0, [121]⟩, true, 0) by rfl] at n6
  rw [show ndc 1 7 0 [120] = [.p (.i .i64 1), .p (.i .i64 7), .p (.f 0), .p (.sl 1 [[.i .u8 120]])] from rfl] at n6
  have f1 := fileF_c (t := 0) (d := [120]) (by decide)
  have f2 := fileF_c (t := 0) (d := [121]) (by decide)
  have f3 := fileF_c (t := 0) (d := [122]) (by decide)
  rw [show fileF 0 [120] = ⟨1, 0, 0, [120]⟩ by rfl] at f1
  rw [show fileF 0 [121] = ⟨1, 0, 0, [121]⟩ by rfl] at f2
  rw [show fileF 0 [122] = ⟨1, 0, 0, [122]⟩ by rfl] at f3
  have m1 := merge_c kBase_ok.s kOurs_ok.s kTheirs_ok.s
  rw [kMerge] at m1
  have m2 := merge_c kBase_ok.s kOurs_ok.s kBase_ok.s
  rw [merge_ours kBase_ok kOurs_ok] at m2
  have m3 := mirror_c (l := kMir0) (by decide)
  rw [kMir_eq] at m3
  have sT := sameT_c (a := kOurs) (by decide)
  have eB : encT kBase = [[.s [97], .i .i64 1, .i .i64 0, .f 0, .sl 1 (encB [120])], [.s [100], .i .i64 2, .i .i64 0, .f 0, .sl 1 []]] := rfl
  have eO : encT kOurs = [[.s [98], .i .i64 1, .i .i64 0, .f 0, .sl 1 (encB [120])], [.s [100], .i .i64 2, .i .i64 0, .f 0, .sl 1 []], [.s [100, 47, 110], .i .i64 1, .i .i64 0, .f 0, .sl 1 (encB [121])]] := rfl
  have eT : encT kTheirs = [[.s [99], .i .i64 1, .i .i64 0, .f 0, .sl 1 (encB [120])]] := rfl
  have eM : encF kMir0 = [[.s [97], .i .i64 2], [.s [97], .i .i64 1], [.s [98], .i .i64 3]] := rfl
  rw [eB, eO, eT] at m1
  rw [eB, eO] at m2
  rw [eM] at m3
  rw [eO] at sT
  have g0 : (encF kBad).getD 0 [] = [.s [97], .i .i64 6] := rfl
  have g1 : (encF kBad).getD 1 [] = [.s [100, 47, 110], .i .i64 7] := rfl
  have g2 : (encF kMir).getD 0 [] = [.s [97], .i .i64 1] := rfl
  have g3 : (encF kMir).getD 1 [] = [.s [97], .i .i64 3] := rfl
  have g4 : (encF kMir).getD 2 [] = [.s [98], .i .i64 2] := rfl
  have l0 : kBad.length = 2 := rfl
  have l1 : kMir.length = 3 := rfl
  clear eB eO eT eM cl
  generalize kBad = F at *
  generalize kMir = M at *
  refine entS tabOK Tryz.func6 rfl rfl fun X0 hX => ?_
  simp only [Tryz.ntmps6, Tryz.f6, go_sem]
  refine swp_first tabOK hmix ?_
  repeat' (first | simp (maxSteps := 1000000) only [*, go_sem, Nat.reduceLT, Nat.reduceLeDiff, Nat.reduceEqDiff, ↓reduceIte, Nat.reduceAdd, Nat.reduceSub, Nat.reduceMul, Int.reduceLT, Int.reduceLE, Int.reduceAdd, Int.reduceSub, Int.reduceMul, Int.reduceNeg, Int.reduceToNat, Int.reduceEq, Int.reduceBEq, Int.reduceBNe, Nat.reduceBEq, beq_self_eq_true, bne_self_eq_false] | with_reducible refine vcond_split (fun _ => ?_) (fun _ => ?_) | with_reducible refine vg_split (fun _ => ?_) (fun _ => ?_) | ((with_reducible apply DCalls.frz); (focus exact rfl); (focus exact rfl)) | ((with_reducible refine And.intro ?_ ?_); (focus (first | omega | decide | assumption | (simp only [decide_eq_true_eq, decide_eq_false_iff_not] at *; omega)))))
  refine swp_first tabOK hmix ?_
  repeat' (first | simp (maxSteps := 1000000) only [*, go_sem, Nat.reduceLT, Nat.reduceLeDiff, Nat.reduceEqDiff, ↓reduceIte, Nat.reduceAdd, Nat.reduceSub, Nat.reduceMul, Int.reduceLT, Int.reduceLE, Int.reduceAdd, Int.reduceSub, Int.reduceMul, Int.reduceNeg, Int.reduceToNat, Int.reduceEq, Int.reduceBEq, Int.reduceBNe, Nat.reduceBEq, beq_self_eq_true, bne_self_eq_false] | with_reducible refine vcond_split (fun _ => ?_) (fun _ => ?_) | with_reducible refine vg_split (fun _ => ?_) (fun _ => ?_) | ((with_reducible apply DCalls.frz); (focus exact rfl); (focus exact rfl)) | ((with_reducible refine And.intro ?_ ?_); (focus (first | omega | decide | assumption | (simp only [decide_eq_true_eq, decide_eq_false_iff_not] at *; omega)))))
  refine swp_box 0 _ [.p (.i .i64 2), .p (.i .i64 0), .p (.f 0), .p (.sl 1 [])] rfl rfl ⟨.inl rfl, .inl rfl, .inl rfl, .inr ⟨rfl, 1, rfl⟩, trivial⟩ ?_
  refine swp_vc tabOK hmix ?_
  repeat' (first | simp (maxSteps := 1000000) only [*, go_sem, Nat.reduceLT, Nat.reduceLeDiff, Nat.reduceEqDiff, ↓reduceIte, Nat.reduceAdd, Nat.reduceSub, Nat.reduceMul, Int.reduceLT, Int.reduceLE, Int.reduceAdd, Int.reduceSub, Int.reduceMul, Int.reduceNeg, Int.reduceToNat, Int.reduceEq, Int.reduceBEq, Int.reduceBNe, Nat.reduceBEq, beq_self_eq_true, bne_self_eq_false, List.append_eq, List.cons_append, List.nil_append, List.set_cons_zero, Bool.and_self] | ((with_reducible refine useN (f1) ?_ ?_ ?_); (focus exact rfl); (focus exact fun _ => rfl)) | ((with_reducible refine useN (f2) ?_ ?_ ?_); (focus exact rfl); (focus exact fun _ => rfl)) | ((with_reducible refine useN (f3) ?_ ?_ ?_); (focus exact rfl); (focus exact fun _ => rfl)) | ((with_reducible refine useN (n1) ?_ ?_ ?_); (focus exact rfl); (focus exact fun _ => rfl)) | ((with_reducible refine useN (n2) ?_ ?_ ?_); (focus exact rfl); (focus exact fun _ => rfl)) | ((with_reducible refine useN (n3) ?_ ?_ ?_); (focus exact rfl); (focus exact fun _ => rfl)) | ((with_reducible refine useN (n4) ?_ ?_ ?_); (focus exact rfl); (focus exact fun _ => rfl)) | ((with_reducible refine useN (n5) ?_ ?_ ?_); (focus exact rfl); (focus exact fun _ => rfl)) | ((with_reducible refine useN (n6) ?_ ?_ ?_); (focus exact rfl); (focus exact fun _ => rfl)) | ((with_reducible refine useN (m1) ?_ ?_ ?_); (focus exact rfl); (focus exact fun _ => rfl)) | ((with_reducible refine useN (m2) ?_ ?_ ?_); (focus exact rfl); (focus exact fun _ => rfl)) | ((with_reducible refine useN (m3) ?_ ?_ ?_); (focus exact rfl); (focus exact fun _ => rfl)) | ((with_reducible refine useF (sT) ?_ ?_ ?_); (focus exact rfl); (focus exact rfl)) | ((with_reducible refine useF (known20_c) ?_ ?_ ?_); (focus exact rfl); (focus exact rfl)) | refine conf_eql ?_ | with_reducible refine vcond_split (fun _ => ?_) (fun _ => ?_) | with_reducible refine vg_split (fun _ => ?_) (fun _ => ?_) | ((with_reducible apply DCalls.frz); (focus exact rfl); (focus exact rfl)) | ((with_reducible refine And.intro ?_ ?_); (focus (first | omega | decide | assumption | (simp only [decide_eq_true_eq, decide_eq_false_iff_not] at *; omega)))))

end Go.Proofs.YtjanmkknbijecaaGreatDoor
