/-
  The law of a diff's kinds.
-/
import Derived.Test.YtmgglafcpebabaaGreatDoorD14
import Derived.Test.YtmgglafcpebabaaGreatDoorSC
set_option linter.unusedSimpArgs false
set_option linter.unusedVariables false
namespace Go.Proofs.YtmgglafcpebabaaGreatDoor
open Go Go.Dm
set_option maxRecDepth 100000
set_option maxHeartbeats 4000000

theorem file17_c {p d : List UInt8} {t : Nat} (hd : d.length ≤ 140737488355328) : DCalls Tryz.prog 36 [.c (.p (.s p)), .c (.p (.f t)), .c (.p (.s d))] [] fun r h => r = .agg [.p (.s p), .p (.i .i64 1), .p (.i .i64 0), .p (.f t), .p (.sl 1 (encB d))] ∧ h = [] := by
  refine ent tabOK hmix Tryz.func36 rfl rfl fun X0 hX => ?_
  simp only [Tryz.ntmps36, Tryz.f36, go_sem]
  repeat' (first | simp (maxSteps := 1000000) only [*, go_sem, Nat.reduceLT, Nat.reduceLeDiff, Nat.reduceEqDiff, ↓reduceIte, Nat.reduceAdd, Nat.reduceSub, Nat.reduceMul, Int.reduceLT, Int.reduceLE, Int.reduceAdd, Int.reduceSub, Int.reduceMul, Int.reduceNeg, Int.reduceToNat, Int.reduceEq, Int.reduceBEq, Int.reduceBNe, Nat.reduceBEq, beq_self_eq_true, bne_self_eq_false] | with_reducible refine vcond_split (fun _ => ?_) (fun _ => ?_) | with_reducible refine vg_split (fun _ => ?_) (fun _ => ?_) | ((with_reducible apply DCalls.frz); (focus exact rfl); (focus exact rfl)) | ((with_reducible refine And.intro ?_ ?_); (focus (first | omega | decide | assumption | (simp only [decide_eq_true_eq, decide_eq_false_iff_not] at *; omega)))))

def kA : It := ⟨[97], ⟨1, 0, 0, []⟩⟩
def kB : It := ⟨[97], ⟨1, 0, 9223372036854775808, []⟩⟩
theorem okA : OkT [kA] := ⟨⟨by simp, by intro x hx; simp at hx; subst hx; exact ⟨by decide, by decide +kernel, by decide +kernel, by decide⟩, by simp⟩, by intro x hx; simp at hx; subst hx; decide +kernel⟩
theorem okB : OkT [kB] := ⟨⟨by simp, by intro x hx; simp at hx; subst hx; exact ⟨by decide, by decide +kernel, by decide +kernel, by decide⟩, by simp⟩, by intro x hx; simp at hx; subst hx; decide +kernel⟩
theorem diffK : diffF [kA] [kB] = [⟨[97], 5, kA.n, kB.n⟩] := by
  have h1 : ((([kA] ++ [kB]).map It.p).mergeSort fun x y => decide (x ≤ y)) = [[97], [97]] := List.mergeSort_of_pairwise (by decide +kernel)
  have h2 : (numCmp 0 9223372036854775808 == 0) = false := by rw [numCmp_zero (by decide) (by decide)]; decide +kernel
  have h3 : ndSame kA.n kB.n = false := by simp [ndSame, kA, kB, h2]
  have h4 : kindF true true kA.n kB.n = 5 := by unfold kindF; rw [h3]; rfl
  have h5 : Lib.compact ([[97], [97]] : List (List UInt8)) = [[97]] := by decide +kernel
  unfold diffF pathsF
  rw [h1, h5]
  have g1 : getR [kA] [97] = some kA.n := rfl
  have g2 : getR [kB] [97] = some kB.n := rfl
  simp only [chsF, chF, g1, g2, Option.isSome_some, Option.getD_some, h4, List.append_nil]
  rfl

theorem known17_c : DCalls Tryz.prog 30 [] [] fun r h => r = .c (.p (.b true)) ∧ h = [] := by
  have hd := diff_c okA okB
  rw [diffK] at hd
  simp only [encT, List.map_cons, List.map_nil, It.cs, kA, kB, encB_nil] at hd
  have hg : (encC [⟨[97], 5, ⟨1, 0, 0, []⟩, ⟨1, 0, 9223372036854775808, []⟩⟩]).getD 0 [] = [.s [97], .i .i64 5, .i .i64 1, .i .i64 0, .f 0, .sl 1 (encB []), .i .i64 1, .i .i64 0, .f 9223372036854775808, .sl 1 (encB [])] := rfl
  refine ent tabOK hmix Tryz.func30 rfl rfl fun X0 hX => ?_
  simp only [Tryz.ntmps30, Tryz.f30, go_sem]
  repeat' (first | simp (maxSteps := 1000000) only [*, go_sem, Nat.reduceLT, Nat.reduceLeDiff, Nat.reduceEqDiff, ↓reduceIte, Nat.reduceAdd, Nat.reduceSub, Nat.reduceMul, Int.reduceLT, Int.reduceLE, Int.reduceAdd, Int.reduceSub, Int.reduceMul, Int.reduceNeg, Int.reduceToNat, Int.reduceEq, Int.reduceBEq, Int.reduceBNe, Nat.reduceBEq, beq_self_eq_true, bne_self_eq_false, encB_nil, decide_true, decide_false] | ((with_reducible refine useN (file17_c (by decide)) ?_ ?_ ?_); (focus exact rfl); (focus exact fun _ => rfl)) | ((with_reducible refine useF (copysign_c) ?_ ?_ ?_); (focus exact rfl); (focus exact rfl)) | ((with_reducible refine useN (hd) ?_ ?_ ?_); (focus exact rfl); (focus exact fun _ => rfl)) | with_reducible refine vcond_split (fun _ => ?_) (fun _ => ?_) | with_reducible refine vg_split (fun _ => ?_) (fun _ => ?_) | ((with_reducible apply DCalls.frz); (focus exact rfl); (focus exact rfl)) | ((with_reducible refine And.intro ?_ ?_); (focus (first | omega | decide | assumption | (simp only [decide_eq_true_eq, decide_eq_false_iff_not] at *; omega)))))

theorem kindF_cases {u v : Bool} {x y : Nd} (h : kindF u v x y ≠ 0) : (u = false ∧ v = true ∧ kindF u v x y = 1) ∨ (u = true ∧ v = false ∧ kindF u v x y = 2) ∨ (u = true ∧ v = true ∧ (x.k != y.k) = true ∧ kindF u v x y = 4) ∨
    (u = true ∧ v = true ∧ (x.k == y.k) = true ∧ (x.d != y.d) = true ∧ kindF u v x y = 3) ∨ (u = true ∧ v = true ∧ (x.k == y.k) = true ∧ (x.d == y.d) = true ∧ ((x.m != y.m) = true ∨ ((x.m != y.m) = false ∧ (numCmp x.t y.t == 0) = false)) ∧ kindF u v x y = 5) := by
  cases u <;> cases v
  · exact absurd rfl h
  · exact .inl ⟨rfl, rfl, rfl⟩
  · exact .inr (.inl ⟨rfl, rfl, rfl⟩)
  · unfold kindF at h ⊢
    simp only [if_true] at h ⊢
    cases hs : ndSame x y
    · rw [hs] at h
      simp only [Bool.false_eq_true, if_false] at h ⊢
      cases hk : (x.k != y.k)
      · have hk2 : (x.k == y.k) = true := by simpa [bne] using hk
        cases hd : (x.d == y.d)
        · refine .inr (.inr (.inr (.inl ⟨trivial, trivial, hk2, by rw [bne, hd]; rfl, by simp⟩)))
        · refine .inr (.inr (.inr (.inr ⟨trivial, trivial, hk2, rfl, ?_, by simp⟩)))
          cases hm : (x.m != y.m)
          · have hm2 : (x.m == y.m) = true := by simpa [bne] using hm
            refine .inr ⟨rfl, ?_⟩
            unfold ndSame at hs
            rw [hk2, hm2, hd] at hs
            simpa using hs
          · exact .inl rfl
      · exact .inr (.inr (.inl ⟨trivial, trivial, rfl, by simp⟩))
    · rw [hs] at h; exact absurd rfl h

end Go.Proofs.YtmgglafcpebabaaGreatDoor
