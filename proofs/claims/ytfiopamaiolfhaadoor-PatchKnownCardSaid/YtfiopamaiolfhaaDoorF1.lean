/-
  Contracts of the program's trees: a path's parts, whether a tree is right, whether a directory is there.
-/
import Derived.Test.YtfiopamaiolfhaaDoorE1
import Derived.Test.YtfiopamaiolfhaaDoorD11
import Derived.Test.YtfiopamaiolfhaaDoorSC
import Derived.Test.YtfiopamaiolfhaaDoorVB
set_option linter.unusedSimpArgs false
set_option linter.unusedVariables false
namespace Go.Proofs.YtfiopamaiolfhaaDoor
open Go Go.Dm
set_option maxRecDepth 100000
set_option maxHeartbeats 4000000

theorem lastIndexByte_c {a : List UInt8} {c : Int} (ha : a.length < 4611686018427387904) : DCalls Tryd.prog 38 [.c (.p (.s a)), .c (.p (.i .u8 c))] [] fun r h => r = .c (.p (.i .i64 (Lib.lastIndexByte ⟨a.toArray⟩ c))) ∧ h = [] :=
  dcalls_strbyte (N := 4611686018427387904) (g := fun a c => Lib.lastIndexByte ⟨a.toArray⟩ c) (enters Tryd.func38 rfl rfl) (fun a c w h => Tryd.strings_LastIndexByte ⟨a.toArray⟩ c (by simpa [ByteArray.size] using h) w) ha

theorem nameDir_c {p : List UInt8} (hp : p.length ≤ 1000000000) : DCalls Tryd.prog 21 [.c (.p (.s p))] [] fun r h => r = .c (.p (.s (dirOfR p))) ∧ h = [] := by
  have hl := lastIndexByte_c (a := p) (c := 47) (by omega)
  rw [lastIndexByte_eq] at hl
  unfold dirOfR
  cases hs : lastSlash p p.length with
  | none =>
    rw [hs] at hl
    simp only at hl ⊢
    clear hs
    refine ent tabOK hmix Tryd.func21 rfl rfl fun X0 hX => ?_
    simp only [Tryd.ntmps21, Tryd.f21, go_sem]
    repeat' (first | simp (maxSteps := 1000000) only [*, go_sem, Nat.reduceLT, Nat.reduceLeDiff, Nat.reduceEqDiff, ↓reduceIte, Nat.reduceAdd, Nat.reduceSub, Nat.reduceMul, Int.reduceLT, Int.reduceLE, Int.reduceAdd, Int.reduceSub, Int.reduceMul, Int.reduceNeg, Int.reduceToNat, Int.reduceEq, Int.reduceBEq, Int.reduceBNe, Nat.reduceBEq, beq_self_eq_true, bne_self_eq_false] | ((with_reducible refine useF (hl) ?_ ?_ ?_); (focus exact rfl); (focus exact rfl)) | with_reducible refine vcond_split (fun _ => ?_) (fun _ => ?_) | with_reducible refine vg_split (fun _ => ?_) (fun _ => ?_) | ((with_reducible apply DCalls.frz); (focus exact rfl); (focus exact rfl)) | ((with_reducible refine And.intro ?_ ?_); (focus (first | omega | decide | assumption | (simp only [decide_eq_true_eq, decide_eq_false_iff_not] at *; omega)))))
    all_goals simp
  | some j =>
    rw [hs] at hl
    have hj := lastSlash_lt hs
    have hm : max (0 : Int) (j : Int) = j := by omega
    simp only at hl ⊢
    clear hs
    have hj2 : (j : Int) ≤ p.length := by omega
    have hj3 : (0 : Int) ≤ j := by omega
    have hj4 : (if (0 : Int) < (j : Int) then (j : Int) else 0) = j := by split <;> omega
    refine ent tabOK hmix Tryd.func21 rfl rfl fun X0 hX => ?_
    simp only [Tryd.ntmps21, Tryd.f21, go_sem]
    repeat' (first | simp (maxSteps := 1000000) only [*, go_sem, Nat.reduceLT, Nat.reduceLeDiff, Nat.reduceEqDiff, ↓reduceIte, Nat.reduceAdd, Nat.reduceSub, Nat.reduceMul, Int.reduceLT, Int.reduceLE, Int.reduceAdd, Int.reduceSub, Int.reduceMul, Int.reduceNeg, Int.reduceToNat, Int.reduceEq, Int.reduceBEq, Int.reduceBNe, Nat.reduceBEq, beq_self_eq_true, bne_self_eq_false] | ((with_reducible refine useF (hl) ?_ ?_ ?_); (focus exact rfl); (focus exact rfl)) | with_reducible refine vcond_split (fun _ => ?_) (fun _ => ?_) | with_reducible refine vg_split (fun _ => ?_) (fun _ => ?_) | ((with_reducible apply DCalls.frz); (focus exact rfl); (focus exact rfl)) | ((with_reducible refine And.intro ?_ ?_); (focus (first | omega | decide | assumption | (simp only [decide_eq_true_eq, decide_eq_false_iff_not] at *; omega)))))
    all_goals first | (rw [hj4]; done) | (rw [hj4]; omega) | (rw [hj4]; rfl) | skip

theorem treeIsDir_c {t : List It} {p : List UInt8} (ht : t.length ≤ 1000000) (hs : Srt t) :
    DCalls Tryd.prog 37 [.c (.p (.sl 5 (encT t))), .c (.p (.s p))] [] fun r h => r = .c (.p (.b (isDirR t p))) ∧ h = [] := by
  refine ent tabOK hmix Tryd.func37 rfl rfl fun X0 hX => ?_
  simp only [Tryd.ntmps37, Tryd.f37, go_sem]
  repeat' (first | simp (maxSteps := 1000000) only [*, go_sem, Nat.reduceLT, Nat.reduceLeDiff, Nat.reduceEqDiff, ↓reduceIte, Nat.reduceAdd, Nat.reduceSub, Nat.reduceMul, Int.reduceLT, Int.reduceLE, Int.reduceAdd, Int.reduceSub, Int.reduceMul, Int.reduceNeg, Int.reduceToNat, Int.reduceEq, Int.reduceBEq, Int.reduceBNe, Nat.reduceBEq, beq_self_eq_true, bne_self_eq_false] | with_reducible refine vcond_split (fun _ => ?_) (fun _ => ?_) | with_reducible refine vg_split (fun _ => ?_) (fun _ => ?_) | ((with_reducible apply DCalls.frz); (focus exact rfl); (focus exact rfl)) | ((with_reducible refine And.intro ?_ ?_); (focus (first | omega | decide | assumption | (simp only [decide_eq_true_eq, decide_eq_false_iff_not] at *; omega)))))
  refine useFE (find_c ht hs) rfl (fun _ _ => rfl) fun i hi => ?_
  unfold findE isDirR
  cases hf : foundF t p i
  · have hg := find_no hs hi hf
    rw [hg]
    cases q : (p == [])
    · repeat' (first | simp (maxSteps := 1000000) only [*, go_sem, Nat.reduceLT, Nat.reduceLeDiff, Nat.reduceEqDiff, ↓reduceIte, Nat.reduceAdd, Nat.reduceSub, Nat.reduceMul, Int.reduceLT, Int.reduceLE, Int.reduceAdd, Int.reduceSub, Int.reduceMul, Int.reduceNeg, Int.reduceToNat, Int.reduceEq, Int.reduceBEq, Int.reduceBNe, Nat.reduceBEq, beq_self_eq_true, bne_self_eq_false] | with_reducible refine vcond_split (fun _ => ?_) (fun _ => ?_) | with_reducible refine vg_split (fun _ => ?_) (fun _ => ?_) | ((with_reducible apply DCalls.frz); (focus exact rfl); (focus exact rfl)) | ((with_reducible refine And.intro ?_ ?_); (focus (first | omega | decide | assumption | (simp only [decide_eq_true_eq, decide_eq_false_iff_not] at *; omega)))))
    · repeat' (first | simp (maxSteps := 1000000) only [*, go_sem, Nat.reduceLT, Nat.reduceLeDiff, Nat.reduceEqDiff, ↓reduceIte, Nat.reduceAdd, Nat.reduceSub, Nat.reduceMul, Int.reduceLT, Int.reduceLE, Int.reduceAdd, Int.reduceSub, Int.reduceMul, Int.reduceNeg, Int.reduceToNat, Int.reduceEq, Int.reduceBEq, Int.reduceBNe, Nat.reduceBEq, beq_self_eq_true, bne_self_eq_false] | with_reducible refine vcond_split (fun _ => ?_) (fun _ => ?_) | with_reducible refine vg_split (fun _ => ?_) (fun _ => ?_) | ((with_reducible apply DCalls.frz); (focus exact rfl); (focus exact rfl)) | ((with_reducible refine And.intro ?_ ?_); (focus (first | omega | decide | assumption | (simp only [decide_eq_true_eq, decide_eq_false_iff_not] at *; omega)))))
  · unfold foundF at hf
    cases hx : t[i]? with
    | none => rw [hx] at hf; cases hf
    | some x =>
      rw [hx] at hf
      simp only at hf
      have hg := getR_at hs hx hf
      have he := encT_at hx
      have hil : (i : Int) < t.length := by have := (List.getElem?_eq_some_iff.1 hx).1; omega
      have hi0 : (0 : Int) ≤ i := by omega
      rw [hg]
      clear hg hf hi
      cases q : (p == [])
      · repeat' (first | simp (maxSteps := 1000000) only [*, go_sem, Nat.reduceLT, Nat.reduceLeDiff, Nat.reduceEqDiff, ↓reduceIte, Nat.reduceAdd, Nat.reduceSub, Nat.reduceMul, Int.reduceLT, Int.reduceLE, Int.reduceAdd, Int.reduceSub, Int.reduceMul, Int.reduceNeg, Int.reduceToNat, Int.reduceEq, Int.reduceBEq, Int.reduceBNe, Nat.reduceBEq, beq_self_eq_true, bne_self_eq_false] | with_reducible refine vcond_split (fun _ => ?_) (fun _ => ?_) | with_reducible refine vg_split (fun _ => ?_) (fun _ => ?_) | ((with_reducible apply DCalls.frz); (focus exact rfl); (focus exact rfl)) | ((with_reducible refine And.intro ?_ ?_); (focus (first | omega | decide | assumption | (simp only [decide_eq_true_eq, decide_eq_false_iff_not] at *; omega)))))
      · repeat' (first | simp (maxSteps := 1000000) only [*, go_sem, Nat.reduceLT, Nat.reduceLeDiff, Nat.reduceEqDiff, ↓reduceIte, Nat.reduceAdd, Nat.reduceSub, Nat.reduceMul, Int.reduceLT, Int.reduceLE, Int.reduceAdd, Int.reduceSub, Int.reduceMul, Int.reduceNeg, Int.reduceToNat, Int.reduceEq, Int.reduceBEq, Int.reduceBNe, Nat.reduceBEq, beq_self_eq_true, bne_self_eq_false] | with_reducible refine vcond_split (fun _ => ?_) (fun _ => ?_) | with_reducible refine vg_split (fun _ => ?_) (fun _ => ?_) | ((with_reducible apply DCalls.frz); (focus exact rfl); (focus exact rfl)) | ((with_reducible refine And.intro ?_ ?_); (focus (first | omega | decide | assumption | (simp only [decide_eq_true_eq, decide_eq_false_iff_not] at *; omega)))))

end Go.Proofs.YtfiopamaiolfhaaDoor
