/-
  A call with what it answers said; chapter 16's example.
-/
import Derived.Test.YtnbgaphhhjnjlaaGreatDoorW7
import Derived.Test.YtnbgaphhhjnjlaaGreatDoorCE
set_option linter.unusedSimpArgs false
set_option linter.unusedVariables false
namespace Go.Proofs.YtnbgaphhhjnjlaaGreatDoor
open Go Go.Dm Go.Proofs
set_option maxRecDepth 100000
set_option maxHeartbeats 8000000

theorem doV_c {args : List DV} {t : List It} {ck : Int} {cp cq : List UInt8} {cm : Int} {ct : Nat} {ca cn : Int} {cd : List UInt8} {u : List It} {a : An} (hw : wkDs args [.c (.p (.sl 5 (encT t))), .agg (clc ck cp cq cm ct ca cn cd)]) (h : OkT t) (he : doP t ⟨ck, cp, cq, cm, ct, ca, cn, cd⟩ = (u, a)) (hct : ct < 18446744073709551616) (hcp : cp.length ≤ 9223372036854775807)
    (hcd : cd.length ≤ 140737488355328) (hcq : cq.length ≤ 9223372036854775807) (hca : -9223372036854775808 ≤ ca ∧ ca ≤ 9223372036854775807) :
    DCalls Tryz.prog 10 args [] fun r h => r = .tup [.c (.p (.sl 5 (encT u))), .agg (anv a)] ∧ h = [] := by
  have := do_c (cn := cn) (cm := cm) (ck := ck) h hct hcp hcd hcq hca
  rw [he] at this
  exact DCalls.wkargs hw this

theorem known16_c : DCalls Tryz.prog 11 [] [] fun r h => r = .c (.p (.b true)) ∧ h = [] := by
  have h1 := doV_c (args := [.c (.p .nil), .agg [.p (.i .i64 1), .p (.s [47]), .p (.s []), .p (.i .i64 0), .p (.f 0), .p (.i .i64 0), .p (.i .i64 0), .p .nil]]) (t := []) (ck := 1) (cp := [47]) (cq := []) (cm := 0) (ct := 0) (ca := 0) (cn := 0) (cd := []) (u := []) (a := anE 7)
    (by simp [wkDs, wkD, wkCs, wkC, wkP, encB_nil, encT_nil]) OkT.nil (by rfl) (by decide) (by decide) (by decide) (by decide) (by decide)
  have h2 := doV_c (args := [.c (.p .nil), .agg [.p (.i .i64 1), .p (.s [47, 100]), .p (.s []), .p (.i .i64 493), .p (.f 0), .p (.i .i64 0), .p (.i .i64 0), .p .nil]]) (t := []) (ck := 1) (cp := [47, 100]) (cq := []) (cm := 493) (ct := 0) (ca := 0) (cn := 0) (cd := []) (u := [⟨[100], ⟨2, 493, 0, []⟩⟩]) (a := anE 0)
    (by simp [wkDs, wkD, wkCs, wkC, wkP, encB_nil, encT_nil]) OkT.nil (by rfl) (by decide) (by decide) (by decide) (by decide) (by decide)
  have hE : ∀ e, (anE e).e = e := fun _ => rfl
  have hg : (encT [⟨[100], ⟨2, 493, 0, []⟩⟩]).getD 0 [] = [.s [100], .i .i64 2, .i .i64 493, .f 0, .sl 1 []] := rfl
  refine ent tabOK hmix Tryz.func11 rfl rfl fun X0 hX => ?_
  simp only [Tryz.ntmps11, Tryz.f11, go_sem]
  repeat' (first | simp (maxSteps := 1000000) only [*, go_sem, Nat.reduceLT, Nat.reduceLeDiff, Nat.reduceEqDiff, ↓reduceIte, Nat.reduceAdd, Nat.reduceSub, Nat.reduceMul, Int.reduceLT, Int.reduceLE, Int.reduceAdd, Int.reduceSub, Int.reduceMul, Int.reduceNeg, Int.reduceToNat, Int.reduceEq, Int.reduceBEq, Int.reduceBNe, Nat.reduceBEq, beq_self_eq_true, bne_self_eq_false] | ((with_reducible refine useN (h1) ?_ ?_ ?_); (focus exact rfl); (focus exact fun _ => rfl)) | ((with_reducible refine useN (h2) ?_ ?_ ?_); (focus exact rfl); (focus exact fun _ => rfl)) | with_reducible refine vcond_split (fun _ => ?_) (fun _ => ?_) | with_reducible refine vg_split (fun _ => ?_) (fun _ => ?_) | ((with_reducible apply DCalls.frz); (focus exact rfl); (focus exact rfl)) | ((with_reducible refine And.intro ?_ ?_); (focus (first | omega | decide | assumption | (simp only [decide_eq_true_eq, decide_eq_false_iff_not] at *; omega)))))
end Go.Proofs.YtnbgaphhhjnjlaaGreatDoor
