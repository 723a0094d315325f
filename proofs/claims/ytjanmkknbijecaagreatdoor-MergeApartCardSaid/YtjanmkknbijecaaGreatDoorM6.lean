/-
  Contracts: conflicts alike.
-/
import Derived.Test.YtjanmkknbijecaaGreatDoorM5
import Derived.Test.YtjanmkknbijecaaGreatDoorG5
set_option linter.unusedSimpArgs false
set_option linter.unusedVariables false
namespace Go.Proofs.YtjanmkknbijecaaGreatDoor
open Go Go.Dm
set_option maxRecDepth 100000
set_option maxHeartbeats 4000000

theorem conf_eq {p q : List UInt8} {k m : Int} : EqSem Tryz.prog 55 [.s p, .i .i64 k] [.s q, .i .i64 m] (p == q && k == m) := by
  refine ⟨by kernel_rfl, fun vx vy w hx hy => ?_⟩
  have ex : vx = [.string ⟨p.toArray⟩, .int .i64 k] := by
    match vx, hx with
    | [a, b], hx => simp only [List.map_cons, List.map_nil, flatV, List.cons.injEq, Option.some.injEq, and_true] at hx; rw [← hx.1, ← hx.2]
    | [], hx => simp at hx
    | [_], hx => simp at hx
    | _ :: _ :: _ :: _, hx => simp at hx
  have ey : vy = [.string ⟨q.toArray⟩, .int .i64 m] := by
    match vy, hy with
    | [a, b], hx => simp only [List.map_cons, List.map_nil, flatV, List.cons.injEq, Option.some.injEq, and_true] at hx; rw [← hx.1, ← hx.2]
    | [], hx => simp at hx
    | [_], hx => simp at hx
    | _ :: _ :: _ :: _, hx => simp at hx
  subst ex ey
  have u1 := Tryz.underlying3
  have a1 := Tryz.isAgg3
  have z1 := Tryz.sizeOf3
  have u2 := Tryz.underlying9
  have a2 := Tryz.isAgg9
  have z2 := Tryz.sizeOf9
  have hS : Tryz.prog.underlying 55 = some (.struct (Tryz.prog.fieldsOf 55)) := by kernel_rfl
  have hp : Tryz.prog.stoodInHeld 55 = false := by kernel_rfl
  rw [show (10000 : Nat) = 9999 + 1 from rfl, run_equalIn_agg w 9999 55 _ _ hS hp]
  simp only [Program.fieldsOf, Tryz.underlying55]
  go_simp
  by_cases h1 : p = q <;> by_cases h2 : k = m <;> simp [h1, h2]

theorem conf_neq {ti : TI} {h : DHeap} {p q : List UInt8} {k m : Int} {K : DV → DHeap → Prop} (hK : K (.c (.p (.b (!(p == q && k == m))))) h) :
    vbin Tryz.prog 55 ti h .neq (.agg [.p (.s p), .p (.i .i64 k)]) (.agg [.p (.s q), .p (.i .i64 m)]) K :=
  vbin_agg [.s p, .i .i64 k] [.s q, .i .i64 m] _ rfl rfl rfl rfl conf_eq (.inr ⟨rfl, hK⟩)
theorem conf_eql {ti : TI} {h : DHeap} {p q : List UInt8} {k m : Int} {K : DV → DHeap → Prop} (hK : K (.c (.p (.b (p == q && k == m)))) h) :
    vbin Tryz.prog 55 ti h .eql (.agg [.p (.s p), .p (.i .i64 k)]) (.agg [.p (.s q), .p (.i .i64 m)]) K :=
  vbin_agg [.s p, .i .i64 k] [.s q, .i .i64 m] _ rfl rfl rfl rfl conf_eq (.inl ⟨rfl, hK⟩)

theorem sameF_c {a : List Cf} (ha : a.length ≤ 1000000) : DCalls Tryz.prog 33 [.c (.p (.sl 2 (encF a))), .c (.p (.sl 2 (encF a)))] [] fun r h => r = .c (.p (.b true)) ∧ h = [] := by
  refine ent tabOK hmix Tryz.func33 rfl rfl fun X0 hX => ?_
  simp only [Tryz.ntmps33, Tryz.f33, go_sem]
  repeat' (first | simp (maxSteps := 1000000) only [*, go_sem, Nat.reduceLT, Nat.reduceLeDiff, Nat.reduceEqDiff, ↓reduceIte, Nat.reduceAdd, Nat.reduceSub, Nat.reduceMul, Int.reduceLT, Int.reduceLE, Int.reduceAdd, Int.reduceSub, Int.reduceMul, Int.reduceNeg, Int.reduceToNat, Int.reduceEq, Int.reduceBEq, Int.reduceBNe, Nat.reduceBEq, beq_self_eq_true, bne_self_eq_false] | with_reducible refine vcond_split (fun _ => ?_) (fun _ => ?_) | with_reducible refine vg_split (fun _ => ?_) (fun _ => ?_) | ((with_reducible apply DCalls.frz); (focus exact rfl); (focus exact rfl)) | ((with_reducible refine And.intro ?_ ?_); (focus (first | omega | decide | assumption | (simp only [decide_eq_true_eq, decide_eq_false_iff_not] at *; omega)))))
  refine loop_ren tabOK hmix (α := Nat) (fun k => ⟨26, [(0, .c (.p (.sl 2 (encF a)))), (1, .c (.p (.sl 2 (encF a)))), (5, .c (.p (.i .i64 k)))], []⟩)
    (fun k => k ≤ a.length) (fun k => a.length - k) 0 (Nat.zero_le _) (.inl (weak_mk (by rw [hX]; rfl) rfl rfl (by simp [wk_cons, wk_nil, look_cons, closedD, closedC, encT_nil, encS_nil, encC_nil]))) ?_
  intro k hk
  by_cases hlt : k < a.length
  · have hx : a[k]? = some a[k] := List.getElem?_eq_getElem hlt
    have hg := encF_at hx
    have h1 : decide ((k : Int) < (a.length : Int)) = true := decide_eq_true (by omega)
    have hli : (k : Int) < (a.length : Int) := by omega
    have hk0 : (0 : Int) ≤ k := by omega
    have w1 : IntKind.i64.wrap ((k : Int) + 1) = k + 1 := wrap_i64 (by omega) (by omega)
    generalize a[k] = x at hx hg
    clear hx
    repeat' (first | simp (maxSteps := 1000000) only [*, go_sem, Nat.reduceLT, Nat.reduceLeDiff, Nat.reduceEqDiff, ↓reduceIte, Nat.reduceAdd, Nat.reduceSub, Nat.reduceMul, Int.reduceLT, Int.reduceLE, Int.reduceAdd, Int.reduceSub, Int.reduceMul, Int.reduceNeg, Int.reduceToNat, Int.reduceEq, Int.reduceBEq, Int.reduceBNe, Nat.reduceBEq, beq_self_eq_true, bne_self_eq_false, Bool.not_true, Bool.and_self] | refine conf_neq ?_ | ((refine vc_drawn (id := 6) tabOK hmix [] [0,1,2,3,4,5,6,7,8] (by decide +kernel) ?_); (repeat' (first | (refine ds_nil ?_) | ((refine ds_one ?_ rfl rfl ?_ ?_); (rotate_left 1); (focus ((repeat' (first | simp (maxSteps := 1000000) only [*, go_sem, Nat.reduceLT, Nat.reduceLeDiff, Nat.reduceEqDiff, ↓reduceIte, Nat.reduceAdd, Nat.reduceSub, Nat.reduceMul, Int.reduceLT, Int.reduceLE, Int.reduceAdd, Int.reduceSub, Int.reduceMul, Int.reduceNeg, Int.reduceToNat, Int.reduceEq, Int.reduceBEq, Int.reduceBNe, Nat.reduceBEq, beq_self_eq_true, bne_self_eq_false, Bool.not_true, Bool.and_self] | refine conf_neq ?_ | with_reducible refine vcond_split (fun _ => ?_) (fun _ => ?_) | with_reducible refine vg_split (fun _ => ?_) (fun _ => ?_) | ((with_reducible apply DCalls.frz); (focus exact rfl); (focus exact rfl)) | ((with_reducible refine And.intro ?_ ?_); (focus (first | omega | decide | assumption | (simp only [decide_eq_true_eq, decide_eq_false_iff_not] at *; omega)))))); exact rfl)); (simp only [putF_some, putF_none]))))) | with_reducible refine vcond_split (fun _ => ?_) (fun _ => ?_) | with_reducible refine vg_split (fun _ => ?_) (fun _ => ?_) | ((with_reducible apply DCalls.frz); (focus exact rfl); (focus exact rfl)) | ((with_reducible refine And.intro ?_ ?_); (focus (first | omega | decide | assumption | (simp only [decide_eq_true_eq, decide_eq_false_iff_not] at *; omega)))))
    exact qr_n (k + 1) (by omega) (by omega) (weak_mk rfl rfl rfl (by simp [wk_cons, wk_nil, look_cons, closedD, closedC, renT, renD, renC, encT_nil, encS_nil, encC_nil]))
  · have h1 : decide ((k : Int) < (a.length : Int)) = false := decide_eq_false (by omega)
    repeat' (first | simp (maxSteps := 1000000) only [*, go_sem, Nat.reduceLT, Nat.reduceLeDiff, Nat.reduceEqDiff, ↓reduceIte, Nat.reduceAdd, Nat.reduceSub, Nat.reduceMul, Int.reduceLT, Int.reduceLE, Int.reduceAdd, Int.reduceSub, Int.reduceMul, Int.reduceNeg, Int.reduceToNat, Int.reduceEq, Int.reduceBEq, Int.reduceBNe, Nat.reduceBEq, beq_self_eq_true, bne_self_eq_false] | with_reducible refine vcond_split (fun _ => ?_) (fun _ => ?_) | with_reducible refine vg_split (fun _ => ?_) (fun _ => ?_) | ((with_reducible apply DCalls.frz); (focus exact rfl); (focus exact rfl)) | ((with_reducible refine And.intro ?_ ?_); (focus (first | omega | decide | assumption | (simp only [decide_eq_true_eq, decide_eq_false_iff_not] at *; omega)))))

end Go.Proofs.YtjanmkknbijecaaGreatDoor
