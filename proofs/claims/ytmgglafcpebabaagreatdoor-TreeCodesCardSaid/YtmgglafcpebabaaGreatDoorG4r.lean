/-
  Contracts: a tree's bytes, by the document.
-/
import Derived.Test.YtmgglafcpebabaaGreatDoorG1r
import Derived.Test.YtmgglafcpebabaaGreatDoorG0r
import Derived.Test.YtmgglafcpebabaaGreatDoorG4
set_option linter.unusedSimpArgs false
set_option linter.unusedVariables false
namespace Go.Proofs.YtmgglafcpebabaaGreatDoor
open Go Go.Dm
set_option maxRecDepth 100000
set_option maxHeartbeats 4000000

theorem refLay_c {t : List It} (hl : t.length ≤ 1000000) (hp : ∀ x ∈ t, x.p.length ≤ 1000000000) (ht : ∀ x ∈ t, x.n.t < 18446744073709551616) (hd : ∀ x ∈ t, x.n.d.length ≤ 1000000000) (hr : refT t = true) :
    DCalls Tryz.prog 11 [.c (.p (.sl 5 (encT t)))] [] fun r h => r = .tup [.c (.p (.sl 1 (encB (layTree t)))), .c (.p (.i .i64 0))] ∧ h = [] := by
  have hc := refRight_c hl hp hd
  rw [hr] at hc
  have hok := refT_ok ht hr
  have hlen := hok.len
  refine ent tabOK hmix Tryz.func11 rfl rfl fun X0 hX => ?_
  simp only [Tryz.ntmps11, Tryz.f11, go_sem]
  repeat' (first | simp (maxSteps := 1000000) only [*, go_sem, Nat.reduceLT, Nat.reduceLeDiff, Nat.reduceEqDiff, ↓reduceIte, Nat.reduceAdd, Nat.reduceSub, Nat.reduceMul, Int.reduceLT, Int.reduceLE, Int.reduceAdd, Int.reduceSub, Int.reduceMul, Int.reduceNeg, Int.reduceToNat, Int.reduceEq, Int.reduceBEq, Int.reduceBNe, Nat.reduceBEq, beq_self_eq_true, bne_self_eq_false, wrap_i64_lit, wrap_u64_lit, wrap_i64_m1, Nat.min_def, decide_true, decide_false, encB_snoc, encB_one1, encB_app] | ((with_reducible refine useF (hc) ?_ ?_ ?_); (focus exact rfl); (focus exact rfl)) | ((with_reducible refine entK tabOK hmix Tryz.func48 rfl rfl fun _ _ => ?_); simp only [Tryz.ntmps48, Tryz.f48, go_sem]) | ((with_reducible refine entK tabOK hmix Tryz.func102 rfl rfl fun _ _ => ?_); simp only [Tryz.ntmps102, Tryz.f102, go_sem]) | with_reducible refine vcond_split (fun _ => ?_) (fun _ => ?_) | with_reducible refine vg_split (fun _ => ?_) (fun _ => ?_) | ((with_reducible apply DCalls.frz); (focus exact rfl); (focus exact rfl)) | ((with_reducible refine And.intro ?_ ?_); (focus (first | omega | decide | assumption | (simp only [decide_eq_true_eq, decide_eq_false_iff_not] at *; omega)))))
  refine loop_rounds tabOK hmix 3 ?_
  repeat' (first | simp (maxSteps := 1000000) only [*, go_sem, Nat.reduceLT, Nat.reduceLeDiff, Nat.reduceEqDiff, ↓reduceIte, Nat.reduceAdd, Nat.reduceSub, Nat.reduceMul, Int.reduceLT, Int.reduceLE, Int.reduceAdd, Int.reduceSub, Int.reduceMul, Int.reduceNeg, Int.reduceToNat, Int.reduceEq, Int.reduceBEq, Int.reduceBNe, Nat.reduceBEq, beq_self_eq_true, bne_self_eq_false, wrap_i64_lit, wrap_u64_lit, wrap_i64_m1, Nat.min_def, decide_true, decide_false, encB_snoc, encB_one1, encB_app] | ((with_reducible refine useF (hc) ?_ ?_ ?_); (focus exact rfl); (focus exact rfl)) | ((with_reducible refine entK tabOK hmix Tryz.func48 rfl rfl fun _ _ => ?_); simp only [Tryz.ntmps48, Tryz.f48, go_sem]) | ((with_reducible refine entK tabOK hmix Tryz.func102 rfl rfl fun _ _ => ?_); simp only [Tryz.ntmps102, Tryz.f102, go_sem]) | with_reducible refine vcond_split (fun _ => ?_) (fun _ => ?_) | with_reducible refine vg_split (fun _ => ?_) (fun _ => ?_) | ((with_reducible apply DCalls.frz); (focus exact rfl); (focus exact rfl)) | ((with_reducible refine And.intro ?_ ?_); (focus (first | omega | decide | assumption | (simp only [decide_eq_true_eq, decide_eq_false_iff_not] at *; omega)))))
  refine loop_ren tabOK hmix (α := Nat × List UInt8) (fun x => ⟨47, [(3, .c (.p (.i .i64 0))), (0, .c (.p (.sl 5 (encT t)))), (4, .c (.ptr 0 0)), (5, .c (.p (.i .i64 x.1)))], [.box [.own 1 0 x.2.length], .arr 1 (encB x.2) false]⟩)
    (fun x => x.1 ≤ t.length ∧ x.2.length ≤ 2 + 10000 * x.1 ∧ u16F t.length ++ ((t.take x.1).map layItem).flatten = x.2) (fun x => t.length - x.1) (0, u16F t.length) ⟨Nat.zero_le _, by show 2 ≤ _; omega, by simp⟩ (w0_ren 1 4 (by rw [hX]; rfl) rfl (weak_mk (by rw [hX]; rfl) rfl rfl (by simp [wk_cons, wk_nil, look_cons, closedD, closedC, renT, renD, renC, encT_nil, encS_nil, encC_nil]))) ?_
  rintro ⟨k, B⟩ ⟨hk, hB, hJ⟩
  simp only at hk hB hJ
  by_cases hlt : k < t.length
  · have hx : t[k]? = some t[k] := List.getElem?_eq_getElem hlt
    have hg := encT_at hx
    have h1 : decide ((k : Int) < (t.length : Int)) = true := decide_eq_true (by omega)
    have hki : (k : Int) < (t.length : Int) := by omega
    have hk0 : (0 : Int) ≤ k := by omega
    have w1 : IntKind.i64.wrap ((k : Int) + 1) = k + 1 := wrap_i64 (by omega) (by omega)
    obtain ⟨_, o2, o3, o4⟩ := hok.its _ (List.getElem_mem hlt)
    have hpl := isPathR_len o2
    have hdl := rightNodeR_len o3
    have hd1 : decide ((65535 : Int) < (t[k].p.length : Int)) = false := decide_eq_false (by omega)
    have hlay := refLayNode_c (k := t[k].n.k) (m := t[k].n.m) (t := t[k].n.t) (d := t[k].n.d) o3
    have hll := layNode_len t[k].n
    have hit : t.take (k + 1) = t.take k ++ [t[k]] := by rw [List.take_add_one, hx]; rfl
    have hJ' : k + 1 ≤ t.length ∧ (B ++ layItem t[k]).length ≤ 2 + 10000 * (k + 1) ∧ u16F t.length ++ ((t.take (k + 1)).map layItem).flatten = B ++ layItem t[k] := ⟨by omega, by rw [List.length_append, layItem_len]; omega, by rw [hit, List.map_append, List.flatten_append, ← List.append_assoc, hJ]; simp⟩
    clear hJ hit hx
    rw [it_nd_eta] at hlay
    generalize hxx : t[k] = x at *
    clear hxx
    repeat' (first | simp (maxSteps := 1000000) only [*, go_sem, Nat.reduceLT, Nat.reduceLeDiff, Nat.reduceEqDiff, ↓reduceIte, Nat.reduceAdd, Nat.reduceSub, Nat.reduceMul, Int.reduceLT, Int.reduceLE, Int.reduceAdd, Int.reduceSub, Int.reduceMul, Int.reduceNeg, Int.reduceToNat, Int.reduceEq, Int.reduceBEq, Int.reduceBNe, Nat.reduceBEq, beq_self_eq_true, bne_self_eq_false, wrap_i64_lit, wrap_u64_lit, wrap_i64_m1, Nat.min_def, decide_true, decide_false, encB_snoc, encB_one1, encB_app] | ((with_reducible refine useF (hc) ?_ ?_ ?_); (focus exact rfl); (focus exact rfl)) | ((with_reducible refine entK tabOK hmix Tryz.func48 rfl rfl fun _ _ => ?_); simp only [Tryz.ntmps48, Tryz.f48, go_sem]) | ((with_reducible refine entK tabOK hmix Tryz.func102 rfl rfl fun _ _ => ?_); simp only [Tryz.ntmps102, Tryz.f102, go_sem]) | ((with_reducible refine entR tabOK hmix Tryz.func49 rfl rfl fun _ _ => ?_); simp only [Tryz.ntmps49, Tryz.f49, go_sem]) | ((with_reducible refine entK tabOK hmix Tryz.func51 rfl rfl fun _ _ => ?_); simp only [Tryz.ntmps51, Tryz.f51, go_sem]) | ((with_reducible refine useN (hlay) ?_ ?_ ?_); (focus exact rfl); (focus exact fun _ => rfl)) | with_reducible refine vcond_split (fun _ => ?_) (fun _ => ?_) | with_reducible refine vg_split (fun _ => ?_) (fun _ => ?_) | ((with_reducible apply DCalls.frz); (focus exact rfl); (focus exact rfl)) | ((with_reducible refine And.intro ?_ ?_); (focus (first | omega | decide | assumption | (simp only [decide_eq_true_eq, decide_eq_false_iff_not] at *; omega)))))
    refine loop_rounds tabOK hmix 3 ?_
    repeat' (first | simp (maxSteps := 1000000) only [*, go_sem, Nat.reduceLT, Nat.reduceLeDiff, Nat.reduceEqDiff, ↓reduceIte, Nat.reduceAdd, Nat.reduceSub, Nat.reduceMul, Int.reduceLT, Int.reduceLE, Int.reduceAdd, Int.reduceSub, Int.reduceMul, Int.reduceNeg, Int.reduceToNat, Int.reduceEq, Int.reduceBEq, Int.reduceBNe, Nat.reduceBEq, beq_self_eq_true, bne_self_eq_false, wrap_i64_lit, wrap_u64_lit, wrap_i64_m1, Nat.min_def, decide_true, decide_false, encB_snoc, encB_one1, encB_app] | ((with_reducible refine useF (hc) ?_ ?_ ?_); (focus exact rfl); (focus exact rfl)) | ((with_reducible refine entK tabOK hmix Tryz.func48 rfl rfl fun _ _ => ?_); simp only [Tryz.ntmps48, Tryz.f48, go_sem]) | ((with_reducible refine entK tabOK hmix Tryz.func102 rfl rfl fun _ _ => ?_); simp only [Tryz.ntmps102, Tryz.f102, go_sem]) | ((with_reducible refine entR tabOK hmix Tryz.func49 rfl rfl fun _ _ => ?_); simp only [Tryz.ntmps49, Tryz.f49, go_sem]) | ((with_reducible refine entK tabOK hmix Tryz.func51 rfl rfl fun _ _ => ?_); simp only [Tryz.ntmps51, Tryz.f51, go_sem]) | ((with_reducible refine useN (hlay) ?_ ?_ ?_); (focus exact rfl); (focus exact fun _ => rfl)) | with_reducible refine vcond_split (fun _ => ?_) (fun _ => ?_) | with_reducible refine vg_split (fun _ => ?_) (fun _ => ?_) | ((with_reducible apply DCalls.frz); (focus exact rfl); (focus exact rfl)) | ((with_reducible refine And.intro ?_ ?_); (focus (first | omega | decide | assumption | (simp only [decide_eq_true_eq, decide_eq_false_iff_not] at *; omega)))))
    have e1 : B ++ [UInt8.ofNat (IntKind.u8.wrap ((IntKind.u64.wrap ↑x.p.length).fdiv (2 ^ 8))).toNat] ++ [UInt8.ofNat (IntKind.u8.wrap ((IntKind.u64.wrap ↑x.p.length).fdiv (2 ^ 0))).toNat] ++ x.p ++ layNode x.n = B ++ layItem x := by simp [layItem, textF, u16F, byteI]
    have e2 : B.length + 1 + 1 + x.p.length + (13 + x.n.d.length) = (B ++ layItem x).length := by rw [List.length_append, layItem_len]; omega
    first | rw [e1, e2] | rw [e2]
    exact qr_ren (k + 1, B ++ layItem x) 1 8 hJ' (by simp only; omega) rfl rfl (weak_mk rfl rfl rfl (by simp [wk_cons, wk_nil, look_cons, closedD, closedC, renT, renD, renC, encT_nil, encS_nil, encC_nil]))
  · have h1 : decide ((k : Int) < (t.length : Int)) = false := decide_eq_false (by omega)
    rw [List.take_of_length_le (by omega)] at hJ
    have hf : layTree t = B := hJ
    rw [hf]
    clear hJ hf
    repeat' (first | simp (maxSteps := 1000000) only [*, go_sem, Nat.reduceLT, Nat.reduceLeDiff, Nat.reduceEqDiff, ↓reduceIte, Nat.reduceAdd, Nat.reduceSub, Nat.reduceMul, Int.reduceLT, Int.reduceLE, Int.reduceAdd, Int.reduceSub, Int.reduceMul, Int.reduceNeg, Int.reduceToNat, Int.reduceEq, Int.reduceBEq, Int.reduceBNe, Nat.reduceBEq, beq_self_eq_true, bne_self_eq_false, wrap_i64_lit, wrap_u64_lit, wrap_i64_m1, Nat.min_def, decide_true, decide_false, encB_snoc, encB_one1, encB_app] | ((with_reducible refine useF (hc) ?_ ?_ ?_); (focus exact rfl); (focus exact rfl)) | ((with_reducible refine entK tabOK hmix Tryz.func48 rfl rfl fun _ _ => ?_); simp only [Tryz.ntmps48, Tryz.f48, go_sem]) | ((with_reducible refine entK tabOK hmix Tryz.func102 rfl rfl fun _ _ => ?_); simp only [Tryz.ntmps102, Tryz.f102, go_sem]) | ((with_reducible refine entR tabOK hmix Tryz.func49 rfl rfl fun _ _ => ?_); simp only [Tryz.ntmps49, Tryz.f49, go_sem]) | ((with_reducible refine entK tabOK hmix Tryz.func51 rfl rfl fun _ _ => ?_); simp only [Tryz.ntmps51, Tryz.f51, go_sem]) | ((with_reducible refine useN (hlay) ?_ ?_ ?_); (focus exact rfl); (focus exact fun _ => rfl)) | with_reducible refine vcond_split (fun _ => ?_) (fun _ => ?_) | with_reducible refine vg_split (fun _ => ?_) (fun _ => ?_) | ((with_reducible apply DCalls.frz); (focus exact rfl); (focus exact rfl)) | ((with_reducible refine And.intro ?_ ?_); (focus (first | omega | decide | assumption | (simp only [decide_eq_true_eq, decide_eq_false_iff_not] at *; omega)))))
    all_goals first | (refine ⟨?_, ?_, rfl, rfl⟩ <;> omega) | exact ⟨rfl, rfl⟩ | omega | trace_state

theorem refLayN_c {t : List It} (hl : t.length ≤ 1000000) (hp : ∀ x ∈ t, x.p.length ≤ 1000000000) (ht : ∀ x ∈ t, x.n.t < 18446744073709551616) (hd : ∀ x ∈ t, x.n.d.length ≤ 1000000000) (hr : refT t = false) :
    DCalls Tryz.prog 11 [.c (.p (.sl 5 (encT t)))] [] fun r h => r = .tup [.c (.p (.sl 1 (encB []))), .c (.p (.i .i64 1))] ∧ h = [] := by
  have hc := refRight_c hl hp hd
  rw [hr] at hc
  refine dcalls_wk ?_
  refine ent tabOK hmix Tryz.func11 rfl rfl fun X0 hX => ?_
  simp only [Tryz.ntmps11, Tryz.f11, go_sem]
  repeat' (first | simp (maxSteps := 1000000) only [*, go_sem, Nat.reduceLT, Nat.reduceLeDiff, Nat.reduceEqDiff, ↓reduceIte, Nat.reduceAdd, Nat.reduceSub, Nat.reduceMul, Int.reduceLT, Int.reduceLE, Int.reduceAdd, Int.reduceSub, Int.reduceMul, Int.reduceNeg, Int.reduceToNat, Int.reduceEq, Int.reduceBEq, Int.reduceBNe, Nat.reduceBEq, beq_self_eq_true, bne_self_eq_false] | ((with_reducible refine useF (hc) ?_ ?_ ?_); (focus exact rfl); (focus exact rfl)) | with_reducible refine vcond_split (fun _ => ?_) (fun _ => ?_) | with_reducible refine vg_split (fun _ => ?_) (fun _ => ?_) | ((with_reducible apply DCalls.frz); (focus exact rfl); (focus exact rfl)) | ((with_reducible refine And.intro ?_ ?_); (focus (first | omega | decide | assumption | (simp only [decide_eq_true_eq, decide_eq_false_iff_not] at *; omega)))))
  all_goals first | (simp [encB]; done) | trace_state

end Go.Proofs.YtmgglafcpebabaaGreatDoor
