/-
  The law of changes' bytes, walked.
-/
import Derived.Test.YtmgglafcpebabaaGreatDoorD15
import Derived.Test.YtmgglafcpebabaaGreatDoorD17
import Derived.Test.YtmgglafcpebabaaGreatDoorE2o
import Derived.Test.YtmgglafcpebabaaGreatDoorJ3
import Derived.Test.YtmgglafcpebabaaGreatDoorJ3r
import Derived.Test.YtmgglafcpebabaaGreatDoorH1
set_option linter.unusedSimpArgs false
set_option linter.unusedVariables false
namespace Go.Proofs.YtmgglafcpebabaaGreatDoor
open Go Go.Dm
set_option maxRecDepth 100000
set_option maxHeartbeats 4000000

theorem encC_setp (t : List Ch) (i : Nat) (p : List UInt8) (ck k m k2 m2 : Int) (tt t2 : Nat) (d d2 : List UInt8) : (encC t).set i [.s p, .i .i64 ck, .i .i64 k, .i .i64 m, .f tt, .sl 1 (encB d), .i .i64 k2, .i .i64 m2, .f t2, .sl 1 (encB d2)] = encC (t.set i ⟨p, ck, ⟨k, m, tt, d⟩, ⟨k2, m2, t2, d2⟩⟩) := by
  unfold encC
  rw [List.map_set]; rfl
/-- Changes no greater than what a law lays. -/
def okC (x : Ch) : Prop := x.p.length ≤ 1000 ∧ (x.o.t < 18446744073709551616 ∧ x.o.d.length ≤ 10000) ∧ (x.n.t < 18446744073709551616 ∧ x.n.d.length ≤ 10000)
def smallC (t : List Ch) : Prop := t.length ≤ 500 ∧ ∀ x ∈ t, okC x
theorem smallC_set {t : List Ch} (h : smallC t) (k : Nat) {y : Ch} (hy : okC y) : smallC (t.set k y) :=
  ⟨by rw [List.length_set]; exact h.1, fun x hx => by
    rcases List.mem_or_eq_of_mem_set hx with hx | rfl
    · exact h.2 x hx
    · exact hy⟩

theorem diffCodes_c {l : List RI} {ts : List RU} {bend at_ how by_ xk xm xt : Int} {xx : Nat} {xd raw : List UInt8} {ats : List Int} (hl : l.length ≤ 9223372036854775807) (hd : ∀ x ∈ l, x.n.d.length ≤ 9223372036854775807) (hdx : ∀ x ∈ l, x.n.x < 18446744073709551616)
    (hl2 : ts.length ≤ 9223372036854775807) (hd2 : ∀ x ∈ ts, x.n.d.length ≤ 9223372036854775807) (hdx2 : ∀ x ∈ ts, x.n.x < 18446744073709551616) (hxx : xx < 18446744073709551616) (hxd : xd.length ≤ 9223372036854775807)
    (hraw : raw.length ≤ 140737488355328) (hats : ats.length ≤ 9223372036854775807) :
    DCalls Tryz.prog 5 [.c (.p (.sl 6 (Go.Dm.encI l))), .c (.p (.sl 8 (Go.Dm.encU ts))), .c (.p (.i .i64 bend)), .c (.p (.i .i64 at_)), .agg [.p (.i .i64 xk), .p (.i .i64 xm), .p (.i .i64 xt), .p (.f xx), .p (.sl 1 (encB xd))], .c (.p (.sl 1 (encB raw))), .c (.p (.i .i64 how)), .c (.p (.sl 1 (encZ ats))), .c (.p (.i .u8 by_))] [] fun r h => r = .c (.p (.b true)) ∧ h = [] := by
  refine entS tabOK Tryz.func5 rfl rfl fun X0 hX => ?_
  simp only [Tryz.ntmps5, Tryz.f5, go_sem]
  refine swp_first tabOK hmix ?_
  repeat' (first | simp (maxSteps := 1000000) only [*, go_sem, Nat.reduceLT, Nat.reduceLeDiff, Nat.reduceEqDiff, ↓reduceIte, Nat.reduceAdd, Nat.reduceSub, Nat.reduceMul, Int.reduceLT, Int.reduceLE, Int.reduceAdd, Int.reduceSub, Int.reduceMul, Int.reduceNeg, Int.reduceToNat, Int.reduceEq, Int.reduceBEq, Int.reduceBNe, Nat.reduceBEq, beq_self_eq_true, bne_self_eq_false] | with_reducible refine vcond_split (fun _ => ?_) (fun _ => ?_) | with_reducible refine vg_split (fun _ => ?_) (fun _ => ?_) | ((with_reducible apply DCalls.frz); (focus exact rfl); (focus exact rfl)) | ((with_reducible refine And.intro ?_ ?_); (focus (first | omega | decide | assumption | (simp only [decide_eq_true_eq, decide_eq_false_iff_not] at *; omega)))))
  refine swp_first tabOK hmix ?_
  repeat' (first | simp (maxSteps := 1000000) only [*, go_sem, Nat.reduceLT, Nat.reduceLeDiff, Nat.reduceEqDiff, ↓reduceIte, Nat.reduceAdd, Nat.reduceSub, Nat.reduceMul, Int.reduceLT, Int.reduceLE, Int.reduceAdd, Int.reduceSub, Int.reduceMul, Int.reduceNeg, Int.reduceToNat, Int.reduceEq, Int.reduceBEq, Int.reduceBNe, Nat.reduceBEq, beq_self_eq_true, bne_self_eq_false] | with_reducible refine vcond_split (fun _ => ?_) (fun _ => ?_) | with_reducible refine vg_split (fun _ => ?_) (fun _ => ?_) | ((with_reducible apply DCalls.frz); (focus exact rfl); (focus exact rfl)) | ((with_reducible refine And.intro ?_ ?_); (focus (first | omega | decide | assumption | (simp only [decide_eq_true_eq, decide_eq_false_iff_not] at *; omega)))))
  refine useNE (C := OkT) (e := fun t => .c (.p (.sl 5 (encT t)))) (tree_c hl hd hdx) rfl (fun _ _ _ => rfl) fun t ht => ?_
  repeat' (first | simp (maxSteps := 1000000) only [*, go_sem, Nat.reduceLT, Nat.reduceLeDiff, Nat.reduceEqDiff, ↓reduceIte, Nat.reduceAdd, Nat.reduceSub, Nat.reduceMul, Int.reduceLT, Int.reduceLE, Int.reduceAdd, Int.reduceSub, Int.reduceMul, Int.reduceNeg, Int.reduceToNat, Int.reduceEq, Int.reduceBEq, Int.reduceBNe, Nat.reduceBEq, beq_self_eq_true, bne_self_eq_false] | with_reducible refine vcond_split (fun _ => ?_) (fun _ => ?_) | with_reducible refine vg_split (fun _ => ?_) (fun _ => ?_) | ((with_reducible apply DCalls.frz); (focus exact rfl); (focus exact rfl)) | ((with_reducible refine And.intro ?_ ?_); (focus (first | omega | decide | assumption | (simp only [decide_eq_true_eq, decide_eq_false_iff_not] at *; omega)))))
  refine swp_first tabOK hmix ?_
  repeat' (first | simp (maxSteps := 1000000) only [*, go_sem, Nat.reduceLT, Nat.reduceLeDiff, Nat.reduceEqDiff, ↓reduceIte, Nat.reduceAdd, Nat.reduceSub, Nat.reduceMul, Int.reduceLT, Int.reduceLE, Int.reduceAdd, Int.reduceSub, Int.reduceMul, Int.reduceNeg, Int.reduceToNat, Int.reduceEq, Int.reduceBEq, Int.reduceBNe, Nat.reduceBEq, beq_self_eq_true, bne_self_eq_false] | with_reducible refine vcond_split (fun _ => ?_) (fun _ => ?_) | with_reducible refine vg_split (fun _ => ?_) (fun _ => ?_) | ((with_reducible apply DCalls.frz); (focus exact rfl); (focus exact rfl)) | ((with_reducible refine And.intro ?_ ?_); (focus (first | omega | decide | assumption | (simp only [decide_eq_true_eq, decide_eq_false_iff_not] at *; omega)))))
  refine useNE (C := OkT) (e := fun t => .c (.p (.sl 5 (encT t)))) (turned_c ht hl2 hd2 hdx2) rfl (fun _ _ _ => rfl) fun u hu => ?_
  have hdo := refDiffO_c ht hu
  rw [refDiff_eq ht hu] at hdo
  have hsc : smallC (diffF t u) := ⟨by have := diffF_len t u; have := ht.len; have := hu.len; omega, fun x hx => by
    obtain ⟨h1, h2⟩ := diffF_nodes hx
    obtain ⟨h3, h4⟩ := diffF_wf ht hu hx
    obtain ⟨_, _, _, _, _, m6⟩ := mayC_nodes (diffF_may ht hu x hx)
    have hpl := isPathR_len m6
    have e1 : x.o.d.length ≤ 2000 := by rw [h1]; exact ht.getd _
    have e2 : x.n.d.length ≤ 2000 := by rw [h2]; exact hu.getd _
    exact ⟨by omega, ⟨h3, by omega⟩, ⟨h4, by omega⟩⟩⟩
  have hp120 : ∀ x ∈ diffF t u, x.p.length ≤ 120 := fun x hx => by
    obtain ⟨_, _, _, _, _, m6⟩ := mayC_nodes (diffF_may ht hu x hx)
    exact isPathR_len m6
  have hc240 : (diffF t u).length ≤ 240 := by have := diffF_len t u; have := ht.len; have := hu.len; omega
  generalize diffF t u = c at hdo hsc hp120 hc240
  clear ht hu
  repeat' (first | simp (maxSteps := 1000000) only [*, go_sem, Nat.reduceLT, Nat.reduceLeDiff, Nat.reduceEqDiff, ↓reduceIte, Nat.reduceAdd, Nat.reduceSub, Nat.reduceMul, Int.reduceLT, Int.reduceLE, Int.reduceAdd, Int.reduceSub, Int.reduceMul, Int.reduceNeg, Int.reduceToNat, Int.reduceEq, Int.reduceBEq, Int.reduceBNe, Nat.reduceBEq, beq_self_eq_true, bne_self_eq_false] | refine useO hdo rfl ?_ | with_reducible refine vcond_split (fun _ => ?_) (fun _ => ?_) | with_reducible refine vg_split (fun _ => ?_) (fun _ => ?_) | ((with_reducible apply DCalls.frz); (focus exact rfl); (focus exact rfl)) | ((with_reducible refine And.intro ?_ ?_); (focus (first | omega | decide | assumption | (simp only [decide_eq_true_eq, decide_eq_false_iff_not] at *; omega)))))
  clear hdo
  refine swp_join tabOK hmix (α := List Ch) (fun c => ⟨191, [(5, .c (.p (.sl 1 (encB raw)))), (6, .c (.p (.i .i64 how))), (7, .c (.p (.sl 1 (encZ ats)))), (8, .c (.p (.i .u8 by_))), (20, .c (.p (.sl 10 (encC c))))], []⟩) smallC ?_ ?_
  · have hcl := hsc.1
    by_cases h0 : 0 < c.length
    · have h1 : decide ((0 : Int) < (c.length : Int)) = true := decide_eq_true (by omega)
      repeat' (first | simp (maxSteps := 1000000) only [*, go_sem, Nat.reduceLT, Nat.reduceLeDiff, Nat.reduceEqDiff, ↓reduceIte, Nat.reduceAdd, Nat.reduceSub, Nat.reduceMul, Int.reduceLT, Int.reduceLE, Int.reduceAdd, Int.reduceSub, Int.reduceMul, Int.reduceNeg, Int.reduceToNat, Int.reduceEq, Int.reduceBEq, Int.reduceBNe, Nat.reduceBEq, beq_self_eq_true, bne_self_eq_false] | with_reducible refine vcond_split (fun _ => ?_) (fun _ => ?_) | with_reducible refine vg_split (fun _ => ?_) (fun _ => ?_) | ((with_reducible apply DCalls.frz); (focus exact rfl); (focus exact rfl)) | ((with_reducible refine And.intro ?_ ?_); (focus (first | omega | decide | assumption | (simp only [decide_eq_true_eq, decide_eq_false_iff_not] at *; omega)))))
      refine useFE (C := fun k : Nat => (k : Int) < c.length) (e := fun k => .c (.p (.i .i64 k))) (pickN_c (by omega) (by omega)) rfl (fun _ _ => rfl) fun k hk => ?_
      have hkt : k < c.length := by omega
      have hx : c[k]? = some c[k] := List.getElem?_eq_getElem hkt
      have hg := encC_at hx
      have hox := hsc.2 _ (List.getElem_mem hkt)
      have hmx : c[k] ∈ c := List.getElem_mem hkt
      have hxp := hp120 _ hmx
      clear hp120
      generalize c[k] = x at hx hg hox hmx hxp
      obtain ⟨o1, o2, o3⟩ := hox
      have hpl2 : x.p.length ≤ 9223372036854775806 := by omega
      have hlr : k < (encC c).length := by rw [encC_len]; omega
      have hk0 : (0 : Int) ≤ k := by omega
      have hnf := nodeF_c (k := xk) (m := xm) (t := xt) (x := xx) (d := xd) hxd
      have hnl := nodeD_len ⟨xk, xm, xt, xx, xd⟩
      have hnw := nodeF_wf (x := ⟨xk, xm, xt, xx, xd⟩) hxx
      change (nodeF ⟨xk, xm, xt, xx, xd⟩).d.length ≤ 60 at hnl
      generalize nodeF ⟨xk, xm, xt, xx, xd⟩ = nn at hnf hnl hnw
      clear hl hd hdx hl2 hd2 hdx2 hx
      repeat' (first | simp (maxSteps := 1000000) only [*, go_sem, Nat.reduceLT, Nat.reduceLeDiff, Nat.reduceEqDiff, ↓reduceIte, Nat.reduceAdd, Nat.reduceSub, Nat.reduceMul, Int.reduceLT, Int.reduceLE, Int.reduceAdd, Int.reduceSub, Int.reduceMul, Int.reduceNeg, Int.reduceToNat, Int.reduceEq, Int.reduceBEq, Int.reduceBNe, Nat.reduceBEq, beq_self_eq_true, bne_self_eq_false] | with_reducible refine vcond_split (fun _ => ?_) (fun _ => ?_) | with_reducible refine vg_split (fun _ => ?_) (fun _ => ?_) | ((with_reducible apply DCalls.frz); (focus exact rfl); (focus exact rfl)) | ((with_reducible refine And.intro ?_ ?_); (focus (first | omega | decide | assumption | (simp only [decide_eq_true_eq, decide_eq_false_iff_not] at *; omega)))))
      refine useFE (C := fun k : Nat => (k : Int) < 14) (e := fun k => .c (.p (.i .i64 k))) (pickN_c (by omega) (by omega)) rfl (fun _ _ => rfl) fun j hj => ?_
      have hj6 : j = 0 ∨ j = 1 ∨ j = 2 ∨ j = 3 ∨ j = 4 ∨ j = 5 ∨ 6 ≤ j := by omega
      rcases hj6 with rfl | rfl | rfl | rfl | rfl | rfl | hj6
      · repeat' (first | simp (maxSteps := 1000000) only [*, go_sem, Nat.reduceLT, Nat.reduceLeDiff, Nat.reduceEqDiff, ↓reduceIte, Nat.reduceAdd, Nat.reduceSub, Nat.reduceMul, Int.reduceLT, Int.reduceLE, Int.reduceAdd, Int.reduceSub, Int.reduceMul, Int.reduceNeg, Int.reduceToNat, Int.reduceEq, Int.reduceBEq, Int.reduceBNe, Nat.reduceBEq, beq_self_eq_true, bne_self_eq_false] | with_reducible refine vcond_split (fun _ => ?_) (fun _ => ?_) | with_reducible refine vg_split (fun _ => ?_) (fun _ => ?_) | ((with_reducible apply DCalls.frz); (focus exact rfl); (focus exact rfl)) | ((with_reducible refine And.intro ?_ ?_); (focus (first | omega | decide | assumption | (simp only [decide_eq_true_eq, decide_eq_false_iff_not] at *; omega)))))
        refine useFE (C := fun k : Nat => (k : Int) < 7) (e := fun k => .c (.p (.i .i64 k))) (pickN_c (by omega) (by omega)) rfl (fun _ _ => rfl) fun kk hkk => ?_
        repeat' (first | simp (maxSteps := 1000000) only [*, go_sem, Nat.reduceLT, Nat.reduceLeDiff, Nat.reduceEqDiff, ↓reduceIte, Nat.reduceAdd, Nat.reduceSub, Nat.reduceMul, Int.reduceLT, Int.reduceLE, Int.reduceAdd, Int.reduceSub, Int.reduceMul, Int.reduceNeg, Int.reduceToNat, Int.reduceEq, Int.reduceBEq, Int.reduceBNe, Nat.reduceBEq, beq_self_eq_true, bne_self_eq_false, set_at hlr, List.set_set, List.length_set, encC_setp] | with_reducible refine vcond_split (fun _ => ?_) (fun _ => ?_) | with_reducible refine vg_split (fun _ => ?_) (fun _ => ?_) | ((with_reducible apply DCalls.frz); (focus exact rfl); (focus exact rfl)) | ((with_reducible refine And.intro ?_ ?_); (focus (first | omega | decide | assumption | (simp only [decide_eq_true_eq, decide_eq_false_iff_not] at *; omega)))))
        exact qj_data (c.set k ⟨x.p, kk, ⟨x.o.k, x.o.m, x.o.t, x.o.d⟩, ⟨x.n.k, x.n.m, x.n.t, x.n.d⟩⟩) 20 1 0 c.length (smallC_set hsc k ⟨o1, o2, o3⟩) rfl (pvOf_row rfl (by rw [encC_len, List.length_set])) (weak_mk (by rw [hX]; rfl) rfl rfl (by simp [wk_cons, wk_nil, look_cons, closedD, closedC, renT, renD, renC, encT_nil, encS_nil, encC_nil]))
      · repeat' (first | simp (maxSteps := 1000000) only [*, go_sem, Nat.reduceLT, Nat.reduceLeDiff, Nat.reduceEqDiff, ↓reduceIte, Nat.reduceAdd, Nat.reduceSub, Nat.reduceMul, Int.reduceLT, Int.reduceLE, Int.reduceAdd, Int.reduceSub, Int.reduceMul, Int.reduceNeg, Int.reduceToNat, Int.reduceEq, Int.reduceBEq, Int.reduceBNe, Nat.reduceBEq, beq_self_eq_true, bne_self_eq_false, set_at hlr, List.set_set, List.length_set, encC_setp] | with_reducible refine vcond_split (fun _ => ?_) (fun _ => ?_) | with_reducible refine vg_split (fun _ => ?_) (fun _ => ?_) | ((with_reducible apply DCalls.frz); (focus exact rfl); (focus exact rfl)) | ((with_reducible refine And.intro ?_ ?_); (focus (first | omega | decide | assumption | (simp only [decide_eq_true_eq, decide_eq_false_iff_not] at *; omega)))))
        exact qj_data (c.set k ⟨x.p, x.k, ⟨x.n.k, x.n.m, x.n.t, x.n.d⟩, ⟨x.n.k, x.n.m, x.n.t, x.n.d⟩⟩) 20 1 0 c.length (smallC_set hsc k ⟨o1, o3, o3⟩) rfl (pvOf_row rfl (by rw [encC_len, List.length_set])) (weak_mk (by rw [hX]; rfl) rfl rfl (by simp [wk_cons, wk_nil, look_cons, closedD, closedC, renT, renD, renC, encT_nil, encS_nil, encC_nil]))
      · repeat' (first | simp (maxSteps := 1000000) only [*, go_sem, Nat.reduceLT, Nat.reduceLeDiff, Nat.reduceEqDiff, ↓reduceIte, Nat.reduceAdd, Nat.reduceSub, Nat.reduceMul, Int.reduceLT, Int.reduceLE, Int.reduceAdd, Int.reduceSub, Int.reduceMul, Int.reduceNeg, Int.reduceToNat, Int.reduceEq, Int.reduceBEq, Int.reduceBNe, Nat.reduceBEq, beq_self_eq_true, bne_self_eq_false, set_at hlr, List.set_set, List.length_set, encC_setp] | ((with_reducible refine useN (hnf) ?_ ?_ ?_); (focus exact rfl); (focus exact fun _ => rfl)) | with_reducible refine vcond_split (fun _ => ?_) (fun _ => ?_) | with_reducible refine vg_split (fun _ => ?_) (fun _ => ?_) | ((with_reducible apply DCalls.frz); (focus exact rfl); (focus exact rfl)) | ((with_reducible refine And.intro ?_ ?_); (focus (first | omega | decide | assumption | (simp only [decide_eq_true_eq, decide_eq_false_iff_not] at *; omega)))))
        exact qj_data (c.set k ⟨x.p, x.k, ⟨x.o.k, x.o.m, x.o.t, x.o.d⟩, ⟨nn.k, nn.m, nn.t, nn.d⟩⟩) 20 1 0 c.length (smallC_set hsc k ⟨o1, o2, ⟨hnw, show nn.d.length ≤ 10000 by omega⟩⟩) rfl (pvOf_row rfl (by rw [encC_len, List.length_set])) (weak_mk (by rw [hX]; rfl) rfl rfl (by simp [wk_cons, wk_nil, look_cons, closedD, closedC, renT, renD, renC, encT_nil, encS_nil, encC_nil]))
      · repeat' (first | simp (maxSteps := 1000000) only [*, go_sem, Nat.reduceLT, Nat.reduceLeDiff, Nat.reduceEqDiff, ↓reduceIte, Nat.reduceAdd, Nat.reduceSub, Nat.reduceMul, Int.reduceLT, Int.reduceLE, Int.reduceAdd, Int.reduceSub, Int.reduceMul, Int.reduceNeg, Int.reduceToNat, Int.reduceEq, Int.reduceBEq, Int.reduceBNe, Nat.reduceBEq, beq_self_eq_true, bne_self_eq_false, set_at hlr, List.set_set, List.length_set, encC_setp] | with_reducible refine vcond_split (fun _ => ?_) (fun _ => ?_) | with_reducible refine vg_split (fun _ => ?_) (fun _ => ?_) | ((with_reducible apply DCalls.frz); (focus exact rfl); (focus exact rfl)) | ((with_reducible refine And.intro ?_ ?_); (focus (first | omega | decide | assumption | (simp only [decide_eq_true_eq, decide_eq_false_iff_not] at *; omega)))))
        exact qj_data (c.set k ⟨x.p ++ [47], x.k, ⟨x.o.k, x.o.m, x.o.t, x.o.d⟩, ⟨x.n.k, x.n.m, x.n.t, x.n.d⟩⟩) 20 1 0 c.length (smallC_set hsc k ⟨show (x.p ++ [47]).length ≤ 1000 by rw [List.length_append]; simp only [List.length_cons, List.length_nil]; omega, o2, o3⟩) rfl (pvOf_row rfl (by rw [encC_len, List.length_set])) (weak_mk (by rw [hX]; rfl) rfl rfl (by simp [wk_cons, wk_nil, look_cons, closedD, closedC, renT, renD, renC, encT_nil, encS_nil, encC_nil]))
      · repeat' (first | simp (maxSteps := 1000000) only [*, go_sem, Nat.reduceLT, Nat.reduceLeDiff, Nat.reduceEqDiff, ↓reduceIte, Nat.reduceAdd, Nat.reduceSub, Nat.reduceMul, Int.reduceLT, Int.reduceLE, Int.reduceAdd, Int.reduceSub, Int.reduceMul, Int.reduceNeg, Int.reduceToNat, Int.reduceEq, Int.reduceBEq, Int.reduceBNe, Nat.reduceBEq, beq_self_eq_true, bne_self_eq_false, set_at hlr, List.set_set, List.length_set, encC_setp] | with_reducible refine vcond_split (fun _ => ?_) (fun _ => ?_) | with_reducible refine vg_split (fun _ => ?_) (fun _ => ?_) | ((with_reducible apply DCalls.frz); (focus exact rfl); (focus exact rfl)) | ((with_reducible refine And.intro ?_ ?_); (focus (first | omega | decide | assumption | (simp only [decide_eq_true_eq, decide_eq_false_iff_not] at *; omega)))))
        exact qj_data (c ++ [x]) 20 3 0 (c.length + 1) ⟨by rw [List.length_append]; simp only [List.length_cons, List.length_nil]; omega, fun y hy => by
          rcases List.mem_append.1 hy with hy | hy
          · exact hsc.2 y hy
          · rw [List.mem_singleton] at hy; rw [hy]; exact ⟨o1, o2, o3⟩⟩ rfl (pvOf_row rfl (by rw [encC_len, List.length_append]; rfl)) (weak_mk (by rw [hX]; rfl) rfl rfl (by simp [wk_cons, wk_nil, look_cons, closedD, closedC, renT, renD, renC, encT_nil, encS_nil, encC_nil]))
      · repeat' (first | simp (maxSteps := 1000000) only [*, go_sem, Nat.reduceLT, Nat.reduceLeDiff, Nat.reduceEqDiff, ↓reduceIte, Nat.reduceAdd, Nat.reduceSub, Nat.reduceMul, Int.reduceLT, Int.reduceLE, Int.reduceAdd, Int.reduceSub, Int.reduceMul, Int.reduceNeg, Int.reduceToNat, Int.reduceEq, Int.reduceBEq, Int.reduceBNe, Nat.reduceBEq, beq_self_eq_true, bne_self_eq_false, set_at hlr, List.set_set, List.length_set, encC_setp] | ((with_reducible refine useF (copysign_c) ?_ ?_ ?_); (focus exact rfl); (focus exact rfl)) | with_reducible refine vcond_split (fun _ => ?_) (fun _ => ?_) | with_reducible refine vg_split (fun _ => ?_) (fun _ => ?_) | ((with_reducible apply DCalls.frz); (focus exact rfl); (focus exact rfl)) | ((with_reducible refine And.intro ?_ ?_); (focus (first | omega | decide | assumption | (simp only [decide_eq_true_eq, decide_eq_false_iff_not] at *; omega)))))
        exact qj_data (c.set k ⟨x.p, x.k, ⟨x.o.k, x.o.m, 9223372036854775808, x.o.d⟩, ⟨x.n.k, x.n.m, x.n.t, x.n.d⟩⟩) 20 1 0 c.length (smallC_set hsc k ⟨o1, ⟨show (9223372036854775808 : Nat) < 18446744073709551616 by decide, o2.2⟩, o3⟩) rfl (pvOf_row rfl (by rw [encC_len, List.length_set])) (weak_mk (by rw [hX]; rfl) rfl rfl (by simp [wk_cons, wk_nil, look_cons, closedD, closedC, renT, renD, renC, encT_nil, encS_nil, encC_nil]))
      · have e0 : ((j : Int) == 0) = false := by simp only [beq_eq_false_iff_ne, ne_eq]; omega
        have e1 : ((j : Int) == 1) = false := by simp only [beq_eq_false_iff_ne, ne_eq]; omega
        have e2 : ((j : Int) == 2) = false := by simp only [beq_eq_false_iff_ne, ne_eq]; omega
        have e3 : ((j : Int) == 3) = false := by simp only [beq_eq_false_iff_ne, ne_eq]; omega
        have e4 : ((j : Int) == 4) = false := by simp only [beq_eq_false_iff_ne, ne_eq]; omega
        have e5 : ((j : Int) == 5) = false := by simp only [beq_eq_false_iff_ne, ne_eq]; omega
        repeat' (first | simp (maxSteps := 1000000) only [*, go_sem, Nat.reduceLT, Nat.reduceLeDiff, Nat.reduceEqDiff, ↓reduceIte, Nat.reduceAdd, Nat.reduceSub, Nat.reduceMul, Int.reduceLT, Int.reduceLE, Int.reduceAdd, Int.reduceSub, Int.reduceMul, Int.reduceNeg, Int.reduceToNat, Int.reduceEq, Int.reduceBEq, Int.reduceBNe, Nat.reduceBEq, beq_self_eq_true, bne_self_eq_false] | with_reducible refine vcond_split (fun _ => ?_) (fun _ => ?_) | with_reducible refine vg_split (fun _ => ?_) (fun _ => ?_) | ((with_reducible apply DCalls.frz); (focus exact rfl); (focus exact rfl)) | ((with_reducible refine And.intro ?_ ?_); (focus (first | omega | decide | assumption | (simp only [decide_eq_true_eq, decide_eq_false_iff_not] at *; omega)))))
        exact qj_data c 20 1 0 c.length hsc rfl (pvOf_row rfl (by rw [encC_len])) (weak_mk (by rw [hX]; rfl) rfl rfl (by simp [wk_cons, wk_nil, look_cons, closedD, closedC, renT, renD, renC, encT_nil, encS_nil, encC_nil]))
    · have h1 : decide ((0 : Int) < (c.length : Int)) = false := decide_eq_false (by omega)
      repeat' (first | simp (maxSteps := 1000000) only [*, go_sem, Nat.reduceLT, Nat.reduceLeDiff, Nat.reduceEqDiff, ↓reduceIte, Nat.reduceAdd, Nat.reduceSub, Nat.reduceMul, Int.reduceLT, Int.reduceLE, Int.reduceAdd, Int.reduceSub, Int.reduceMul, Int.reduceNeg, Int.reduceToNat, Int.reduceEq, Int.reduceBEq, Int.reduceBNe, Nat.reduceBEq, beq_self_eq_true, bne_self_eq_false] | with_reducible refine vcond_split (fun _ => ?_) (fun _ => ?_) | with_reducible refine vg_split (fun _ => ?_) (fun _ => ?_) | ((with_reducible apply DCalls.frz); (focus exact rfl); (focus exact rfl)) | ((with_reducible refine And.intro ?_ ?_); (focus (first | omega | decide | assumption | (simp only [decide_eq_true_eq, decide_eq_false_iff_not] at *; omega)))))
      exact qj_data c 20 1 0 c.length hsc rfl (pvOf_row rfl (by rw [encC_len])) (weak_mk (by rw [hX]; rfl) rfl rfl (by simp [wk_cons, wk_nil, look_cons, closedD, closedC, renT, renD, renC, encT_nil, encS_nil, encC_nil]))
  · clear hl hd hdx hl2 hd2 hdx2 hxx hxd
    intro t ht
    obtain ⟨htl, hall⟩ := ht
    have hp : ∀ x ∈ t, x.p.length ≤ 1000000000 ∧ x.o.t < 18446744073709551616 ∧ x.n.t < 18446744073709551616 := fun x hx => by
      obtain ⟨a1, ⟨a2, _⟩, ⟨a3, _⟩⟩ := hall x hx
      exact ⟨by omega, a2, a3⟩
    have hd : ∀ x ∈ t, x.o.d.length ≤ 1000000000 ∧ x.n.d.length ≤ 1000000000 := fun x hx => by
      obtain ⟨_, ⟨_, a2⟩, ⟨_, a3⟩⟩ := hall x hx
      exact ⟨by omega, by omega⟩
    have hc1 := diffRightG_c (l := t) (by omega) hp
    have hc2 := refRightC_c (l := t) (by omega) (fun x hx => ⟨(hp x hx).1, (hd x hx).1, (hd x hx).2⟩)
    have hrr := rightCs_ref (l := t) (fun x hx => ⟨(hp x hx).2.1, (hp x hx).2.2⟩)
    have hlen : (layChs t).length ≤ 140737488355328 := layChs_len (by omega) fun x hx => by
      obtain ⟨a1, ⟨_, a2⟩, ⟨_, a3⟩⟩ := hall x hx
      exact ⟨by omega, by omega, by omega⟩
    have hpos : 0 < (layChs t).length := by rw [layChs, List.length_append, u16F_len]; omega
    have hly := diffLay_c (l := t) (by omega) hp
    have hll := diffLayN_c (l := t) (by omega) hp
    have hfy := refLayC_c (l := t) (by omega) hp hd
    have hfl := refLayCN_c (l := t) (by omega) hp hd
    rw [← hrr] at hc2
    refine swp_join3 tabOK hmix (α := List UInt8 × Int) (fun x => ⟨191, [(5, .c (.p (.sl 1 (encB raw)))), (6, .c (.p (.i .i64 how))), (7, .c (.p (.sl 1 (encZ ats)))), (8, .c (.p (.i .u8 by_))), (24, .c (.p (.sl 1 (encB x.1)))), (25, .c (.p (.i .i64 x.2)))], []⟩) (fun x => x.1.length ≤ 140737488355328 ∧ ((x.2 == 0) = true → 0 < x.1.length)) ?_ ?_
    · cases hr : rightCs t
      · have h1 := hll hr
        have h2 := hfl hr
        rw [hr] at hc1 hc2
        clear hll hfl hly hfy hall hp hd
        generalize hE : ([] : List UInt8) = e0 at h1 h2
        repeat' (first | simp (maxSteps := 1000000) only [*, go_sem, Nat.reduceLT, Nat.reduceLeDiff, Nat.reduceEqDiff, ↓reduceIte, Nat.reduceAdd, Nat.reduceSub, Nat.reduceMul, Int.reduceLT, Int.reduceLE, Int.reduceAdd, Int.reduceSub, Int.reduceMul, Int.reduceNeg, Int.reduceToNat, Int.reduceEq, Int.reduceBEq, Int.reduceBNe, Nat.reduceBEq, beq_self_eq_true, bne_self_eq_false] | ((with_reducible refine useN (h1) ?_ ?_ ?_); (focus exact rfl); (focus exact fun _ => rfl)) | ((with_reducible refine useN (h2) ?_ ?_ ?_); (focus exact rfl); (focus exact fun _ => rfl)) | ((with_reducible refine useF (hc1) ?_ ?_ ?_); (focus exact rfl); (focus exact rfl)) | ((with_reducible refine useF (hc2) ?_ ?_ ?_); (focus exact rfl); (focus exact rfl)) | with_reducible refine vcond_split (fun _ => ?_) (fun _ => ?_) | with_reducible refine vg_split (fun _ => ?_) (fun _ => ?_) | ((with_reducible apply DCalls.frz); (focus exact rfl); (focus exact rfl)) | ((with_reducible refine And.intro ?_ ?_); (focus (first | omega | decide | assumption | (simp only [decide_eq_true_eq, decide_eq_false_iff_not] at *; omega)))))
        exact qj_n (e0, (1 : Int)) ⟨by rw [← hE]; simp, fun h => by cases h⟩ (weak_mk (by rw [hX]; rfl) rfl rfl (by simp [wk_cons, wk_nil, look_cons, closedD, closedC, renT, renD, renC, encT_nil, encS_nil, encC_nil]))
      · have h1 := hly hr
        have h2 := hfy hr
        rw [hr] at hc1 hc2
        clear hll hfl hly hfy hall hp hd
        repeat' (first | simp (maxSteps := 1000000) only [*, go_sem, Nat.reduceLT, Nat.reduceLeDiff, Nat.reduceEqDiff, ↓reduceIte, Nat.reduceAdd, Nat.reduceSub, Nat.reduceMul, Int.reduceLT, Int.reduceLE, Int.reduceAdd, Int.reduceSub, Int.reduceMul, Int.reduceNeg, Int.reduceToNat, Int.reduceEq, Int.reduceBEq, Int.reduceBNe, Nat.reduceBEq, beq_self_eq_true, bne_self_eq_false] | ((with_reducible refine useN (h1) ?_ ?_ ?_); (focus exact rfl); (focus exact fun _ => rfl)) | ((with_reducible refine useN (h2) ?_ ?_ ?_); (focus exact rfl); (focus exact fun _ => rfl)) | ((with_reducible refine useF (hc1) ?_ ?_ ?_); (focus exact rfl); (focus exact rfl)) | ((with_reducible refine useF (hc2) ?_ ?_ ?_); (focus exact rfl); (focus exact rfl)) | with_reducible refine vcond_split (fun _ => ?_) (fun _ => ?_) | with_reducible refine vg_split (fun _ => ?_) (fun _ => ?_) | ((with_reducible apply DCalls.frz); (focus exact rfl); (focus exact rfl)) | ((with_reducible refine And.intro ?_ ?_); (focus (first | omega | decide | assumption | (simp only [decide_eq_true_eq, decide_eq_false_iff_not] at *; omega)))))
        exact qj_n (layChs t, 0) ⟨hlen, fun _ => hpos⟩ (weak_mk (by rw [hX]; rfl) rfl rfl (by simp [wk_cons, wk_nil, look_cons, closedD, closedC, renT, renD, renC, encT_nil, encS_nil, encC_nil]))
    · clear hly hll hfy hfl hc1 hc2 hrr hlen hpos hall hp hd htl
      rintro ⟨b, f⟩ ⟨hbl, hbp⟩
      simp only at hbl hbp
      refine swp_first tabOK hmix ?_
      repeat' (first | simp (maxSteps := 1000000) only [*, go_sem, Nat.reduceLT, Nat.reduceLeDiff, Nat.reduceEqDiff, ↓reduceIte, Nat.reduceAdd, Nat.reduceSub, Nat.reduceMul, Int.reduceLT, Int.reduceLE, Int.reduceAdd, Int.reduceSub, Int.reduceMul, Int.reduceNeg, Int.reduceToNat, Int.reduceEq, Int.reduceBEq, Int.reduceBNe, Nat.reduceBEq, beq_self_eq_true, bne_self_eq_false] | refine useOD (fewO_c hraw) rfl rfl ?_ | with_reducible refine vcond_split (fun _ => ?_) (fun _ => ?_) | with_reducible refine vg_split (fun _ => ?_) (fun _ => ?_) | ((with_reducible apply DCalls.frz); (focus exact rfl); (focus exact rfl)) | ((with_reducible refine And.intro ?_ ?_); (focus (first | omega | decide | assumption | (simp only [decide_eq_true_eq, decide_eq_false_iff_not] at *; omega)))))
      refine swp_join tabOK hmix (α := List UInt8) (fun z => ⟨191, [(26, .c (.p (.sl 1 (encB z))))], []⟩) (fun z => z.length ≤ 140737488355328) ?_ ?_
      · cases hf : (f == 0)
        · repeat' (first | simp (maxSteps := 1000000) only [*, go_sem, Nat.reduceLT, Nat.reduceLeDiff, Nat.reduceEqDiff, ↓reduceIte, Nat.reduceAdd, Nat.reduceSub, Nat.reduceMul, Int.reduceLT, Int.reduceLE, Int.reduceAdd, Int.reduceSub, Int.reduceMul, Int.reduceNeg, Int.reduceToNat, Int.reduceEq, Int.reduceBEq, Int.reduceBNe, Nat.reduceBEq, beq_self_eq_true, bne_self_eq_false] | with_reducible refine vcond_split (fun _ => ?_) (fun _ => ?_) | with_reducible refine vg_split (fun _ => ?_) (fun _ => ?_) | ((with_reducible apply DCalls.frz); (focus exact rfl); (focus exact rfl)) | ((with_reducible refine And.intro ?_ ?_); (focus (first | omega | decide | assumption | (simp only [decide_eq_true_eq, decide_eq_false_iff_not] at *; omega)))))
          exact qj_data raw 26 1 0 raw.length hraw rfl (pvOf_row rfl (by rw [encB_len])) (weak_mk (by rw [hX]; rfl) rfl rfl (by simp [wk_cons, wk_nil, look_cons, closedD, closedC, renT, renD, renC, encT_nil, encS_nil, encC_nil]))
        · have hbp := hbp hf
          cases hh : decide (0 < how.tmod 5)
          · repeat' (first | simp (maxSteps := 1000000) only [*, go_sem, Nat.reduceLT, Nat.reduceLeDiff, Nat.reduceEqDiff, ↓reduceIte, Nat.reduceAdd, Nat.reduceSub, Nat.reduceMul, Int.reduceLT, Int.reduceLE, Int.reduceAdd, Int.reduceSub, Int.reduceMul, Int.reduceNeg, Int.reduceToNat, Int.reduceEq, Int.reduceBEq, Int.reduceBNe, Nat.reduceBEq, beq_self_eq_true, bne_self_eq_false] | with_reducible refine vcond_split (fun _ => ?_) (fun _ => ?_) | with_reducible refine vg_split (fun _ => ?_) (fun _ => ?_) | ((with_reducible apply DCalls.frz); (focus exact rfl); (focus exact rfl)) | ((with_reducible refine And.intro ?_ ?_); (focus (first | omega | decide | assumption | (simp only [decide_eq_true_eq, decide_eq_false_iff_not] at *; omega)))))
            exact qj_data raw 26 1 0 raw.length hraw rfl (pvOf_row rfl (by rw [encB_len])) (weak_mk (by rw [hX]; rfl) rfl rfl (by simp [wk_cons, wk_nil, look_cons, closedD, closedC, renT, renD, renC, encT_nil, encS_nil, encC_nil]))
          · repeat' (first | simp (maxSteps := 1000000) only [*, go_sem, Nat.reduceLT, Nat.reduceLeDiff, Nat.reduceEqDiff, ↓reduceIte, Nat.reduceAdd, Nat.reduceSub, Nat.reduceMul, Int.reduceLT, Int.reduceLE, Int.reduceAdd, Int.reduceSub, Int.reduceMul, Int.reduceNeg, Int.reduceToNat, Int.reduceEq, Int.reduceBEq, Int.reduceBNe, Nat.reduceBEq, beq_self_eq_true, bne_self_eq_false] | refine useOD (fewO_c hbl) rfl rfl ?_ | with_reducible refine vcond_split (fun _ => ?_) (fun _ => ?_) | with_reducible refine vg_split (fun _ => ?_) (fun _ => ?_) | ((with_reducible apply DCalls.frz); (focus exact rfl); (focus exact rfl)) | ((with_reducible refine And.intro ?_ ?_); (focus (first | omega | decide | assumption | (simp only [decide_eq_true_eq, decide_eq_false_iff_not] at *; omega)))))
            refine loop_ren tabOK hmix (α := Nat × List UInt8) (fun x => ⟨191, [(7, .c (.p (.sl 1 (encZ ats)))), (8, .c (.p (.i .u8 by_))), (26, .c (.own 3 0 b.length)), (27, .c (.p (.i .i64 x.1)))], [.dead, .arr 1 (encB raw) false, .dead, .arr 1 (encB x.2) false]⟩)
              (fun x => x.1 ≤ 2 ∧ x.2.length = b.length) (fun x => 2 - x.1) (0, b) ⟨Nat.zero_le _, rfl⟩ (.inl (weak_mk (by rw [hX]; rfl) rfl rfl (by simp [wk_cons, wk_nil, look_cons, closedD, closedC, encT_nil, encS_nil, encC_nil]))) ?_
            rintro ⟨i, z⟩ ⟨hi, hz⟩
            simp only at hi hz
            by_cases hlt : i < ats.length
            · have hx : ats[i]? = some ats[i] := List.getElem?_eq_getElem hlt
              have hg := encZ_at hx
              generalize ats[i] = av at hx hg
              have h1 : decide ((i : Int) < (ats.length : Int)) = true := decide_eq_true (by omega)
              have h3 : (i : Int) < (ats.length : Int) := by omega
              have hi0 : (0 : Int) ≤ i := by omega
              have w1 : IntKind.i64.wrap ((i : Int) + 1) = (i + 1 : Nat) := by rw [wrap_i64 (by omega) (by omega)]; omega
              by_cases h2 : i < 2
              · have h4 : decide ((i : Int) < 2) = true := decide_eq_true (by omega)
                repeat' (first | simp (maxSteps := 1000000) only [*, go_sem, Nat.reduceLT, Nat.reduceLeDiff, Nat.reduceEqDiff, ↓reduceIte, Nat.reduceAdd, Nat.reduceSub, Nat.reduceMul, Int.reduceLT, Int.reduceLE, Int.reduceAdd, Int.reduceSub, Int.reduceMul, Int.reduceNeg, Int.reduceToNat, Int.reduceEq, Int.reduceBEq, Int.reduceBNe, Nat.reduceBEq, beq_self_eq_true, bne_self_eq_false] | with_reducible refine vcond_split (fun _ => ?_) (fun _ => ?_) | with_reducible refine vg_split (fun _ => ?_) (fun _ => ?_) | ((with_reducible apply DCalls.frz); (focus exact rfl); (focus exact rfl)) | ((with_reducible refine And.intro ?_ ?_); (focus (first | omega | decide | assumption | (simp only [decide_eq_true_eq, decide_eq_false_iff_not] at *; omega)))))
                refine useFE (C := fun k : Nat => (k : Int) < b.length) (e := fun k => .c (.p (.i .i64 k))) (pickN_c (by omega) (by omega)) rfl (fun _ _ => rfl) fun k hk => ?_
                have hkt : k < z.length := by omega
                have hy : z[k]? = some z[k] := List.getElem?_eq_getElem hkt
                have hgy := encB_at hy
                generalize z[k] = y at hy hgy
                have hk0 : (0 : Int) ≤ k := by omega
                repeat' (first | simp (maxSteps := 1000000) only [*, go_sem, Nat.reduceLT, Nat.reduceLeDiff, Nat.reduceEqDiff, ↓reduceIte, Nat.reduceAdd, Nat.reduceSub, Nat.reduceMul, Int.reduceLT, Int.reduceLE, Int.reduceAdd, Int.reduceSub, Int.reduceMul, Int.reduceNeg, Int.reduceToNat, Int.reduceEq, Int.reduceBEq, Int.reduceBNe, Nat.reduceBEq, beq_self_eq_true, bne_self_eq_false, encB_setx] | with_reducible refine vcond_split (fun _ => ?_) (fun _ => ?_) | with_reducible refine vg_split (fun _ => ?_) (fun _ => ?_) | ((with_reducible apply DCalls.frz); (focus exact rfl); (focus exact rfl)) | ((with_reducible refine And.intro ?_ ?_); (focus (first | omega | decide | assumption | (simp only [decide_eq_true_eq, decide_eq_false_iff_not] at *; omega)))))
                exact qr_n (i + 1, z.set k (UInt8.ofNat (Dm.bits .xor .u8 y.toNat by_).toNat)) ⟨by simp only; omega, by simp only [List.length_set]; exact hz⟩ (by simp only; omega) (weak_mk rfl rfl rfl (by simp [wk_cons, wk_nil, look_cons, closedD, closedC, renT, renD, renC, encT_nil, encS_nil, encC_nil]))
              · have h4 : decide ((i : Int) < 2) = false := decide_eq_false (by omega)
                repeat' (first | simp (maxSteps := 1000000) only [*, go_sem, Nat.reduceLT, Nat.reduceLeDiff, Nat.reduceEqDiff, ↓reduceIte, Nat.reduceAdd, Nat.reduceSub, Nat.reduceMul, Int.reduceLT, Int.reduceLE, Int.reduceAdd, Int.reduceSub, Int.reduceMul, Int.reduceNeg, Int.reduceToNat, Int.reduceEq, Int.reduceBEq, Int.reduceBNe, Nat.reduceBEq, beq_self_eq_true, bne_self_eq_false] | with_reducible refine vcond_split (fun _ => ?_) (fun _ => ?_) | with_reducible refine vg_split (fun _ => ?_) (fun _ => ?_) | ((with_reducible apply DCalls.frz); (focus exact rfl); (focus exact rfl)) | ((with_reducible refine And.intro ?_ ?_); (focus (first | omega | decide | assumption | (simp only [decide_eq_true_eq, decide_eq_false_iff_not] at *; omega)))))
                exact qj_data z 26 3 0 b.length (by omega) rfl (pvOf_row rfl (by rw [encB_len]; exact hz)) (weak_mk (by rw [hX]; rfl) rfl rfl (by simp [wk_cons, wk_nil, look_cons, closedD, closedC, renT, renD, renC, encT_nil, encS_nil, encC_nil]))
            · have h1 : decide ((i : Int) < (ats.length : Int)) = false := decide_eq_false (by omega)
              repeat' (first | simp (maxSteps := 1000000) only [*, go_sem, Nat.reduceLT, Nat.reduceLeDiff, Nat.reduceEqDiff, ↓reduceIte, Nat.reduceAdd, Nat.reduceSub, Nat.reduceMul, Int.reduceLT, Int.reduceLE, Int.reduceAdd, Int.reduceSub, Int.reduceMul, Int.reduceNeg, Int.reduceToNat, Int.reduceEq, Int.reduceBEq, Int.reduceBNe, Nat.reduceBEq, beq_self_eq_true, bne_self_eq_false] | with_reducible refine vcond_split (fun _ => ?_) (fun _ => ?_) | with_reducible refine vg_split (fun _ => ?_) (fun _ => ?_) | ((with_reducible apply DCalls.frz); (focus exact rfl); (focus exact rfl)) | ((with_reducible refine And.intro ?_ ?_); (focus (first | omega | decide | assumption | (simp only [decide_eq_true_eq, decide_eq_false_iff_not] at *; omega)))))
              exact qj_data z 26 3 0 b.length (by omega) rfl (pvOf_row rfl (by rw [encB_len]; exact hz)) (weak_mk (by rw [hX]; rfl) rfl rfl (by simp [wk_cons, wk_nil, look_cons, closedD, closedC, renT, renD, renC, encT_nil, encS_nil, encC_nil]))
      · clear hbl hbp hraw
        intro z hz
        have hrd := diffRead_c hz
        have hrf := refReadC_c hz
        rw [← readCs_ref] at hrf
        have hsm := sameChanges_c (a := (readCs z).1) (by unfold readCs; split; exact Nat.le_trans (readC_len z) (by decide); decide)
        generalize readCs z = w at hrd hrf hsm
        obtain ⟨w, e⟩ := w
        simp only at hrd hrf hsm
        refine swp_first tabOK hmix ?_
        repeat' (first | simp (maxSteps := 1000000) only [*, go_sem, Nat.reduceLT, Nat.reduceLeDiff, Nat.reduceEqDiff, ↓reduceIte, Nat.reduceAdd, Nat.reduceSub, Nat.reduceMul, Int.reduceLT, Int.reduceLE, Int.reduceAdd, Int.reduceSub, Int.reduceMul, Int.reduceNeg, Int.reduceToNat, Int.reduceEq, Int.reduceBEq, Int.reduceBNe, Nat.reduceBEq, beq_self_eq_true, bne_self_eq_false] | ((with_reducible refine useN (hrd) ?_ ?_ ?_); (focus exact rfl); (focus exact fun _ => rfl)) | with_reducible refine vcond_split (fun _ => ?_) (fun _ => ?_) | with_reducible refine vg_split (fun _ => ?_) (fun _ => ?_) | ((with_reducible apply DCalls.frz); (focus exact rfl); (focus exact rfl)) | ((with_reducible refine And.intro ?_ ?_); (focus (first | omega | decide | assumption | (simp only [decide_eq_true_eq, decide_eq_false_iff_not] at *; omega)))))
        refine swp_first tabOK hmix ?_
        repeat' (first | simp (maxSteps := 1000000) only [*, go_sem, Nat.reduceLT, Nat.reduceLeDiff, Nat.reduceEqDiff, ↓reduceIte, Nat.reduceAdd, Nat.reduceSub, Nat.reduceMul, Int.reduceLT, Int.reduceLE, Int.reduceAdd, Int.reduceSub, Int.reduceMul, Int.reduceNeg, Int.reduceToNat, Int.reduceEq, Int.reduceBEq, Int.reduceBNe, Nat.reduceBEq, beq_self_eq_true, bne_self_eq_false] | ((with_reducible refine useN (hrf) ?_ ?_ ?_); (focus exact rfl); (focus exact fun _ => rfl)) | with_reducible refine vcond_split (fun _ => ?_) (fun _ => ?_) | with_reducible refine vg_split (fun _ => ?_) (fun _ => ?_) | ((with_reducible apply DCalls.frz); (focus exact rfl); (focus exact rfl)) | ((with_reducible refine And.intro ?_ ?_); (focus (first | omega | decide | assumption | (simp only [decide_eq_true_eq, decide_eq_false_iff_not] at *; omega)))))
        refine vc_sound tabOK hmix _ ?_
        repeat' (first | simp (maxSteps := 1000000) only [*, go_sem, Nat.reduceLT, Nat.reduceLeDiff, Nat.reduceEqDiff, ↓reduceIte, Nat.reduceAdd, Nat.reduceSub, Nat.reduceMul, Int.reduceLT, Int.reduceLE, Int.reduceAdd, Int.reduceSub, Int.reduceMul, Int.reduceNeg, Int.reduceToNat, Int.reduceEq, Int.reduceBEq, Int.reduceBNe, Nat.reduceBEq, beq_self_eq_true, bne_self_eq_false] | ((with_reducible refine useF (known17_c) ?_ ?_ ?_); (focus exact rfl); (focus exact rfl)) | ((with_reducible refine useF (hsm) ?_ ?_ ?_); (focus exact rfl); (focus exact rfl)) | with_reducible refine vcond_split (fun _ => ?_) (fun _ => ?_) | with_reducible refine vg_split (fun _ => ?_) (fun _ => ?_) | ((with_reducible apply DCalls.frz); (focus exact rfl); (focus exact rfl)) | ((with_reducible refine And.intro ?_ ?_); (focus (first | omega | decide | assumption | (simp only [decide_eq_true_eq, decide_eq_false_iff_not] at *; omega)))))
        trace_state

end Go.Proofs.YtmgglafcpebabaaGreatDoor
