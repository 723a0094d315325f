import Derived.Test.YtnbgaphhhjnjlaaGreatDoorD6
import Derived.Test.YtnbgaphhhjnjlaaGreatDoorC1
import Derived.Test.YtnbgaphhhjnjlaaGreatDoorSB

section
/-
  Contracts of the document on trees, and of the drawn tree.
-/

set_option linter.unusedSimpArgs false
set_option linter.unusedVariables false
namespace Go.Proofs.YtnbgaphhhjnjlaaGreatDoor
open Go Go.Dm
set_option maxRecDepth 100000
set_option maxHeartbeats 4000000

theorem putRn_c {t : List It} {p : List UInt8} {k m : Int} {tt : Nat} (ht : t.length ≤ 1000000 - 1) (hp : p.length ≤ 1000000000) (hq : ∀ x ∈ t, x.p.length ≤ 9223372036854775807) :
    DCalls Tryz.prog 38 [.c (.p (.sl 5 (encT t))), .c (.p (.s p)), .agg [.p (.i .i64 k), .p (.i .i64 m), .p (.f tt), .p .nil]] [] fun r h =>
      r = .tup [.c (.p (.sl 5 (encT (putR t p ⟨k, m, tt, []⟩).1))), .c (.p (.i .i64 (putR t p ⟨k, m, tt, []⟩).2))] ∧ h = [] :=
  DCalls.wkargs (args' := [.c (.p (.sl 5 (encT t))), .c (.p (.s p)), .agg (ndc k m tt [])]) ⟨wkP.rfl, wkP.rfl, ⟨wkP.rfl, wkP.rfl, wkP.rfl, wkP_nil, True.intro⟩, True.intro⟩ (putR_c ht hp hq (Nat.zero_le _))

theorem tree_c {l : List RI} (hl : l.length ≤ 9223372036854775807) (hd : ∀ x ∈ l, x.n.d.length ≤ 9223372036854775807) (hdx : ∀ x ∈ l, x.n.x < 18446744073709551616) :
    DCalls Tryz.prog 14 [.c (.p (.sl 6 (encI l)))] [] fun r h => ∃ t, OkT t ∧ r = .c (.p (.sl 5 (encT t))) ∧ h = [] := by
  refine ent tabOK hmix Tryz.func14 rfl rfl fun X0 hX => ?_
  simp only [Tryz.ntmps14, Tryz.f14, go_sem]
  repeat' (first | simp (maxSteps := 1000000) only [*, go_sem, Nat.reduceLT, Nat.reduceLeDiff, Nat.reduceEqDiff, ↓reduceIte, Nat.reduceAdd, Nat.reduceSub, Nat.reduceMul, Int.reduceLT, Int.reduceLE, Int.reduceAdd, Int.reduceSub, Int.reduceMul, Int.reduceNeg, Int.reduceToNat, Int.reduceEq, Int.reduceBEq, Int.reduceBNe, Nat.reduceBEq, beq_self_eq_true, bne_self_eq_false] | with_reducible refine vcond_split (fun _ => ?_) (fun _ => ?_) | with_reducible refine vg_split (fun _ => ?_) (fun _ => ?_) | ((with_reducible apply DCalls.frz); (focus exact rfl); (focus exact rfl)) | ((with_reducible refine And.intro ?_ ?_); (focus (first | omega | decide | assumption | (simp only [decide_eq_true_eq, decide_eq_false_iff_not] at *; omega)))))
  refine vc_sl 3 5 rfl ?_
  refine loop_ren tabOK hmix (α := Nat × List It) (fun x => ⟨105, [(0, .c (.p (.sl 6 (encI l)))), (3, .c (.p (.sl 5 (encT x.2)))), (4, .c (.p (.i .i64 x.1)))], []⟩)
    (fun x => x.1 ≤ l.length ∧ OkT x.2) (fun x => l.length - x.1) (0, []) ⟨Nat.zero_le _, OkT.nil⟩ (.inl (weak_mk (by rw [hX]; rfl) rfl rfl (by simp [wk_cons, wk_nil, look_cons, closedD, closedC, encT_nil, encS_nil, encC_nil]))) ?_
  rintro ⟨i, t⟩ ⟨hi, ht⟩
  simp only at hi ht
  by_cases hlt : i < l.length
  · have hx : l[i]? = some l[i] := List.getElem?_eq_getElem hlt
    have hg := encI_at hx
    have h1 : decide ((i : Int) < (l.length : Int)) = true := decide_eq_true (by omega)
    have w1 : IntKind.i64.wrap ((i : Int) + 1) = i + 1 := wrap_i64 (by omega) (by omega)
    generalize l[i] = x at hx hg
    have hxd := hd x (List.mem_of_getElem? hx)
    have hxx := hdx x (List.mem_of_getElem? hx)
    have hpl := pathF_len x.p
    obtain ⟨nn, ⟨hnn, hnt⟩, hnc⟩ : ∃ nn : Nd, (nn.d.length ≤ 60 ∧ nn.t < 18446744073709551616) ∧ DCalls Tryz.prog 39 [.agg (rnc x.n.k x.n.m x.n.t x.n.x x.n.d)] [] fun r h => r = .agg (ndc nn.k nn.m nn.t nn.d) ∧ h = [] :=
      ⟨nodeF x.n, ⟨nodeD_len x.n, nodeF_wf hxx⟩, nodeF_c hxd⟩
    repeat' (first | simp (maxSteps := 1000000) only [*, go_sem, Nat.reduceLT, Nat.reduceLeDiff, Nat.reduceEqDiff, ↓reduceIte, Nat.reduceAdd, Nat.reduceSub, Nat.reduceMul, Int.reduceLT, Int.reduceLE, Int.reduceAdd, Int.reduceSub, Int.reduceMul, Int.reduceNeg, Int.reduceToNat, Int.reduceEq, Int.reduceBEq, Int.reduceBNe, Nat.reduceBEq, beq_self_eq_true, bne_self_eq_false] | ((with_reducible refine useF (Path_c) ?_ ?_ ?_); (focus exact rfl); (focus exact rfl)) | with_reducible refine vcond_split (fun _ => ?_) (fun _ => ?_) | with_reducible refine vg_split (fun _ => ?_) (fun _ => ?_) | ((with_reducible apply DCalls.frz); (focus exact rfl); (focus exact rfl)) | ((with_reducible refine And.intro ?_ ?_); (focus (first | omega | decide | assumption | (simp only [decide_eq_true_eq, decide_eq_false_iff_not] at *; omega)))))
    · generalize pathF x.p = p at hpl
      refine loop_ren tabOK hmix (α := Nat × List It) (fun x => ⟨105, [(0, .c (.p (.sl 6 (encI l)))), (3, .c (.p (.sl 5 (encT x.2)))), (4, .c (.p (.i .i64 i))), (5, .c (.p (.s p))), (6, .c (.p (.i .i64 x.1)))], []⟩)
        (fun x => x.1 ≤ p.length ∧ OkT x.2) (fun x => p.length - x.1) (0, t) ⟨Nat.zero_le _, ht⟩ (.inl (weak_mk (by rw [hX]; rfl) rfl rfl (by simp [wk_cons, wk_nil, look_cons, closedD, closedC, encT_nil, encS_nil, encC_nil]))) ?_
      rintro ⟨k, u⟩ ⟨hk, hu⟩
      simp only at hk hu
      clear ht
      have hul := hu.len
      have hup : ∀ x ∈ u, x.p.length ≤ 9223372036854775807 := fun x hx => Nat.le_trans (hu.plen x hx) (by decide)
      by_cases hlk : k < p.length
      · have hpx : p[k]? = some p[k] := List.getElem?_eq_getElem hlk
        have hg2 := getD_at hpx
        have h2 : decide ((k : Int) < (p.length : Int)) = true := decide_eq_true (by omega)
        have w2 : IntKind.i64.wrap ((k : Int) + 1) = k + 1 := wrap_i64 (by omega) (by omega)
        have htk : (p.take k).length ≤ 11 := Nat.le_trans (List.length_take_le ..) (Nat.le_trans hk hpl)
        generalize p[k] = b at hpx hg2
        repeat' (first | simp (maxSteps := 1000000) only [*, go_sem, Nat.reduceLT, Nat.reduceLeDiff, Nat.reduceEqDiff, ↓reduceIte, Nat.reduceAdd, Nat.reduceSub, Nat.reduceMul, Int.reduceLT, Int.reduceLE, Int.reduceAdd, Int.reduceSub, Int.reduceMul, Int.reduceNeg, Int.reduceToNat, Int.reduceEq, Int.reduceBEq, Int.reduceBNe, Nat.reduceBEq, beq_self_eq_true, bne_self_eq_false] | ((with_reducible refine useN (isDirR_c (t := u) (by omega)) ?_ ?_ ?_); (focus exact rfl); (focus exact fun _ => rfl)) | ((with_reducible refine useN (getR_c (t := u) (by omega)) ?_ ?_ ?_); (focus exact rfl); (focus exact fun _ => rfl)) | ((with_reducible refine useN (putRn_c (t := u) (by omega) (by omega) hup) ?_ ?_ ?_); (focus exact rfl); (focus exact fun _ => rfl)) | ((with_reducible refine useN (hnc) ?_ ?_ ?_); (focus exact rfl); (focus exact fun _ => rfl)) | ((with_reducible refine useN (putR_c (t := u) (by omega) (by omega) hup (by omega)) ?_ ?_ ?_); (focus exact rfl); (focus exact fun _ => rfl)) | with_reducible refine vcond_split (fun _ => ?_) (fun _ => ?_) | with_reducible refine vg_split (fun _ => ?_) (fun _ => ?_) | ((with_reducible apply DCalls.frz); (focus exact rfl); (focus exact rfl)) | ((with_reducible refine And.intro ?_ ?_); (focus (first | omega | decide | assumption | (simp only [decide_eq_true_eq, decide_eq_false_iff_not] at *; omega)))))
        all_goals rename_i hb
        all_goals first
          | (refine qr_n (k + 1, u) ⟨?_, hu⟩ ?_ (weak_mk rfl rfl rfl ?_) <;> first | omega | (simp only; omega; done) | exact hgt _ | exact bitsF_lt (timeF_lt hxx) | (simp [wk_cons, wk_nil, look_cons, closedD, closedC, renT, renD, renC, encT_nil, encS_nil, encC_nil]; done))
          | (refine qr_n (k + 1, _) ⟨?_, hu.put ?_ (eq_of_beq hb)⟩ ?_ (weak_mk rfl rfl rfl ?_) <;> first | omega | (simp only; omega; done) | exact hgt _ | exact bitsF_lt (timeF_lt hxx) | (simp [wk_cons, wk_nil, look_cons, closedD, closedC, renT, renD, renC, encT_nil, encS_nil, encC_nil]; done))
          | (refine qr_n (i + 1, u) ⟨?_, hu⟩ ?_ (weak_mk rfl rfl rfl ?_) <;> first | omega | (simp only; omega; done) | exact hgt _ | exact bitsF_lt (timeF_lt hxx) | (simp [wk_cons, wk_nil, look_cons, closedD, closedC, renT, renD, renC, encT_nil, encS_nil, encC_nil]; done))
          | (refine qr_n (i + 1, _) ⟨?_, hu.put ?_ (eq_of_beq hb)⟩ ?_ (weak_mk rfl rfl rfl ?_) <;> first | omega | (simp only; omega; done) | exact hgt _ | exact bitsF_lt (timeF_lt hxx) | (simp [wk_cons, wk_nil, look_cons, closedD, closedC, renT, renD, renC, encT_nil, encS_nil, encC_nil]; done))
      · have h2 : decide ((k : Int) < (p.length : Int)) = false := decide_eq_false (by omega)
        repeat' (first | simp (maxSteps := 1000000) only [*, go_sem, Nat.reduceLT, Nat.reduceLeDiff, Nat.reduceEqDiff, ↓reduceIte, Nat.reduceAdd, Nat.reduceSub, Nat.reduceMul, Int.reduceLT, Int.reduceLE, Int.reduceAdd, Int.reduceSub, Int.reduceMul, Int.reduceNeg, Int.reduceToNat, Int.reduceEq, Int.reduceBEq, Int.reduceBNe, Nat.reduceBEq, beq_self_eq_true, bne_self_eq_false] | ((with_reducible refine useN (hnc) ?_ ?_ ?_); (focus exact rfl); (focus exact fun _ => rfl)) | ((with_reducible refine useN (getR_c (t := u) (by omega)) ?_ ?_ ?_); (focus exact rfl); (focus exact fun _ => rfl)) | ((with_reducible refine useN (putR_c (t := u) (by omega) (by omega) hup (by omega)) ?_ ?_ ?_); (focus exact rfl); (focus exact fun _ => rfl)) | with_reducible refine vcond_split (fun _ => ?_) (fun _ => ?_) | with_reducible refine vg_split (fun _ => ?_) (fun _ => ?_) | ((with_reducible apply DCalls.frz); (focus exact rfl); (focus exact rfl)) | ((with_reducible refine And.intro ?_ ?_); (focus (first | omega | decide | assumption | (simp only [decide_eq_true_eq, decide_eq_false_iff_not] at *; omega)))))
        all_goals rename_i hb
        all_goals first
          | (refine qr_n (i + 1, u) ⟨?_, hu⟩ ?_ (weak_mk rfl rfl rfl ?_) <;> first | omega | (simp only; omega; done) | exact hgt _ | exact bitsF_lt (timeF_lt hxx) | (simp [wk_cons, wk_nil, look_cons, closedD, closedC, renT, renD, renC, encT_nil, encS_nil, encC_nil]; done))
          | (refine qr_n (i + 1, _) ⟨?_, hu.put ?_ (eq_of_beq hb)⟩ ?_ (weak_mk rfl rfl rfl ?_) <;> first | omega | (simp only; omega; done) | exact hgt _ | exact bitsF_lt (timeF_lt hxx) | (simp [wk_cons, wk_nil, look_cons, closedD, closedC, renT, renD, renC, encT_nil, encS_nil, encC_nil]; done))
    · exact ⟨t, ht, rfl⟩
  · have h1 : decide ((i : Int) < (l.length : Int)) = false := decide_eq_false (by omega)
    repeat' (first | simp (maxSteps := 1000000) only [*, go_sem, Nat.reduceLT, Nat.reduceLeDiff, Nat.reduceEqDiff, ↓reduceIte, Nat.reduceAdd, Nat.reduceSub, Nat.reduceMul, Int.reduceLT, Int.reduceLE, Int.reduceAdd, Int.reduceSub, Int.reduceMul, Int.reduceNeg, Int.reduceToNat, Int.reduceEq, Int.reduceBEq, Int.reduceBNe, Nat.reduceBEq, beq_self_eq_true, bne_self_eq_false] | with_reducible refine vcond_split (fun _ => ?_) (fun _ => ?_) | with_reducible refine vg_split (fun _ => ?_) (fun _ => ?_) | ((with_reducible apply DCalls.frz); (focus exact rfl); (focus exact rfl)) | ((with_reducible refine And.intro ?_ ?_); (focus (first | omega | decide | assumption | (simp only [decide_eq_true_eq, decide_eq_false_iff_not] at *; omega)))))
    exact ⟨t, ht, rfl⟩

end Go.Proofs.YtnbgaphhhjnjlaaGreatDoor

end

section
/-
  The contract of the function that turns a tree.
-/

set_option linter.unusedSimpArgs false
set_option linter.unusedVariables false
namespace Go.Proofs.YtnbgaphhhjnjlaaGreatDoor
open Go Go.Dm
set_option maxRecDepth 100000
set_option maxHeartbeats 4000000

end Go.Proofs.YtnbgaphhhjnjlaaGreatDoor

end
