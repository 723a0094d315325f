import Derived.Test.YtfiopamaiolfhaaGreatDoorN25
import Derived.Test.YtfiopamaiolfhaaGreatDoorN8
import Derived.Test.YtfiopamaiolfhaaGreatDoorLA
import Derived.Test.YtfiopamaiolfhaaGreatDoorVB
import Derived.Test.YtfiopamaiolfhaaGreatDoorN14
import Derived.Test.YtfiopamaiolfhaaGreatDoorD10
import Derived.Test.YtfiopamaiolfhaaGreatDoorD8
import Derived.Test.YtfiopamaiolfhaaGreatDoorG5

section
/-
  Contracts: layers that are the same, copies of layers, chapter 12's example.
-/

set_option linter.unusedSimpArgs false
set_option linter.unusedVariables false
namespace Go.Proofs.YtfiopamaiolfhaaGreatDoor
open Go Go.Dm Go.Proofs
set_option maxRecDepth 100000
set_option maxHeartbeats 8000000

theorem sameLayer_c {a : List En} (ha : a.length ≤ 1000000) : DCalls Tryz.prog 33 [.c (.p (.sl 7 (encE a))), .c (.p (.sl 7 (encE a)))] [] fun r h => r = .c (.p (.b true)) ∧ h = [] := by
  refine ent tabOK hmix Tryz.func33 rfl rfl fun X0 hX => ?_
  simp only [Tryz.ntmps33, Tryz.f33, go_sem]
  repeat' (first | simp (maxSteps := 1000000) only [*, go_sem, Nat.reduceLT, Nat.reduceLeDiff, Nat.reduceEqDiff, ↓reduceIte, Nat.reduceAdd, Nat.reduceSub, Nat.reduceMul, Int.reduceLT, Int.reduceLE, Int.reduceAdd, Int.reduceSub, Int.reduceMul, Int.reduceNeg, Int.reduceToNat, Int.reduceEq, Int.reduceBEq, Int.reduceBNe, Nat.reduceBEq, beq_self_eq_true, bne_self_eq_false] | with_reducible refine vcond_split (fun _ => ?_) (fun _ => ?_) | with_reducible refine vg_split (fun _ => ?_) (fun _ => ?_) | ((with_reducible apply DCalls.frz); (focus exact rfl); (focus exact rfl)) | ((with_reducible refine And.intro ?_ ?_); (focus (first | omega | decide | assumption | (simp only [decide_eq_true_eq, decide_eq_false_iff_not] at *; omega)))))
  refine loop_ren tabOK hmix (α := Nat) (fun k => ⟨68, [(0, .c (.p (.sl 7 (encE a)))), (1, .c (.p (.sl 7 (encE a)))), (5, .c (.p (.i .i64 k)))], []⟩)
    (fun k => k ≤ a.length) (fun k => a.length - k) 0 (Nat.zero_le _) (.inl (weak_mk (by rw [hX]; rfl) rfl rfl (by simp [wk_cons, wk_nil, look_cons, closedD, closedC, encT_nil, encS_nil, encC_nil]))) ?_
  intro k hk
  by_cases hlt : k < a.length
  · have hx : a[k]? = some a[k] := List.getElem?_eq_getElem hlt
    have hg := encE_at hx
    have h1 : decide ((k : Int) < (a.length : Int)) = true := decide_eq_true (by omega)
    have hli : (k : Int) < (a.length : Int) := by omega
    have hk0 : (0 : Int) ≤ k := by omega
    have w1 : IntKind.i64.wrap ((k : Int) + 1) = k + 1 := wrap_i64 (by omega) (by omega)
    generalize a[k] = x at hx hg
    clear hx
    obtain ⟨xp, xk, xo, ⟨nk, nm, nt, nd⟩⟩ := x
    have hsn := sameNode_c (k := nk) (m := nm) (t := nt) (d := nd) (k' := nk) (m' := nm) (t' := nt) (d' := nd)
    rw [sameNd_refl] at hsn
    unfold ndc at hsn
    simp only at hg
    cases xo
    all_goals repeat' (first | simp (maxSteps := 1000000) only [*, go_sem, Nat.reduceLT, Nat.reduceLeDiff, Nat.reduceEqDiff, ↓reduceIte, Nat.reduceAdd, Nat.reduceSub, Nat.reduceMul, Int.reduceLT, Int.reduceLE, Int.reduceAdd, Int.reduceSub, Int.reduceMul, Int.reduceNeg, Int.reduceToNat, Int.reduceEq, Int.reduceBEq, Int.reduceBNe, Nat.reduceBEq, beq_self_eq_true, bne_self_eq_false, Bool.not_true, Bool.not_false, Bool.true_beq, Bool.false_beq] | ((with_reducible refine useF (hsn) ?_ ?_ ?_); (focus exact rfl); (focus exact rfl)) | ((refine vc_drawn (id := 6) tabOK hmix [] [0,1,2,3,4,5,6,7,8,9,10,11,12,13,14,15,16,17,18,19,20,21,22,23,24,25,26,27,28,29,30,31,32,33,34,35,36,37,38,39,40,41,42,43,44,45,46,47,48,49,50] (by decide +kernel) ?_); (repeat' (first | (refine ds_nil ?_) | ((refine ds_one ?_ rfl rfl ?_ ?_); (rotate_left 1); (focus ((repeat' (first | simp (maxSteps := 1000000) only [*, go_sem, Nat.reduceLT, Nat.reduceLeDiff, Nat.reduceEqDiff, ↓reduceIte, Nat.reduceAdd, Nat.reduceSub, Nat.reduceMul, Int.reduceLT, Int.reduceLE, Int.reduceAdd, Int.reduceSub, Int.reduceMul, Int.reduceNeg, Int.reduceToNat, Int.reduceEq, Int.reduceBEq, Int.reduceBNe, Nat.reduceBEq, beq_self_eq_true, bne_self_eq_false, Bool.not_true, Bool.not_false, Bool.true_beq, Bool.false_beq] | ((with_reducible refine useF (hsn) ?_ ?_ ?_); (focus exact rfl); (focus exact rfl)) | with_reducible refine vcond_split (fun _ => ?_) (fun _ => ?_) | with_reducible refine vg_split (fun _ => ?_) (fun _ => ?_) | ((with_reducible apply DCalls.frz); (focus exact rfl); (focus exact rfl)) | ((with_reducible refine And.intro ?_ ?_); (focus (first | omega | decide | assumption | (simp only [decide_eq_true_eq, decide_eq_false_iff_not] at *; omega)))))); exact rfl)); (simp only [putF_some, putF_none]))))) | with_reducible refine vcond_split (fun _ => ?_) (fun _ => ?_) | with_reducible refine vg_split (fun _ => ?_) (fun _ => ?_) | ((with_reducible apply DCalls.frz); (focus exact rfl); (focus exact rfl)) | ((with_reducible refine And.intro ?_ ?_); (focus (first | omega | decide | assumption | (simp only [decide_eq_true_eq, decide_eq_false_iff_not] at *; omega)))))
    all_goals exact qr_n (k + 1) (by omega) (by omega) (weak_mk rfl rfl rfl (by simp [wk_cons, wk_nil, look_cons, closedD, closedC, renT, renD, renC, encT_nil, encS_nil, encC_nil]))
  · have h1 : decide ((k : Int) < (a.length : Int)) = false := decide_eq_false (by omega)
    repeat' (first | simp (maxSteps := 1000000) only [*, go_sem, Nat.reduceLT, Nat.reduceLeDiff, Nat.reduceEqDiff, ↓reduceIte, Nat.reduceAdd, Nat.reduceSub, Nat.reduceMul, Int.reduceLT, Int.reduceLE, Int.reduceAdd, Int.reduceSub, Int.reduceMul, Int.reduceNeg, Int.reduceToNat, Int.reduceEq, Int.reduceBEq, Int.reduceBNe, Nat.reduceBEq, beq_self_eq_true, bne_self_eq_false] | with_reducible refine vcond_split (fun _ => ?_) (fun _ => ?_) | with_reducible refine vg_split (fun _ => ?_) (fun _ => ?_) | ((with_reducible apply DCalls.frz); (focus exact rfl); (focus exact rfl)) | ((with_reducible refine And.intro ?_ ?_); (focus (first | omega | decide | assumption | (simp only [decide_eq_true_eq, decide_eq_false_iff_not] at *; omega)))))

theorem sameE1_c {p q : List UInt8} {k k' nk nk' nm nm' : Int} {o o' : Bool} {t t' : Nat} {d d' : List UInt8} :
    DCalls Tryz.prog 93 [.agg [.p (.s p), .p (.i .i64 k), .p (.b o), .p (.i .i64 nk), .p (.i .i64 nm), .p (.f t), .p (.sl 1 (encB d))], .agg [.p (.s q), .p (.i .i64 k'), .p (.b o'), .p (.i .i64 nk'), .p (.i .i64 nm'), .p (.f t'), .p (.sl 1 (encB d'))]] []
      fun r h => r = .c (.p (.b (sameEn ⟨p, k, o, ⟨nk, nm, t, d⟩⟩ ⟨q, k', o', ⟨nk', nm', t', d'⟩⟩))) ∧ h = [] := by
  refine ent tabOK hmix Tryz.func93 rfl rfl fun X0 hX => ?_
  simp only [Tryz.ntmps93, Tryz.f93, go_sem]
  repeat' (first | simp (maxSteps := 1000000) only [*, go_sem, Nat.reduceLT, Nat.reduceLeDiff, Nat.reduceEqDiff, ↓reduceIte, Nat.reduceAdd, Nat.reduceSub, Nat.reduceMul, Int.reduceLT, Int.reduceLE, Int.reduceAdd, Int.reduceSub, Int.reduceMul, Int.reduceNeg, Int.reduceToNat, Int.reduceEq, Int.reduceBEq, Int.reduceBNe, Nat.reduceBEq, beq_self_eq_true, bne_self_eq_false] | ((with_reducible refine useF (ndSame_c) ?_ ?_ ?_); (focus exact rfl); (focus exact rfl)) | with_reducible refine vcond_split (fun _ => ?_) (fun _ => ?_) | with_reducible refine vg_split (fun _ => ?_) (fun _ => ?_) | ((with_reducible apply DCalls.frz); (focus exact rfl); (focus exact rfl)) | ((with_reducible refine And.intro ?_ ?_); (focus (first | omega | decide | assumption | (simp only [decide_eq_true_eq, decide_eq_false_iff_not] at *; omega)))))
  all_goals (first | (with_reducible rfl) | (simp_all [sameEn]; done) | (simp_all [sameEn]; omega) | (simp_all [sameEn]; (repeat' split) <;> omega))

theorem eqE_c {a b : List En} (ha : a.length ≤ 1000000) (hb : b.length ≤ 1000000) :
    DCalls Tryz.prog 92 [.c (.p (.sl 7 (encE a))), .c (.p (.sl 7 (encE b))), .c (.clo 93 [])] [] fun r h => r = .c (.p (.b (sameEs a b))) ∧ h = [] := by
  by_cases hl : b.length = a.length
  · have q1 : ((a.length : Int) != a.length) = false := by simp
    refine ent tabOK hmix Tryz.func92 rfl rfl fun X0 hX => ?_
    simp only [Tryz.ntmps92, Tryz.f92, go_sem]
    repeat' (first | simp (maxSteps := 1000000) only [*, go_sem, Nat.reduceLT, Nat.reduceLeDiff, Nat.reduceEqDiff, ↓reduceIte, Nat.reduceAdd, Nat.reduceSub, Nat.reduceMul, Int.reduceLT, Int.reduceLE, Int.reduceAdd, Int.reduceSub, Int.reduceMul, Int.reduceNeg, Int.reduceToNat, Int.reduceEq, Int.reduceBEq, Int.reduceBNe, Nat.reduceBEq, beq_self_eq_true, bne_self_eq_false] | with_reducible refine vcond_split (fun _ => ?_) (fun _ => ?_) | with_reducible refine vg_split (fun _ => ?_) (fun _ => ?_) | ((with_reducible apply DCalls.frz); (focus exact rfl); (focus exact rfl)) | ((with_reducible refine And.intro ?_ ?_); (focus (first | omega | decide | assumption | (simp only [decide_eq_true_eq, decide_eq_false_iff_not] at *; omega)))))
    refine loop_ren tabOK hmix (α := Nat) (fun k => ⟨32, [(1, .c (.p (.sl 7 (encE b)))), (2, .c (.clo 93 [])), (15, .c (.p (.sl 7 (encE a)))), (16, .c (.p (.i .i64 a.length))), (17, .c (.p (.i .i64 k)))], []⟩)
      (fun k => k ≤ a.length ∧ sameEs (a.drop k) (b.drop k) = sameEs a b) (fun k => a.length - k) 0 ⟨Nat.zero_le _, rfl⟩ (.inl (weak_mk (by rw [hX]; rfl) rfl rfl (by simp [wk_cons, wk_nil, look_cons, closedD, closedC, encT_nil, encS_nil, encC_nil]))) ?_
    rintro k ⟨hk, hs⟩
    by_cases hlt : k < a.length
    · have hx : a[k]? = some a[k] := List.getElem?_eq_getElem hlt
      have hy : b[k]? = some (b[k]'(by omega)) := List.getElem?_eq_getElem (by omega)
      have hg := encE_at hx
      have hg2 := encE_at hy
      have h1 : decide ((k : Int) < (a.length : Int)) = true := decide_eq_true (by omega)
      have hd := sameEs_drop hx hy
      generalize a[k] = x at hx hg hd
      generalize (b[k]'(by omega)) = y at hy hg2 hd
      have w1 : IntKind.i64.wrap ((k : Int) + 1) = k + 1 := wrap_i64 (by omega) (by omega)
      rw [hd] at hs
      clear hd
      repeat' (first | simp (maxSteps := 1000000) only [*, go_sem, Nat.reduceLT, Nat.reduceLeDiff, Nat.reduceEqDiff, ↓reduceIte, Nat.reduceAdd, Nat.reduceSub, Nat.reduceMul, Int.reduceLT, Int.reduceLE, Int.reduceAdd, Int.reduceSub, Int.reduceMul, Int.reduceNeg, Int.reduceToNat, Int.reduceEq, Int.reduceBEq, Int.reduceBNe, Nat.reduceBEq, beq_self_eq_true, bne_self_eq_false] | ((with_reducible refine useF (sameE1_c) ?_ ?_ ?_); (focus exact rfl); (focus exact rfl)) | with_reducible refine vcond_split (fun _ => ?_) (fun _ => ?_) | with_reducible refine vg_split (fun _ => ?_) (fun _ => ?_) | ((with_reducible apply DCalls.frz); (focus exact rfl); (focus exact rfl)) | ((with_reducible refine And.intro ?_ ?_); (focus (first | omega | decide | assumption | (simp only [decide_eq_true_eq, decide_eq_false_iff_not] at *; omega)))))
      · rename_i hb
        rw [Bool.not_eq_true'] at hb
        rw [hb, Bool.false_and] at hs
        rw [← hs]
      · rename_i hb
        rw [Bool.not_eq_false'] at hb
        rw [hb, Bool.true_and] at hs
        exact qr_n (k + 1) ⟨by omega, hs⟩ (by omega) (weak_mk rfl rfl rfl (by simp [wk_cons, wk_nil, look_cons, closedD, closedC, renT, renD, renC, encT_nil, encS_nil, encC_nil]))
    · have h1 : decide ((k : Int) < (a.length : Int)) = false := decide_eq_false (by omega)
      rw [List.drop_of_length_le (by omega), List.drop_of_length_le (by omega)] at hs
      have hs2 : sameEs a b = true := hs.symm
      clear hs
      repeat' (first | simp (maxSteps := 1000000) only [*, go_sem, Nat.reduceLT, Nat.reduceLeDiff, Nat.reduceEqDiff, ↓reduceIte, Nat.reduceAdd, Nat.reduceSub, Nat.reduceMul, Int.reduceLT, Int.reduceLE, Int.reduceAdd, Int.reduceSub, Int.reduceMul, Int.reduceNeg, Int.reduceToNat, Int.reduceEq, Int.reduceBEq, Int.reduceBNe, Nat.reduceBEq, beq_self_eq_true, bne_self_eq_false] | with_reducible refine vcond_split (fun _ => ?_) (fun _ => ?_) | with_reducible refine vg_split (fun _ => ?_) (fun _ => ?_) | ((with_reducible apply DCalls.frz); (focus exact rfl); (focus exact rfl)) | ((with_reducible refine And.intro ?_ ?_); (focus (first | omega | decide | assumption | (simp only [decide_eq_true_eq, decide_eq_false_iff_not] at *; omega)))))
  · have q1 : ((a.length : Int) != b.length) = true := by simpa [bne] using fun h => hl (by omega)
    rw [sameEs_len fun h => hl h.symm]
    refine ent tabOK hmix Tryz.func92 rfl rfl fun X0 hX => ?_
    simp only [Tryz.ntmps92, Tryz.f92, go_sem]
    repeat' (first | simp (maxSteps := 1000000) only [*, go_sem, Nat.reduceLT, Nat.reduceLeDiff, Nat.reduceEqDiff, ↓reduceIte, Nat.reduceAdd, Nat.reduceSub, Nat.reduceMul, Int.reduceLT, Int.reduceLE, Int.reduceAdd, Int.reduceSub, Int.reduceMul, Int.reduceNeg, Int.reduceToNat, Int.reduceEq, Int.reduceBEq, Int.reduceBNe, Nat.reduceBEq, beq_self_eq_true, bne_self_eq_false] | with_reducible refine vcond_split (fun _ => ?_) (fun _ => ?_) | with_reducible refine vg_split (fun _ => ?_) (fun _ => ?_) | ((with_reducible apply DCalls.frz); (focus exact rfl); (focus exact rfl)) | ((with_reducible refine And.intro ?_ ?_); (focus (first | omega | decide | assumption | (simp only [decide_eq_true_eq, decide_eq_false_iff_not] at *; omega)))))

theorem layerSame_c {a b : List En} (ha : a.length ≤ 1000000) (hb : b.length ≤ 1000000) : DCalls Tryz.prog 36 [.c (.p (.sl 7 (encE a))), .c (.p (.sl 7 (encE b)))] [] fun r h => r = .c (.p (.b (sameEs a b))) ∧ h = [] := by
  refine ent tabOK hmix Tryz.func36 rfl rfl fun X0 hX => ?_
  simp only [Tryz.ntmps36, Tryz.f36, go_sem]
  repeat' (first | simp (maxSteps := 1000000) only [*, go_sem, Nat.reduceLT, Nat.reduceLeDiff, Nat.reduceEqDiff, ↓reduceIte, Nat.reduceAdd, Nat.reduceSub, Nat.reduceMul, Int.reduceLT, Int.reduceLE, Int.reduceAdd, Int.reduceSub, Int.reduceMul, Int.reduceNeg, Int.reduceToNat, Int.reduceEq, Int.reduceBEq, Int.reduceBNe, Nat.reduceBEq, beq_self_eq_true, bne_self_eq_false] | ((with_reducible refine useF (eqE_c ha hb) ?_ ?_ ?_); (focus exact rfl); (focus exact rfl)) | with_reducible refine vcond_split (fun _ => ?_) (fun _ => ?_) | with_reducible refine vg_split (fun _ => ?_) (fun _ => ?_) | ((with_reducible apply DCalls.frz); (focus exact rfl); (focus exact rfl)) | ((with_reducible refine And.intro ?_ ?_); (focus (first | omega | decide | assumption | (simp only [decide_eq_true_eq, decide_eq_false_iff_not] at *; omega)))))

theorem cloneE0_c : DCalls Tryz.prog 94 [.c (.p (.sl 7 []))] [] fun r h => r = .c (.p (.sl 7 [])) ∧ h = [] := by
  refine dcalls_wk ?_
  refine ent tabOK hmix Tryz.func94 rfl rfl fun X0 hX => ?_
  simp only [Tryz.ntmps94, Tryz.f94, go_sem]
  repeat' (first | simp (maxSteps := 1000000) only [*, go_sem, Nat.reduceLT, Nat.reduceLeDiff, Nat.reduceEqDiff, ↓reduceIte, Nat.reduceAdd, Nat.reduceSub, Nat.reduceMul, Int.reduceLT, Int.reduceLE, Int.reduceAdd, Int.reduceSub, Int.reduceMul, Int.reduceNeg, Int.reduceToNat, Int.reduceEq, Int.reduceBEq, Int.reduceBNe, Nat.reduceBEq, beq_self_eq_true, bne_self_eq_false] | with_reducible refine vcond_split (fun _ => ?_) (fun _ => ?_) | with_reducible refine vg_split (fun _ => ?_) (fun _ => ?_) | ((with_reducible apply DCalls.frz); (focus exact rfl); (focus exact rfl)) | ((with_reducible refine And.intro ?_ ?_); (focus (first | omega | decide | assumption | (simp only [decide_eq_true_eq, decide_eq_false_iff_not] at *; omega)))))
  all_goals simp [wkD, wkC, wkP, wkCs]
theorem cloneE_c {x : En} {a : List En} (ha : (x :: a).length ≤ 1000000) : DCalls Tryz.prog 94 [.c (.p (.sl 7 (encE (x :: a))))] [] fun r h => r = .c (.own 1 0 (x :: a).length) ∧ h = [.dead, .arr 7 (encE (x :: a)) false] := by
  have e : encE (x :: a) = x.cs :: encE a := rfl
  have h1 := encE_len (x :: a)
  have h2 := encE_one (x :: a)
  rw [e] at *
  generalize (x :: a).length = n at *
  have h3 : x.cs.length = 7 := rfl
  refine entR tabOK hmix Tryz.func94 rfl rfl fun X0 hX => ?_
  simp only [Tryz.ntmps94, Tryz.f94, go_sem]
  repeat' (first | simp (maxSteps := 1000000) only [*, go_sem, Nat.reduceLT, Nat.reduceLeDiff, Nat.reduceEqDiff, ↓reduceIte, Nat.reduceAdd, Nat.reduceSub, Nat.reduceMul, Int.reduceLT, Int.reduceLE, Int.reduceAdd, Int.reduceSub, Int.reduceMul, Int.reduceNeg, Int.reduceToNat, Int.reduceEq, Int.reduceBEq, Int.reduceBNe, Nat.reduceBEq, beq_self_eq_true, bne_self_eq_false] | with_reducible refine vcond_split (fun _ => ?_) (fun _ => ?_) | with_reducible refine vg_split (fun _ => ?_) (fun _ => ?_) | ((with_reducible apply DCalls.frz); (focus exact rfl); (focus exact rfl)) | ((with_reducible refine And.intro ?_ ?_); (focus (first | omega | decide | assumption | (simp only [decide_eq_true_eq, decide_eq_false_iff_not] at *; omega)))))
  all_goals first | omega | rfl | (simp_all; done)

theorem layerCopy_c {a : List En} (ha : a.length ≤ 1000000) (hd : ∀ x ∈ a, x.n.d.length ≤ 140737488355328) : DCalls Tryz.prog 37 [.c (.p (.sl 7 (encE a)))] [] fun r h => r = .c (.p (.sl 7 (encE a))) ∧ h = [] := by
  cases a with
  | nil =>
    rw [encE_nil]
    refine ent tabOK hmix Tryz.func37 rfl rfl fun X0 hX => ?_
    simp only [Tryz.ntmps37, Tryz.f37, go_sem]
    repeat' (first | simp (maxSteps := 1000000) only [*, go_sem, Nat.reduceLT, Nat.reduceLeDiff, Nat.reduceEqDiff, ↓reduceIte, Nat.reduceAdd, Nat.reduceSub, Nat.reduceMul, Int.reduceLT, Int.reduceLE, Int.reduceAdd, Int.reduceSub, Int.reduceMul, Int.reduceNeg, Int.reduceToNat, Int.reduceEq, Int.reduceBEq, Int.reduceBNe, Nat.reduceBEq, beq_self_eq_true, bne_self_eq_false] | ((with_reducible refine useN (cloneE0_c) ?_ ?_ ?_); (focus exact rfl); (focus exact fun _ => rfl)) | with_reducible refine vcond_split (fun _ => ?_) (fun _ => ?_) | with_reducible refine vg_split (fun _ => ?_) (fun _ => ?_) | ((with_reducible apply DCalls.frz); (focus exact rfl); (focus exact rfl)) | ((with_reducible refine And.intro ?_ ?_); (focus (first | omega | decide | assumption | (simp only [decide_eq_true_eq, decide_eq_false_iff_not] at *; omega)))))
    refine loop_ren tabOK hmix (α := Unit) (fun _ => ⟨24, [(3, .c (.p (.sl 7 []))), (8, .c (.p (.i .i64 0))), (9, .c (.p (.i .i64 0)))], []⟩) (fun _ => True) (fun _ => 0) () trivial (.inl (weak_mk (by rw [hX]; rfl) rfl rfl (by simp [wk_cons, wk_nil, look_cons, closedD, closedC, encT_nil, encS_nil, encC_nil]))) ?_
    rintro - -
    repeat' (first | simp (maxSteps := 1000000) only [*, go_sem, Nat.reduceLT, Nat.reduceLeDiff, Nat.reduceEqDiff, ↓reduceIte, Nat.reduceAdd, Nat.reduceSub, Nat.reduceMul, Int.reduceLT, Int.reduceLE, Int.reduceAdd, Int.reduceSub, Int.reduceMul, Int.reduceNeg, Int.reduceToNat, Int.reduceEq, Int.reduceBEq, Int.reduceBNe, Nat.reduceBEq, beq_self_eq_true, bne_self_eq_false] | with_reducible refine vcond_split (fun _ => ?_) (fun _ => ?_) | with_reducible refine vg_split (fun _ => ?_) (fun _ => ?_) | ((with_reducible apply DCalls.frz); (focus exact rfl); (focus exact rfl)) | ((with_reducible refine And.intro ?_ ?_); (focus (first | omega | decide | assumption | (simp only [decide_eq_true_eq, decide_eq_false_iff_not] at *; omega)))))
  | cons x a =>
    have hcl := cloneE_c ha
    generalize hl : x :: a = l at *
    clear hl
    refine ent tabOK hmix Tryz.func37 rfl rfl fun X0 hX => ?_
    simp only [Tryz.ntmps37, Tryz.f37, go_sem]
    repeat' (first | simp (maxSteps := 1000000) only [*, go_sem, Nat.reduceLT, Nat.reduceLeDiff, Nat.reduceEqDiff, ↓reduceIte, Nat.reduceAdd, Nat.reduceSub, Nat.reduceMul, Int.reduceLT, Int.reduceLE, Int.reduceAdd, Int.reduceSub, Int.reduceMul, Int.reduceNeg, Int.reduceToNat, Int.reduceEq, Int.reduceBEq, Int.reduceBNe, Nat.reduceBEq, beq_self_eq_true, bne_self_eq_false] | refine useOD hcl rfl rfl ?_ | with_reducible refine vcond_split (fun _ => ?_) (fun _ => ?_) | with_reducible refine vg_split (fun _ => ?_) (fun _ => ?_) | ((with_reducible apply DCalls.frz); (focus exact rfl); (focus exact rfl)) | ((with_reducible refine And.intro ?_ ?_); (focus (first | omega | decide | assumption | (simp only [decide_eq_true_eq, decide_eq_false_iff_not] at *; omega)))))
    refine loop_ren tabOK hmix (α := Nat) (fun k => ⟨24, [(3, .c (.own 1 0 l.length)), (8, .c (.p (.i .i64 l.length))), (9, .c (.p (.i .i64 k)))], [.dead, .arr 7 (encE l) false]⟩)
      (fun k => k ≤ l.length) (fun k => l.length - k) 0 (Nat.zero_le _) (.inl (weak_mk (by rw [hX]; rfl) rfl rfl (by simp [wk_cons, wk_nil, look_cons, closedD, closedC, encT_nil, encS_nil, encC_nil]))) ?_
    intro k hk
    by_cases hlt : k < l.length
    · have hx : l[k]? = some l[k] := List.getElem?_eq_getElem hlt
      have hg := encE_at hx
      have hset := encE_put hx
      have hdx := hd _ (List.getElem_mem hlt)
      have h1 : decide ((k : Int) < (l.length : Int)) = true := decide_eq_true (by omega)
      have hli : (k : Int) < (l.length : Int) := by omega
      have hk0 : (0 : Int) ≤ k := by omega
      have w1 : IntKind.i64.wrap ((k : Int) + 1) = k + 1 := wrap_i64 (by omega) (by omega)
      generalize l[k] = x at hx hg hset hdx
      have hcp := copy_c (k := x.n.k) (m := x.n.m) (t := x.n.t) (d := x.n.d) hdx
      clear hx hcl hd
      repeat' (first | simp (maxSteps := 1000000) only [*, go_sem, Nat.reduceLT, Nat.reduceLeDiff, Nat.reduceEqDiff, ↓reduceIte, Nat.reduceAdd, Nat.reduceSub, Nat.reduceMul, Int.reduceLT, Int.reduceLE, Int.reduceAdd, Int.reduceSub, Int.reduceMul, Int.reduceNeg, Int.reduceToNat, Int.reduceEq, Int.reduceBEq, Int.reduceBNe, Nat.reduceBEq, beq_self_eq_true, bne_self_eq_false] | ((with_reducible refine useN (hcp) ?_ ?_ ?_); (focus exact rfl); (focus exact fun _ => rfl)) | with_reducible refine vcond_split (fun _ => ?_) (fun _ => ?_) | with_reducible refine vg_split (fun _ => ?_) (fun _ => ?_) | ((with_reducible apply DCalls.frz); (focus exact rfl); (focus exact rfl)) | ((with_reducible refine And.intro ?_ ?_); (focus (first | omega | decide | assumption | (simp only [decide_eq_true_eq, decide_eq_false_iff_not] at *; omega)))))
      exact qr_n (k + 1) (by omega) (by omega) (weak_mk rfl rfl rfl (by simp [wk_cons, wk_nil, look_cons, closedD, closedC, closedK, closedB]))
    · have h1 : decide ((k : Int) < (l.length : Int)) = false := decide_eq_false (by omega)
      clear hcl hd
      repeat' (first | simp (maxSteps := 1000000) only [*, go_sem, Nat.reduceLT, Nat.reduceLeDiff, Nat.reduceEqDiff, ↓reduceIte, Nat.reduceAdd, Nat.reduceSub, Nat.reduceMul, Int.reduceLT, Int.reduceLE, Int.reduceAdd, Int.reduceSub, Int.reduceMul, Int.reduceNeg, Int.reduceToNat, Int.reduceEq, Int.reduceBEq, Int.reduceBNe, Nat.reduceBEq, beq_self_eq_true, bne_self_eq_false] | with_reducible refine vcond_split (fun _ => ?_) (fun _ => ?_) | with_reducible refine vg_split (fun _ => ?_) (fun _ => ?_) | ((with_reducible apply DCalls.frz); (focus exact rfl); (focus exact rfl)) | ((with_reducible refine And.intro ?_ ?_); (focus (first | omega | decide | assumption | (simp only [decide_eq_true_eq, decide_eq_false_iff_not] at *; omega)))))
      all_goals rw [List.take_of_length_le (by rw [encE_len]; exact Nat.le_refl _)]

/-! Chapter 12's example. -/
theorem d12_c {p : List UInt8} : DCalls Tryz.prog 83 [.c (.p (.s p))] [] fun r h => r = .agg [.p (.s p), .p (.i .i64 2), .p (.i .i64 493), .p (.f 0), .p .nil] ∧ h = [] := by
  refine ent tabOK hmix Tryz.func83 rfl rfl fun X0 hX => ?_
  simp only [Tryz.ntmps83, Tryz.f83, go_sem]
  repeat' (first | simp (maxSteps := 1000000) only [*, go_sem, Nat.reduceLT, Nat.reduceLeDiff, Nat.reduceEqDiff, ↓reduceIte, Nat.reduceAdd, Nat.reduceSub, Nat.reduceMul, Int.reduceLT, Int.reduceLE, Int.reduceAdd, Int.reduceSub, Int.reduceMul, Int.reduceNeg, Int.reduceToNat, Int.reduceEq, Int.reduceBEq, Int.reduceBNe, Nat.reduceBEq, beq_self_eq_true, bne_self_eq_false] | with_reducible refine vcond_split (fun _ => ?_) (fun _ => ?_) | with_reducible refine vg_split (fun _ => ?_) (fun _ => ?_) | ((with_reducible apply DCalls.frz); (focus exact rfl); (focus exact rfl)) | ((with_reducible refine And.intro ?_ ?_); (focus (first | omega | decide | assumption | (simp only [decide_eq_true_eq, decide_eq_false_iff_not] at *; omega)))))
def it12 (p : List UInt8) : It := ⟨p, ⟨2, 493, 0, []⟩⟩
def row12 (p : List UInt8) : List PV := [.s p, .i .i64 2, .i .i64 493, .f 0, .nil]
theorem row12_wk (p : List UInt8) : wkPs (row12 p) (it12 p).cs := ⟨.inl rfl, .inl rfl, .inl rfl, .inl rfl, .inr ⟨rfl, 1, rfl⟩, True.intro⟩
def t12 : List It := [it12 [100], it12 [100, 47, 97], it12 [100, 47, 98]]
def w12 : List It := [it12 [100]]
theorem t12_ok : OkT t12 := ⟨⟨by decide +kernel, by
  intro x hx
  simp only [t12, List.mem_cons, List.not_mem_nil, or_false] at hx
  rcases hx with rfl | rfl | rfl <;> exact ⟨by decide, by decide +kernel, by decide +kernel, by decide⟩, by decide⟩, by
  intro x hx
  simp only [t12, List.mem_cons, List.not_mem_nil, or_false] at hx
  rcases hx with rfl | rfl | rfl <;> decide +kernel⟩
theorem w12_ok : OkT w12 := ⟨⟨by decide +kernel, by
  intro x hx
  simp only [w12, List.mem_cons, List.not_mem_nil, or_false] at hx
  rcases hx with rfl <;> exact ⟨by decide, by decide +kernel, by decide +kernel, by decide⟩, by decide⟩, by
  intro x hx
  simp only [w12, List.mem_cons, List.not_mem_nil, or_false] at hx
  rcases hx with rfl <;> decide +kernel⟩
theorem make12 : makeF t12 w12 = [⟨[100], 1, true, ⟨2, 493, 0, []⟩⟩] := by
  unfold makeF opqM opqB
  simp only [namesF_len]
  kernel_rfl
theorem known12_c : DCalls Tryz.prog 32 [] [] fun r h => r = .c (.p (.b true)) ∧ h = [] := by
  have q1 : wkRows [row12 [100], row12 [100, 47, 97], row12 [100, 47, 98]] (encT t12) := ⟨row12_wk _, row12_wk _, row12_wk _, True.intro⟩
  have q2 : wkRows [row12 [100]] (encT w12) := ⟨row12_wk _, True.intro⟩
  have a1 := DCalls.wkR2 q1 q2 (layerMake_c t12_ok w12_ok)
  clear q1 q2
  have a2 := layerRight_c (make_ok t12_ok w12_ok)
  rw [make12] at a1 a2
  unfold row12 at a1
  have hg := encE_at (t := [⟨[100], 1, true, ⟨2, 493, 0, []⟩⟩]) (k := 0) rfl
  have hl : (([⟨[100], 1, true, ⟨2, 493, 0, []⟩⟩] : List En).length : Int) = 1 := rfl
  generalize ([⟨[100], 1, true, ⟨2, 493, 0, []⟩⟩] : List En) = m at a1 a2 hg hl
  refine ent tabOK hmix Tryz.func32 rfl rfl fun X0 hX => ?_
  simp only [Tryz.ntmps32, Tryz.f32, go_sem]
  repeat' (first | simp (maxSteps := 1000000) only [*, go_sem, Nat.reduceLT, Nat.reduceLeDiff, Nat.reduceEqDiff, ↓reduceIte, Nat.reduceAdd, Nat.reduceSub, Nat.reduceMul, Int.reduceLT, Int.reduceLE, Int.reduceAdd, Int.reduceSub, Int.reduceMul, Int.reduceNeg, Int.reduceToNat, Int.reduceEq, Int.reduceBEq, Int.reduceBNe, Nat.reduceBEq, beq_self_eq_true, bne_self_eq_false, Bool.not_true, Bool.not_false] | ((with_reducible refine useF (d12_c) ?_ ?_ ?_); (focus exact rfl); (focus exact rfl)) | ((with_reducible refine useN (a1) ?_ ?_ ?_); (focus exact rfl); (focus exact fun _ => rfl)) | ((with_reducible refine useF (a2) ?_ ?_ ?_); (focus exact rfl); (focus exact rfl)) | with_reducible refine vcond_split (fun _ => ?_) (fun _ => ?_) | with_reducible refine vg_split (fun _ => ?_) (fun _ => ?_) | ((with_reducible apply DCalls.frz); (focus exact rfl); (focus exact rfl)) | ((with_reducible refine And.intro ?_ ?_); (focus (first | omega | decide | assumption | (simp only [decide_eq_true_eq, decide_eq_false_iff_not] at *; omega)))))
end Go.Proofs.YtfiopamaiolfhaaGreatDoor

end

section
/-
  Chapter 12's laws: what is made of two trees is what the document makes; a layer over a layer.
-/

set_option linter.unusedSimpArgs false
set_option linter.unusedVariables false
namespace Go.Proofs.YtfiopamaiolfhaaGreatDoor
open Go Go.Dm Go.Proofs
set_option maxRecDepth 100000
set_option maxHeartbeats 8000000

def smI (l : List RI) : Prop := l.length ≤ 9223372036854775807 ∧ (∀ x ∈ l, x.n.d.length ≤ 9223372036854775807) ∧ ∀ x ∈ l, x.n.x < 18446744073709551616
def smU (l : List RU) : Prop := l.length ≤ 9223372036854775807 ∧ (∀ x ∈ l, x.n.d.length ≤ 9223372036854775807) ∧ ∀ x ∈ l, x.n.x < 18446744073709551616

theorem layerMakes_law {l o : List RI} {us : List RU} {near : Bool} (hl : smI l) (hu : smU us) (ho : smI o) :
    DCalls Tryz.prog 7 [.c (.p (.sl 6 (Go.Dm.encI l))), .c (.p (.sl 8 (Go.Dm.encU us))), .c (.p (.sl 6 (Go.Dm.encI o))), .c (.p (.b near))] [] fun r h => r = .c (.p (.b true)) ∧ h = [] := by
  refine entS tabOK Tryz.func7 rfl rfl fun X0 hX => ?_
  simp only [Tryz.ntmps7, Tryz.f7, go_sem]
  refine swp_first tabOK hmix ?_
  repeat' (first | simp (maxSteps := 1000000) only [*, go_sem, Nat.reduceLT, Nat.reduceLeDiff, Nat.reduceEqDiff, ↓reduceIte, Nat.reduceAdd, Nat.reduceSub, Nat.reduceMul, Int.reduceLT, Int.reduceLE, Int.reduceAdd, Int.reduceSub, Int.reduceMul, Int.reduceNeg, Int.reduceToNat, Int.reduceEq, Int.reduceBEq, Int.reduceBNe, Nat.reduceBEq, beq_self_eq_true, bne_self_eq_false] | with_reducible refine vcond_split (fun _ => ?_) (fun _ => ?_) | with_reducible refine vg_split (fun _ => ?_) (fun _ => ?_) | ((with_reducible apply DCalls.frz); (focus exact rfl); (focus exact rfl)) | ((with_reducible refine And.intro ?_ ?_); (focus (first | omega | decide | assumption | (simp only [decide_eq_true_eq, decide_eq_false_iff_not] at *; omega)))))
  refine swp_first tabOK hmix ?_
  repeat' (first | simp (maxSteps := 1000000) only [*, go_sem, Nat.reduceLT, Nat.reduceLeDiff, Nat.reduceEqDiff, ↓reduceIte, Nat.reduceAdd, Nat.reduceSub, Nat.reduceMul, Int.reduceLT, Int.reduceLE, Int.reduceAdd, Int.reduceSub, Int.reduceMul, Int.reduceNeg, Int.reduceToNat, Int.reduceEq, Int.reduceBEq, Int.reduceBNe, Nat.reduceBEq, beq_self_eq_true, bne_self_eq_false] | with_reducible refine vcond_split (fun _ => ?_) (fun _ => ?_) | with_reducible refine vg_split (fun _ => ?_) (fun _ => ?_) | ((with_reducible apply DCalls.frz); (focus exact rfl); (focus exact rfl)) | ((with_reducible refine And.intro ?_ ?_); (focus (first | omega | decide | assumption | (simp only [decide_eq_true_eq, decide_eq_false_iff_not] at *; omega)))))
  refine useNE (C := OkT) (e := fun t => .c (.p (.sl 5 (encT t)))) (tree_c hl.1 hl.2.1 hl.2.2) rfl (fun _ _ _ => rfl) fun t ht => ?_
  repeat' (first | simp (maxSteps := 1000000) only [*, go_sem, Nat.reduceLT, Nat.reduceLeDiff, Nat.reduceEqDiff, ↓reduceIte, Nat.reduceAdd, Nat.reduceSub, Nat.reduceMul, Int.reduceLT, Int.reduceLE, Int.reduceAdd, Int.reduceSub, Int.reduceMul, Int.reduceNeg, Int.reduceToNat, Int.reduceEq, Int.reduceBEq, Int.reduceBNe, Nat.reduceBEq, beq_self_eq_true, bne_self_eq_false] | with_reducible refine vcond_split (fun _ => ?_) (fun _ => ?_) | with_reducible refine vg_split (fun _ => ?_) (fun _ => ?_) | ((with_reducible apply DCalls.frz); (focus exact rfl); (focus exact rfl)) | ((with_reducible refine And.intro ?_ ?_); (focus (first | omega | decide | assumption | (simp only [decide_eq_true_eq, decide_eq_false_iff_not] at *; omega)))))
  refine swp_first tabOK hmix ?_
  repeat' (first | simp (maxSteps := 1000000) only [*, go_sem, Nat.reduceLT, Nat.reduceLeDiff, Nat.reduceEqDiff, ↓reduceIte, Nat.reduceAdd, Nat.reduceSub, Nat.reduceMul, Int.reduceLT, Int.reduceLE, Int.reduceAdd, Int.reduceSub, Int.reduceMul, Int.reduceNeg, Int.reduceToNat, Int.reduceEq, Int.reduceBEq, Int.reduceBNe, Nat.reduceBEq, beq_self_eq_true, bne_self_eq_false] | with_reducible refine vcond_split (fun _ => ?_) (fun _ => ?_) | with_reducible refine vg_split (fun _ => ?_) (fun _ => ?_) | ((with_reducible apply DCalls.frz); (focus exact rfl); (focus exact rfl)) | ((with_reducible refine And.intro ?_ ?_); (focus (first | omega | decide | assumption | (simp only [decide_eq_true_eq, decide_eq_false_iff_not] at *; omega)))))
  refine useNE (C := OkT) (e := fun t => .c (.p (.sl 5 (encT t)))) (tree_c ho.1 ho.2.1 ho.2.2) rfl (fun _ _ _ => rfl) fun w0 hw0 => ?_
  repeat' (first | simp (maxSteps := 1000000) only [*, go_sem, Nat.reduceLT, Nat.reduceLeDiff, Nat.reduceEqDiff, ↓reduceIte, Nat.reduceAdd, Nat.reduceSub, Nat.reduceMul, Int.reduceLT, Int.reduceLE, Int.reduceAdd, Int.reduceSub, Int.reduceMul, Int.reduceNeg, Int.reduceToNat, Int.reduceEq, Int.reduceBEq, Int.reduceBNe, Nat.reduceBEq, beq_self_eq_true, bne_self_eq_false] | with_reducible refine vcond_split (fun _ => ?_) (fun _ => ?_) | with_reducible refine vg_split (fun _ => ?_) (fun _ => ?_) | ((with_reducible apply DCalls.frz); (focus exact rfl); (focus exact rfl)) | ((with_reducible refine And.intro ?_ ?_); (focus (first | omega | decide | assumption | (simp only [decide_eq_true_eq, decide_eq_false_iff_not] at *; omega)))))
  refine swp_join tabOK hmix (α := List It) (fun w => ⟨41, [(9, .c (.p (.sl 5 (encT t)))), (10, .c (.p (.sl 5 (encT w))))], []⟩) OkT ?_ ?_
  · cases near
    · clear hl hu ho
      repeat' (first | simp (maxSteps := 1000000) only [*, go_sem, Nat.reduceLT, Nat.reduceLeDiff, Nat.reduceEqDiff, ↓reduceIte, Nat.reduceAdd, Nat.reduceSub, Nat.reduceMul, Int.reduceLT, Int.reduceLE, Int.reduceAdd, Int.reduceSub, Int.reduceMul, Int.reduceNeg, Int.reduceToNat, Int.reduceEq, Int.reduceBEq, Int.reduceBNe, Nat.reduceBEq, beq_self_eq_true, bne_self_eq_false] | with_reducible refine vcond_split (fun _ => ?_) (fun _ => ?_) | with_reducible refine vg_split (fun _ => ?_) (fun _ => ?_) | ((with_reducible apply DCalls.frz); (focus exact rfl); (focus exact rfl)) | ((with_reducible refine And.intro ?_ ?_); (focus (first | omega | decide | assumption | (simp only [decide_eq_true_eq, decide_eq_false_iff_not] at *; omega)))))
      exact qj_n w0 hw0 (weak_mk (by rw [hX]; rfl) rfl rfl (by simp [wk_cons, wk_nil, look_cons, closedD, closedC, renT, renD, renC, encT_nil, encS_nil, encC_nil]))
    · obtain ⟨u1, u2, u3⟩ := hu
      repeat' (first | simp (maxSteps := 1000000) only [*, go_sem, Nat.reduceLT, Nat.reduceLeDiff, Nat.reduceEqDiff, ↓reduceIte, Nat.reduceAdd, Nat.reduceSub, Nat.reduceMul, Int.reduceLT, Int.reduceLE, Int.reduceAdd, Int.reduceSub, Int.reduceMul, Int.reduceNeg, Int.reduceToNat, Int.reduceEq, Int.reduceBEq, Int.reduceBNe, Nat.reduceBEq, beq_self_eq_true, bne_self_eq_false] | with_reducible refine vcond_split (fun _ => ?_) (fun _ => ?_) | with_reducible refine vg_split (fun _ => ?_) (fun _ => ?_) | ((with_reducible apply DCalls.frz); (focus exact rfl); (focus exact rfl)) | ((with_reducible refine And.intro ?_ ?_); (focus (first | omega | decide | assumption | (simp only [decide_eq_true_eq, decide_eq_false_iff_not] at *; omega)))))
      refine useNE (C := OkT) (e := fun t => .c (.p (.sl 5 (encT t)))) (turned_c ht u1 u2 u3) rfl (fun _ _ _ => rfl) fun w hw => ?_
      repeat' (first | simp (maxSteps := 1000000) only [*, go_sem, Nat.reduceLT, Nat.reduceLeDiff, Nat.reduceEqDiff, ↓reduceIte, Nat.reduceAdd, Nat.reduceSub, Nat.reduceMul, Int.reduceLT, Int.reduceLE, Int.reduceAdd, Int.reduceSub, Int.reduceMul, Int.reduceNeg, Int.reduceToNat, Int.reduceEq, Int.reduceBEq, Int.reduceBNe, Nat.reduceBEq, beq_self_eq_true, bne_self_eq_false] | with_reducible refine vcond_split (fun _ => ?_) (fun _ => ?_) | with_reducible refine vg_split (fun _ => ?_) (fun _ => ?_) | ((with_reducible apply DCalls.frz); (focus exact rfl); (focus exact rfl)) | ((with_reducible refine And.intro ?_ ?_); (focus (first | omega | decide | assumption | (simp only [decide_eq_true_eq, decide_eq_false_iff_not] at *; omega)))))
      exact qj_n w hw (weak_mk (by rw [hX]; rfl) rfl rfl (by simp [wk_cons, wk_nil, look_cons, closedD, closedC, renT, renD, renC, encT_nil, encS_nil, encC_nil]))
  intro w hw
  have hok := make_ok ht hw
  have hml := hok.len
  have h1 := layerMake_c ht hw
  have h2 := refMake_c ht hw
  have h3 := layerRight_c hok
  have h4 := sameLayer_c (a := makeF t w) (by omega)
  have h5 := layerSame_c (a := makeF t w) (b := makeF t w) (by omega) (by omega)
  have h6 := layerCopy_c (a := makeF t w) (by omega) (fun x hx => Nat.le_trans (hok.dlen x hx) (by decide))
  rw [sameEs_refl fun x hx => hok.tlen x hx] at h5
  generalize makeF t w = m at *
  clear hl hu ho hok ht hw hw0
  refine swp_vc tabOK hmix ?_
  repeat' (first | simp (maxSteps := 1000000) only [*, go_sem, Nat.reduceLT, Nat.reduceLeDiff, Nat.reduceEqDiff, ↓reduceIte, Nat.reduceAdd, Nat.reduceSub, Nat.reduceMul, Int.reduceLT, Int.reduceLE, Int.reduceAdd, Int.reduceSub, Int.reduceMul, Int.reduceNeg, Int.reduceToNat, Int.reduceEq, Int.reduceBEq, Int.reduceBNe, Nat.reduceBEq, beq_self_eq_true, bne_self_eq_false, Bool.not_true, Bool.not_false] | ((with_reducible refine useN (h1) ?_ ?_ ?_); (focus exact rfl); (focus exact fun _ => rfl)) | ((with_reducible refine useN (h2) ?_ ?_ ?_); (focus exact rfl); (focus exact fun _ => rfl)) | ((with_reducible refine useF (h3) ?_ ?_ ?_); (focus exact rfl); (focus exact rfl)) | ((with_reducible refine useF (h4) ?_ ?_ ?_); (focus exact rfl); (focus exact rfl)) | ((with_reducible refine useF (h5) ?_ ?_ ?_); (focus exact rfl); (focus exact rfl)) | ((with_reducible refine useN (h6) ?_ ?_ ?_); (focus exact rfl); (focus exact fun _ => rfl)) | ((with_reducible refine useF (known12_c) ?_ ?_ ?_); (focus exact rfl); (focus exact rfl)) | with_reducible refine vcond_split (fun _ => ?_) (fun _ => ?_) | with_reducible refine vg_split (fun _ => ?_) (fun _ => ?_) | ((with_reducible apply DCalls.frz); (focus exact rfl); (focus exact rfl)) | ((with_reducible refine And.intro ?_ ?_); (focus (first | omega | decide | assumption | (simp only [decide_eq_true_eq, decide_eq_false_iff_not] at *; omega)))))

theorem layerJoins_law {l : List RI} {us vs : List RU} (hl : smI l) (hu : smU us) (hv : smU vs) :
    DCalls Tryz.prog 10 [.c (.p (.sl 6 (Go.Dm.encI l))), .c (.p (.sl 8 (Go.Dm.encU us))), .c (.p (.sl 8 (Go.Dm.encU vs)))] [] fun r h => r = .c (.p (.b true)) ∧ h = [] := by
  refine entS tabOK Tryz.func10 rfl rfl fun X0 hX => ?_
  simp only [Tryz.ntmps10, Tryz.f10, go_sem]
  refine swp_first tabOK hmix ?_
  repeat' (first | simp (maxSteps := 1000000) only [*, go_sem, Nat.reduceLT, Nat.reduceLeDiff, Nat.reduceEqDiff, ↓reduceIte, Nat.reduceAdd, Nat.reduceSub, Nat.reduceMul, Int.reduceLT, Int.reduceLE, Int.reduceAdd, Int.reduceSub, Int.reduceMul, Int.reduceNeg, Int.reduceToNat, Int.reduceEq, Int.reduceBEq, Int.reduceBNe, Nat.reduceBEq, beq_self_eq_true, bne_self_eq_false] | with_reducible refine vcond_split (fun _ => ?_) (fun _ => ?_) | with_reducible refine vg_split (fun _ => ?_) (fun _ => ?_) | ((with_reducible apply DCalls.frz); (focus exact rfl); (focus exact rfl)) | ((with_reducible refine And.intro ?_ ?_); (focus (first | omega | decide | assumption | (simp only [decide_eq_true_eq, decide_eq_false_iff_not] at *; omega)))))
  refine swp_first tabOK hmix ?_
  repeat' (first | simp (maxSteps := 1000000) only [*, go_sem, Nat.reduceLT, Nat.reduceLeDiff, Nat.reduceEqDiff, ↓reduceIte, Nat.reduceAdd, Nat.reduceSub, Nat.reduceMul, Int.reduceLT, Int.reduceLE, Int.reduceAdd, Int.reduceSub, Int.reduceMul, Int.reduceNeg, Int.reduceToNat, Int.reduceEq, Int.reduceBEq, Int.reduceBNe, Nat.reduceBEq, beq_self_eq_true, bne_self_eq_false] | with_reducible refine vcond_split (fun _ => ?_) (fun _ => ?_) | with_reducible refine vg_split (fun _ => ?_) (fun _ => ?_) | ((with_reducible apply DCalls.frz); (focus exact rfl); (focus exact rfl)) | ((with_reducible refine And.intro ?_ ?_); (focus (first | omega | decide | assumption | (simp only [decide_eq_true_eq, decide_eq_false_iff_not] at *; omega)))))
  refine useNE (C := OkT) (e := fun t => .c (.p (.sl 5 (encT t)))) (tree_c hl.1 hl.2.1 hl.2.2) rfl (fun _ _ _ => rfl) fun a ha => ?_
  repeat' (first | simp (maxSteps := 1000000) only [*, go_sem, Nat.reduceLT, Nat.reduceLeDiff, Nat.reduceEqDiff, ↓reduceIte, Nat.reduceAdd, Nat.reduceSub, Nat.reduceMul, Int.reduceLT, Int.reduceLE, Int.reduceAdd, Int.reduceSub, Int.reduceMul, Int.reduceNeg, Int.reduceToNat, Int.reduceEq, Int.reduceBEq, Int.reduceBNe, Nat.reduceBEq, beq_self_eq_true, bne_self_eq_false] | with_reducible refine vcond_split (fun _ => ?_) (fun _ => ?_) | with_reducible refine vg_split (fun _ => ?_) (fun _ => ?_) | ((with_reducible apply DCalls.frz); (focus exact rfl); (focus exact rfl)) | ((with_reducible refine And.intro ?_ ?_); (focus (first | omega | decide | assumption | (simp only [decide_eq_true_eq, decide_eq_false_iff_not] at *; omega)))))
  refine swp_first tabOK hmix ?_
  repeat' (first | simp (maxSteps := 1000000) only [*, go_sem, Nat.reduceLT, Nat.reduceLeDiff, Nat.reduceEqDiff, ↓reduceIte, Nat.reduceAdd, Nat.reduceSub, Nat.reduceMul, Int.reduceLT, Int.reduceLE, Int.reduceAdd, Int.reduceSub, Int.reduceMul, Int.reduceNeg, Int.reduceToNat, Int.reduceEq, Int.reduceBEq, Int.reduceBNe, Nat.reduceBEq, beq_self_eq_true, bne_self_eq_false] | with_reducible refine vcond_split (fun _ => ?_) (fun _ => ?_) | with_reducible refine vg_split (fun _ => ?_) (fun _ => ?_) | ((with_reducible apply DCalls.frz); (focus exact rfl); (focus exact rfl)) | ((with_reducible refine And.intro ?_ ?_); (focus (first | omega | decide | assumption | (simp only [decide_eq_true_eq, decide_eq_false_iff_not] at *; omega)))))
  refine useNE (C := OkT) (e := fun t => .c (.p (.sl 5 (encT t)))) (turned_c ha hu.1 hu.2.1 hu.2.2) rfl (fun _ _ _ => rfl) fun b hb => ?_
  repeat' (first | simp (maxSteps := 1000000) only [*, go_sem, Nat.reduceLT, Nat.reduceLeDiff, Nat.reduceEqDiff, ↓reduceIte, Nat.reduceAdd, Nat.reduceSub, Nat.reduceMul, Int.reduceLT, Int.reduceLE, Int.reduceAdd, Int.reduceSub, Int.reduceMul, Int.reduceNeg, Int.reduceToNat, Int.reduceEq, Int.reduceBEq, Int.reduceBNe, Nat.reduceBEq, beq_self_eq_true, bne_self_eq_false] | with_reducible refine vcond_split (fun _ => ?_) (fun _ => ?_) | with_reducible refine vg_split (fun _ => ?_) (fun _ => ?_) | ((with_reducible apply DCalls.frz); (focus exact rfl); (focus exact rfl)) | ((with_reducible refine And.intro ?_ ?_); (focus (first | omega | decide | assumption | (simp only [decide_eq_true_eq, decide_eq_false_iff_not] at *; omega)))))
  refine swp_first tabOK hmix ?_
  repeat' (first | simp (maxSteps := 1000000) only [*, go_sem, Nat.reduceLT, Nat.reduceLeDiff, Nat.reduceEqDiff, ↓reduceIte, Nat.reduceAdd, Nat.reduceSub, Nat.reduceMul, Int.reduceLT, Int.reduceLE, Int.reduceAdd, Int.reduceSub, Int.reduceMul, Int.reduceNeg, Int.reduceToNat, Int.reduceEq, Int.reduceBEq, Int.reduceBNe, Nat.reduceBEq, beq_self_eq_true, bne_self_eq_false] | with_reducible refine vcond_split (fun _ => ?_) (fun _ => ?_) | with_reducible refine vg_split (fun _ => ?_) (fun _ => ?_) | ((with_reducible apply DCalls.frz); (focus exact rfl); (focus exact rfl)) | ((with_reducible refine And.intro ?_ ?_); (focus (first | omega | decide | assumption | (simp only [decide_eq_true_eq, decide_eq_false_iff_not] at *; omega)))))
  refine useNE (C := OkT) (e := fun t => .c (.p (.sl 5 (encT t)))) (turned_c hb hv.1 hv.2.1 hv.2.2) rfl (fun _ _ _ => rfl) fun c hc => ?_
  repeat' (first | simp (maxSteps := 1000000) only [*, go_sem, Nat.reduceLT, Nat.reduceLeDiff, Nat.reduceEqDiff, ↓reduceIte, Nat.reduceAdd, Nat.reduceSub, Nat.reduceMul, Int.reduceLT, Int.reduceLE, Int.reduceAdd, Int.reduceSub, Int.reduceMul, Int.reduceNeg, Int.reduceToNat, Int.reduceEq, Int.reduceBEq, Int.reduceBNe, Nat.reduceBEq, beq_self_eq_true, bne_self_eq_false] | with_reducible refine vcond_split (fun _ => ?_) (fun _ => ?_) | with_reducible refine vg_split (fun _ => ?_) (fun _ => ?_) | ((with_reducible apply DCalls.frz); (focus exact rfl); (focus exact rfl)) | ((with_reducible refine And.intro ?_ ?_); (focus (first | omega | decide | assumption | (simp only [decide_eq_true_eq, decide_eq_false_iff_not] at *; omega)))))
  have m1 := layerMake_c ha hb
  have o1 := layerOver_c ha (make_ok ha hb)
  have m2 := layerMake_c hb hc
  have o2 := layerOver_c hb (make_ok hb hc)
  have m3 := layerMake_c ha hc
  have o3 := layerOver_c ha (make_ok ha hc)
  rw [over_make ha hb] at o1
  rw [over_make hb hc] at o2
  rw [over_make ha hc] at o3
  simp only at o1 o2 o3
  have hcl := hc.len
  have hsT := sameT_c (a := c) (by omega)
  generalize makeF a b = e1 at *
  generalize makeF b c = e2 at *
  generalize makeF a c = e3 at *
  clear hl hu hv ha hb hc
  refine swp_vc tabOK hmix ?_
  repeat' (first | simp (maxSteps := 1000000) only [*, go_sem, Nat.reduceLT, Nat.reduceLeDiff, Nat.reduceEqDiff, ↓reduceIte, Nat.reduceAdd, Nat.reduceSub, Nat.reduceMul, Int.reduceLT, Int.reduceLE, Int.reduceAdd, Int.reduceSub, Int.reduceMul, Int.reduceNeg, Int.reduceToNat, Int.reduceEq, Int.reduceBEq, Int.reduceBNe, Nat.reduceBEq, beq_self_eq_true, bne_self_eq_false, Bool.not_true, Bool.not_false] | ((with_reducible refine useN (m1) ?_ ?_ ?_); (focus exact rfl); (focus exact fun _ => rfl)) | ((with_reducible refine useN (o1) ?_ ?_ ?_); (focus exact rfl); (focus exact fun _ => rfl)) | ((with_reducible refine useN (m2) ?_ ?_ ?_); (focus exact rfl); (focus exact fun _ => rfl)) | ((with_reducible refine useN (o2) ?_ ?_ ?_); (focus exact rfl); (focus exact fun _ => rfl)) | ((with_reducible refine useN (m3) ?_ ?_ ?_); (focus exact rfl); (focus exact fun _ => rfl)) | ((with_reducible refine useN (o3) ?_ ?_ ?_); (focus exact rfl); (focus exact fun _ => rfl)) | ((with_reducible refine useF (hsT) ?_ ?_ ?_); (focus exact rfl); (focus exact rfl)) | ((with_reducible refine useF (known12_c) ?_ ?_ ?_); (focus exact rfl); (focus exact rfl)) | with_reducible refine vcond_split (fun _ => ?_) (fun _ => ?_) | with_reducible refine vg_split (fun _ => ?_) (fun _ => ?_) | ((with_reducible apply DCalls.frz); (focus exact rfl); (focus exact rfl)) | ((with_reducible refine And.intro ?_ ?_); (focus (first | omega | decide | assumption | (simp only [decide_eq_true_eq, decide_eq_false_iff_not] at *; omega)))))
end Go.Proofs.YtfiopamaiolfhaaGreatDoor

end
