import Derived.Test.YtjanmkknbijecaaGreatDoorC1
import Derived.Test.YtjanmkknbijecaaGreatDoorSM
import Derived.Test.YtjanmkknbijecaaGreatDoorVE
import Derived.Test.YtjanmkknbijecaaGreatDoorShelf

section
/-
  Contracts: the order of conflicts; what came from where.
-/

set_option linter.unusedSimpArgs false
set_option linter.unusedVariables false
namespace Go.Proofs.YtjanmkknbijecaaGreatDoor
open Go Go.Dm
set_option maxRecDepth 100000
set_option maxHeartbeats 4000000

theorem isNaNStr_c (s : List UInt8) : DCalls Tryz.prog 155 [.c (.p (.s s))] [] fun d h => d = .c (.p (.b false)) ∧ h = [] := by
  refine ent tabOK hmix Tryz.func155 rfl rfl fun X0 hX => ?_
  simp only [Tryz.ntmps155, Tryz.f155, go_sem]
  repeat' (first | simp (maxSteps := 1000000) only [*, go_sem, Nat.reduceLT, Nat.reduceLeDiff, Nat.reduceEqDiff, ↓reduceIte, Nat.reduceAdd, Nat.reduceSub, Nat.reduceMul, Int.reduceLT, Int.reduceLE, Int.reduceAdd, Int.reduceSub, Int.reduceMul, Int.reduceNeg, Int.reduceToNat, Int.reduceEq, Int.reduceBEq, Int.reduceBNe, Nat.reduceBEq, beq_self_eq_true, bne_self_eq_false] | with_reducible refine vcond_split (fun _ => ?_) (fun _ => ?_) | with_reducible refine vg_split (fun _ => ?_) (fun _ => ?_) | ((with_reducible apply DCalls.frz); (focus exact rfl); (focus exact rfl)) | ((with_reducible refine And.intro ?_ ?_); (focus (first | omega | decide | assumption | (simp only [decide_eq_true_eq, decide_eq_false_iff_not] at *; omega)))))
  all_goals (first | (with_reducible rfl) | (simp_all []; done) | (simp_all []; omega) | (simp_all []; (repeat' split) <;> omega))

theorem cmpStr_c {a b : List UInt8} : DCalls Tryz.prog 110 [.c (.p (.s a)), .c (.p (.s b))] [] fun d h => d = .c (.p (.i .i64 (cmpS a b))) ∧ h = [] := by
  unfold cmpS
  cases h1 : bltL a b <;> cases h2 : (a == b)
  all_goals
    refine ent tabOK hmix Tryz.func110 rfl rfl fun X0 hX => ?_
    simp only [Tryz.ntmps110, Tryz.f110, go_sem]
  all_goals repeat' (first | simp (maxSteps := 1000000) only [*, go_sem, Nat.reduceLT, Nat.reduceLeDiff, Nat.reduceEqDiff, ↓reduceIte, Nat.reduceAdd, Nat.reduceSub, Nat.reduceMul, Int.reduceLT, Int.reduceLE, Int.reduceAdd, Int.reduceSub, Int.reduceMul, Int.reduceNeg, Int.reduceToNat, Int.reduceEq, Int.reduceBEq, Int.reduceBNe, Nat.reduceBEq, beq_self_eq_true, bne_self_eq_false] | ((with_reducible refine useF (isNaNStr_c _) ?_ ?_ ?_); (focus exact rfl); (focus exact rfl)) | with_reducible refine vcond_split (fun _ => ?_) (fun _ => ?_) | with_reducible refine vg_split (fun _ => ?_) (fun _ => ?_) | ((with_reducible apply DCalls.frz); (focus exact rfl); (focus exact rfl)) | ((with_reducible refine And.intro ?_ ?_); (focus (first | omega | decide | assumption | (simp only [decide_eq_true_eq, decide_eq_false_iff_not] at *; omega)))))
  all_goals simp

theorem sorted1_c {p q : List UInt8} {k m : Int} : DCalls Tryz.prog 108 [.agg [.p (.s p), .p (.i .i64 k)], .agg [.p (.s q), .p (.i .i64 m)]] [] fun r h => r = .c (.p (.i .i64 (cfC ⟨p, k⟩ ⟨q, m⟩))) ∧ h = [] := by
  unfold cfC
  simp only
  refine ent tabOK hmix Tryz.func108 rfl rfl fun X0 hX => ?_
  simp only [Tryz.ntmps108, Tryz.f108, go_sem]
  repeat' (first | simp (maxSteps := 1000000) only [*, go_sem, Nat.reduceLT, Nat.reduceLeDiff, Nat.reduceEqDiff, ↓reduceIte, Nat.reduceAdd, Nat.reduceSub, Nat.reduceMul, Int.reduceLT, Int.reduceLE, Int.reduceAdd, Int.reduceSub, Int.reduceMul, Int.reduceNeg, Int.reduceToNat, Int.reduceEq, Int.reduceBEq, Int.reduceBNe, Nat.reduceBEq, beq_self_eq_true, bne_self_eq_false] | ((with_reducible refine useF (cmpStr_c) ?_ ?_ ?_); (focus exact rfl); (focus exact rfl)) | ((with_reducible refine useF (cmpInt_c _ _) ?_ ?_ ?_); (focus exact rfl); (focus exact rfl)) | ((with_reducible refine useF (Or_c _ _) ?_ ?_ ?_); (focus exact rfl); (focus exact rfl)) | ((refine vc_drawn (id := 1) tabOK hmix [10,11] [0,1,2,3,4,5,6,7,8,9,10,11,12] (by decide +kernel) ?_); (repeat' (first | (refine ds_nil ?_) | ((refine ds_chg ?_ ?_ rfl rfl rfl ?_ ?_); (rotate_left 2); (focus ((repeat' (first | simp (maxSteps := 1000000) only [*, go_sem, Nat.reduceLT, Nat.reduceLeDiff, Nat.reduceEqDiff, ↓reduceIte, Nat.reduceAdd, Nat.reduceSub, Nat.reduceMul, Int.reduceLT, Int.reduceLE, Int.reduceAdd, Int.reduceSub, Int.reduceMul, Int.reduceNeg, Int.reduceToNat, Int.reduceEq, Int.reduceBEq, Int.reduceBNe, Nat.reduceBEq, beq_self_eq_true, bne_self_eq_false] | ((with_reducible refine useF (cmpStr_c) ?_ ?_ ?_); (focus exact rfl); (focus exact rfl)) | ((with_reducible refine useF (cmpInt_c _ _) ?_ ?_ ?_); (focus exact rfl); (focus exact rfl)) | ((with_reducible refine useF (Or_c _ _) ?_ ?_ ?_); (focus exact rfl); (focus exact rfl)) | with_reducible refine vcond_split (fun _ => ?_) (fun _ => ?_) | with_reducible refine vg_split (fun _ => ?_) (fun _ => ?_) | ((with_reducible apply DCalls.frz); (focus exact rfl); (focus exact rfl)) | ((with_reducible refine And.intro ?_ ?_); (focus (first | omega | decide | assumption | (simp only [decide_eq_true_eq, decide_eq_false_iff_not] at *; omega)))))); (first | exact rfl | (refine And.intro ?_ ?_ <;> exact rfl)))); (simp only [putF_some, putF_none])) | ((refine ds_all ?_ rfl rfl rfl ?_ ?_); (rotate_left 1); (focus ((repeat' (first | exact allH_nil | refine allH_cons ?_ ?_)); (all_goals ((repeat' (first | simp (maxSteps := 1000000) only [*, go_sem, Nat.reduceLT, Nat.reduceLeDiff, Nat.reduceEqDiff, ↓reduceIte, Nat.reduceAdd, Nat.reduceSub, Nat.reduceMul, Int.reduceLT, Int.reduceLE, Int.reduceAdd, Int.reduceSub, Int.reduceMul, Int.reduceNeg, Int.reduceToNat, Int.reduceEq, Int.reduceBEq, Int.reduceBNe, Nat.reduceBEq, beq_self_eq_true, bne_self_eq_false] | ((with_reducible refine useF (cmpStr_c) ?_ ?_ ?_); (focus exact rfl); (focus exact rfl)) | ((with_reducible refine useF (cmpInt_c _ _) ?_ ?_ ?_); (focus exact rfl); (focus exact rfl)) | ((with_reducible refine useF (Or_c _ _) ?_ ?_ ?_); (focus exact rfl); (focus exact rfl)) | with_reducible refine vcond_split (fun _ => ?_) (fun _ => ?_) | with_reducible refine vg_split (fun _ => ?_) (fun _ => ?_) | ((with_reducible apply DCalls.frz); (focus exact rfl); (focus exact rfl)) | ((with_reducible refine And.intro ?_ ?_); (focus (first | omega | decide | assumption | (simp only [decide_eq_true_eq, decide_eq_false_iff_not] at *; omega)))))); (try (first | exact rfl | omega)))))); (simp only [putF_some, putF_none]))))) | with_reducible refine vcond_split (fun _ => ?_) (fun _ => ?_) | with_reducible refine vg_split (fun _ => ?_) (fun _ => ?_) | ((with_reducible apply DCalls.frz); (focus exact rfl); (focus exact rfl)) | ((with_reducible refine And.intro ?_ ?_); (focus (first | omega | decide | assumption | (simp only [decide_eq_true_eq, decide_eq_false_iff_not] at *; omega)))))

theorem to_c {l : List Pr} {p : List UInt8} (hl : l.length ≤ 1000000) : DCalls Tryz.prog 116 [.c (.p (.sl 2 (encP l))), .c (.p (.s p))] [] fun r h => r = .tup [.c (.p (.s ((toF l p).getD []))), .c (.p (.b (toF l p).isSome))] ∧ h = [] := by
  refine ent tabOK hmix Tryz.func116 rfl rfl fun X0 hX => ?_
  simp only [Tryz.ntmps116, Tryz.f116, go_sem]
  repeat' (first | simp (maxSteps := 1000000) only [*, go_sem, Nat.reduceLT, Nat.reduceLeDiff, Nat.reduceEqDiff, ↓reduceIte, Nat.reduceAdd, Nat.reduceSub, Nat.reduceMul, Int.reduceLT, Int.reduceLE, Int.reduceAdd, Int.reduceSub, Int.reduceMul, Int.reduceNeg, Int.reduceToNat, Int.reduceEq, Int.reduceBEq, Int.reduceBNe, Nat.reduceBEq, beq_self_eq_true, bne_self_eq_false] | with_reducible refine vcond_split (fun _ => ?_) (fun _ => ?_) | with_reducible refine vg_split (fun _ => ?_) (fun _ => ?_) | ((with_reducible apply DCalls.frz); (focus exact rfl); (focus exact rfl)) | ((with_reducible refine And.intro ?_ ?_); (focus (first | omega | decide | assumption | (simp only [decide_eq_true_eq, decide_eq_false_iff_not] at *; omega)))))
  refine loop_ren tabOK hmix (α := Nat) (fun k => ⟨21, [(1, .c (.p (.s p))), (8, .c (.p (.sl 2 (encP l)))), (9, .c (.p (.i .i64 l.length))), (10, .c (.p (.i .i64 k)))], []⟩)
    (fun k => k ≤ l.length ∧ toF (l.drop k) p = toF l p) (fun k => l.length - k) 0 ⟨Nat.zero_le _, rfl⟩ (.inl (weak_mk (by rw [hX]; rfl) rfl rfl (by simp [wk_cons, wk_nil, look_cons, closedD, closedC, encT_nil, encS_nil, encC_nil]))) ?_
  rintro k ⟨hk, hs⟩
  by_cases hlt : k < l.length
  · have hx : l[k]? = some l[k] := List.getElem?_eq_getElem hlt
    have hg := encP_at hx
    have hd := drop_at hx
    have h1 : decide ((k : Int) < (l.length : Int)) = true := decide_eq_true (by omega)
    have hli : (k : Int) < (l.length : Int) := by omega
    have hk0 : (0 : Int) ≤ k := by omega
    have w1 : IntKind.i64.wrap ((k : Int) + 1) = k + 1 := wrap_i64 (by omega) (by omega)
    generalize l[k] = x at hx hg hd
    rw [hd, toF] at hs
    cases hb : (x.a == p)
    · rw [hb, if_neg (by decide)] at hs
      have hJ : k + 1 ≤ l.length ∧ toF (l.drop (k + 1)) p = toF l p := ⟨by omega, hs⟩
      clear hs hd hx
      repeat' (first | simp (maxSteps := 1000000) only [*, go_sem, Nat.reduceLT, Nat.reduceLeDiff, Nat.reduceEqDiff, ↓reduceIte, Nat.reduceAdd, Nat.reduceSub, Nat.reduceMul, Int.reduceLT, Int.reduceLE, Int.reduceAdd, Int.reduceSub, Int.reduceMul, Int.reduceNeg, Int.reduceToNat, Int.reduceEq, Int.reduceBEq, Int.reduceBNe, Nat.reduceBEq, beq_self_eq_true, bne_self_eq_false] | with_reducible refine vcond_split (fun _ => ?_) (fun _ => ?_) | with_reducible refine vg_split (fun _ => ?_) (fun _ => ?_) | ((with_reducible apply DCalls.frz); (focus exact rfl); (focus exact rfl)) | ((with_reducible refine And.intro ?_ ?_); (focus (first | omega | decide | assumption | (simp only [decide_eq_true_eq, decide_eq_false_iff_not] at *; omega)))))
      exact qr_n (k + 1) hJ (by omega) (weak_mk rfl rfl rfl (by simp [wk_cons, wk_nil, look_cons, closedD, closedC, renT, renD, renC, encT_nil, encS_nil, encC_nil]))
    · rw [hb, if_pos rfl] at hs
      rw [← hs]
      clear hs hd hx
      repeat' (first | simp (maxSteps := 1000000) only [*, go_sem, Nat.reduceLT, Nat.reduceLeDiff, Nat.reduceEqDiff, ↓reduceIte, Nat.reduceAdd, Nat.reduceSub, Nat.reduceMul, Int.reduceLT, Int.reduceLE, Int.reduceAdd, Int.reduceSub, Int.reduceMul, Int.reduceNeg, Int.reduceToNat, Int.reduceEq, Int.reduceBEq, Int.reduceBNe, Nat.reduceBEq, beq_self_eq_true, bne_self_eq_false, Option.getD_some, Option.isSome_some] | with_reducible refine vcond_split (fun _ => ?_) (fun _ => ?_) | with_reducible refine vg_split (fun _ => ?_) (fun _ => ?_) | ((with_reducible apply DCalls.frz); (focus exact rfl); (focus exact rfl)) | ((with_reducible refine And.intro ?_ ?_); (focus (first | omega | decide | assumption | (simp only [decide_eq_true_eq, decide_eq_false_iff_not] at *; omega)))))
  · have h1 : decide ((k : Int) < (l.length : Int)) = false := decide_eq_false (by omega)
    rw [List.drop_of_length_le (by omega), toF] at hs
    rw [← hs]
    clear hs
    repeat' (first | simp (maxSteps := 1000000) only [*, go_sem, Nat.reduceLT, Nat.reduceLeDiff, Nat.reduceEqDiff, ↓reduceIte, Nat.reduceAdd, Nat.reduceSub, Nat.reduceMul, Int.reduceLT, Int.reduceLE, Int.reduceAdd, Int.reduceSub, Int.reduceMul, Int.reduceNeg, Int.reduceToNat, Int.reduceEq, Int.reduceBEq, Int.reduceBNe, Nat.reduceBEq, beq_self_eq_true, bne_self_eq_false, Option.getD_none, Option.isSome_none] | with_reducible refine vcond_split (fun _ => ?_) (fun _ => ?_) | with_reducible refine vg_split (fun _ => ?_) (fun _ => ?_) | ((with_reducible apply DCalls.frz); (focus exact rfl); (focus exact rfl)) | ((with_reducible refine And.intro ?_ ?_); (focus (first | omega | decide | assumption | (simp only [decide_eq_true_eq, decide_eq_false_iff_not] at *; omega)))))

end Go.Proofs.YtjanmkknbijecaaGreatDoor

end

section
/-
  Contracts: conflicts laid in order.
-/

set_option linter.unusedSimpArgs false
set_option linter.unusedVariables false
namespace Go.Proofs.YtjanmkknbijecaaGreatDoor
open Go Go.Dm Go.Proofs
set_option maxRecDepth 100000
set_option maxHeartbeats 4000000

theorem sortF_c {h : DHeap} {id : Nat} {l : List Cf} (hid : h[id]? = some (.arr 2 (encF l) false)) (hsz : l.length < 4611686018427387904) :
    DCalls Tryz.prog 107 [.c (.own id 0 l.length), .c (.clo 108 [])] h fun d h' => d = .tup [] ∧ h' = h.set id (.arr 2 (encF (sortC l)) false) := by
  have := dcalls_sortf (P := Tryz.prog) (f := 107) (g := 108) 2 (by decide) cfV swo_cfV
    (enters Tryz.func107 rfl rfl) (enters_of Tryz.func108 (by kernel_rfl) rfl)
    (fun enc hk h1 c hO blk off cap d w hcmp hH hblk hsz => Tryz.slices_SortFunc_f107 2 Tryz.isAgg55 Tryz.sizeOf55 enc hk h1 c hO 108 #[] blk off cap d w (enters_of Tryz.func108 (by kernel_rfl) rfl) hcmp hH hblk hsz)
    (fun p cap fv w => Tryz.slices_SortFunc_none_f107 (α := Nat) p cap fv w)
    (h := h) (i0 := id) (es := encF l) (fun x hx y hy => by
      obtain ⟨a, _, rfl⟩ := List.mem_map.1 hx
      obtain ⟨b, _, rfl⟩ := List.mem_map.1 hy
      exact sorted1_c) (cfV_total l) hid (by rw [encF_len]; exact hsz)
  rw [encF_sort, encF_len] at this
  exact this

theorem sorted_k {h : DHeap} {id n : Nat} {l : List Cf} {K : DV → DHeap → Prop} (hid : h[id]? = some (.arr 2 (encF l) false)) (hsz : l.length < 4611686018427387904) (hn : n = l.length)
    (hk : K (.c (.own id 0 l.length)) (h.set id (.arr 2 (encF (sortC l)) false))) : DCalls Tryz.prog 66 [.c (.own id 0 n)] h K := by
  subst hn
  have hs := sortF_c hid hsz
  refine entR tabOK hmix Tryz.func66 rfl rfl fun X0 hX => ?_
  simp only [Tryz.ntmps66, Tryz.f66, go_sem]
  repeat' (first | simp (maxSteps := 1000000) only [*, go_sem, Nat.reduceLT, Nat.reduceLeDiff, Nat.reduceEqDiff, ↓reduceIte, Nat.reduceAdd, Nat.reduceSub, Nat.reduceMul, Int.reduceLT, Int.reduceLE, Int.reduceAdd, Int.reduceSub, Int.reduceMul, Int.reduceNeg, Int.reduceToNat, Int.reduceEq, Int.reduceBEq, Int.reduceBNe, Nat.reduceBEq, beq_self_eq_true, bne_self_eq_false] | with_reducible refine vcond_split (fun _ => ?_) (fun _ => ?_) | with_reducible refine vg_split (fun _ => ?_) (fun _ => ?_) | ((with_reducible apply DCalls.frz); (focus exact rfl); (focus exact rfl)) | ((with_reducible refine And.intro ?_ ?_); (focus (first | omega | decide | assumption | (simp only [decide_eq_true_eq, decide_eq_false_iff_not] at *; omega)))))
  refine DCalls.mono hs ?_
  rintro _ _ ⟨rfl, rfl⟩
  repeat' (first | simp (maxSteps := 1000000) only [*, go_sem, Nat.reduceLT, Nat.reduceLeDiff, Nat.reduceEqDiff, ↓reduceIte, Nat.reduceAdd, Nat.reduceSub, Nat.reduceMul, Int.reduceLT, Int.reduceLE, Int.reduceAdd, Int.reduceSub, Int.reduceMul, Int.reduceNeg, Int.reduceToNat, Int.reduceEq, Int.reduceBEq, Int.reduceBNe, Nat.reduceBEq, beq_self_eq_true, bne_self_eq_false] | with_reducible refine vcond_split (fun _ => ?_) (fun _ => ?_) | with_reducible refine vg_split (fun _ => ?_) (fun _ => ?_) | ((with_reducible apply DCalls.frz); (focus exact rfl); (focus exact rfl)) | ((with_reducible refine And.intro ?_ ?_); (focus (first | omega | decide | assumption | (simp only [decide_eq_true_eq, decide_eq_false_iff_not] at *; omega)))))

theorem sorted0_k {h : DHeap} {K : DV → DHeap → Prop} (hk : K (.c (.p (.sl 2 []))) h) : DCalls Tryz.prog 66 [.c (.p (.sl 2 []))] h K := by
  have hs := dcalls_sortf0 (P := Tryz.prog) (f := 107) (g := 108) 2 (enters Tryz.func107 rfl rfl)
    (fun p cap fv w => Tryz.slices_SortFunc_none_f107 (α := Nat) p cap fv w) (h := h)
  refine entR tabOK hmix Tryz.func66 rfl rfl fun X0 hX => ?_
  simp only [Tryz.ntmps66, Tryz.f66, go_sem]
  repeat' (first | simp (maxSteps := 1000000) only [*, go_sem, Nat.reduceLT, Nat.reduceLeDiff, Nat.reduceEqDiff, ↓reduceIte, Nat.reduceAdd, Nat.reduceSub, Nat.reduceMul, Int.reduceLT, Int.reduceLE, Int.reduceAdd, Int.reduceSub, Int.reduceMul, Int.reduceNeg, Int.reduceToNat, Int.reduceEq, Int.reduceBEq, Int.reduceBNe, Nat.reduceBEq, beq_self_eq_true, bne_self_eq_false] | with_reducible refine vcond_split (fun _ => ?_) (fun _ => ?_) | with_reducible refine vg_split (fun _ => ?_) (fun _ => ?_) | ((with_reducible apply DCalls.frz); (focus exact rfl); (focus exact rfl)) | ((with_reducible refine And.intro ?_ ?_); (focus (first | omega | decide | assumption | (simp only [decide_eq_true_eq, decide_eq_false_iff_not] at *; omega)))))
  refine DCalls.mono hs ?_
  rintro _ _ ⟨rfl, rfl⟩
  repeat' (first | simp (maxSteps := 1000000) only [*, go_sem, Nat.reduceLT, Nat.reduceLeDiff, Nat.reduceEqDiff, ↓reduceIte, Nat.reduceAdd, Nat.reduceSub, Nat.reduceMul, Int.reduceLT, Int.reduceLE, Int.reduceAdd, Int.reduceSub, Int.reduceMul, Int.reduceNeg, Int.reduceToNat, Int.reduceEq, Int.reduceBEq, Int.reduceBNe, Nat.reduceBEq, beq_self_eq_true, bne_self_eq_false] | with_reducible refine vcond_split (fun _ => ?_) (fun _ => ?_) | with_reducible refine vg_split (fun _ => ?_) (fun _ => ?_) | ((with_reducible apply DCalls.frz); (focus exact rfl); (focus exact rfl)) | ((with_reducible refine And.intro ?_ ?_); (focus (first | omega | decide | assumption | (simp only [decide_eq_true_eq, decide_eq_false_iff_not] at *; omega)))))

end Go.Proofs.YtjanmkknbijecaaGreatDoor

end
