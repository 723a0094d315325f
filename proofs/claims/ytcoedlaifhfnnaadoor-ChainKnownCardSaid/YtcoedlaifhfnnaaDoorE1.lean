/-
  Contracts of the program's names and paths, out of the shelf's contracts on strings; which nodes may be.
-/
import Derived.Test.YtcoedlaifhfnnaaDoorD1
import Derived.Test.YtcoedlaifhfnnaaDoorShelf
import Derived.Test.YtcoedlaifhfnnaaDoorSC
set_option linter.unusedSimpArgs false
set_option linter.unusedVariables false
namespace Go.Proofs.YtcoedlaifhfnnaaDoor
open Go Go.Dm
set_option maxRecDepth 100000
set_option maxHeartbeats 4000000

theorem indexByte_c {a : List UInt8} {c : Int} (ha : a.length < 4611686018427387904) : DCalls Tryd.prog 76 [.c (.p (.s a)), .c (.p (.i .u8 c))] [] fun r h => r = .c (.p (.i .i64 (Lib.indexByte a c.toNat.toUInt8))) ∧ h = [] :=
  dcalls_strbyte (N := 4611686018427387904) (g := fun a c => Lib.indexByte a c.toNat.toUInt8) (enters Tryd.func76 rfl rfl) (fun a c w _ => Tryd.strings_IndexByte ⟨a.toArray⟩ c w) ha

theorem split_c {a : List UInt8} (ha : a.length < 4294967281) : DCalls Tryd.prog 66 [.c (.p (.s a)), .c (.p (.s [47]))] [] fun r h => r = .c (.p (.sl 1 (Go.Dm.encS (cutR a)))) ∧ h = [] := by
  rw [← split_cut]
  exact dcalls_split (g1 := Tryd.laysM146_ren.g 1) (enters Tryd.func66 rfl rfl) (fun w h => Tryd.laysM146.s1_3 w h) (fun s sep m w h1 h2 h3 => Tryd.strings_Split s sep m w h1 h2 h3) ha (by decide)

theorem bytesIndexByte_c {d : List UInt8} {c : Int} (hd : d ≠ []) : DCalls Tryd.prog 79 [.c (.p (.sl 1 (encB d))), .c (.p (.i .u8 c))] [] fun r h => r = .c (.p (.i .i64 (Lib.indexByte d c.toNat.toUInt8))) ∧ h = [] :=
  dcalls_bytebyte (g := fun a c => Lib.indexByte a c.toNat.toUInt8) (enters Tryd.func79 rfl rfl) (fun a n c xs cv w h1 h2 => Tryd.bytes_IndexByte_at a n c xs cv w h1 h2) hd

theorem nameRight_c {s : List UInt8} (hs : s.length ≤ 1000000000) : DCalls Tryd.prog 67 [.c (.p (.s s))] [] fun r h => r = .c (.p (.b (rightNameR s))) ∧ h = [] := by
  have e0 : decide (Lib.indexByte s (Int.toNat 0).toUInt8 < 0) = s.all fun b => !(b == 0) := indexByte_none 0 s
  have e1 : decide (Lib.indexByte s (Int.toNat 47).toUInt8 < 0) = s.all fun b => !(b == 47) := indexByte_none 47 s
  have e2 : decide ((1 : Int) ≤ s.length) = !(s == []) := by cases s <;> simp <;> omega
  have key : rightNameR s = (!(s == []) && decide ((s.length : Int) ≤ 24) && (s.all fun b => !(b == 0)) && (s.all fun b => !(b == 47)) && !(s == [46]) && !(s == [46, 46])) := by
    unfold rightNameR
    rw [okByte_all, e2]
    cases (s == []) <;> cases decide ((s.length : Int) ≤ 24) <;> cases (s.all fun b => !(b == 0)) <;> cases (s.all fun b => !(b == 47)) <;> cases (s == [46]) <;> rfl
  rw [key]
  clear key e2
  generalize (s.all fun b => !(b == 0)) = q0 at e0 ⊢
  generalize (s.all fun b => !(b == 47)) = q1 at e1 ⊢
  refine ent tabOK hmix Tryd.func67 rfl rfl fun X0 hX => ?_
  simp only [Tryd.ntmps67, Tryd.f67, go_sem]
  repeat' (first | simp (maxSteps := 1000000) only [*, go_sem, Nat.reduceLT, Nat.reduceLeDiff, Nat.reduceEqDiff, ↓reduceIte, Nat.reduceAdd, Nat.reduceSub, Nat.reduceMul, Int.reduceLT, Int.reduceLE, Int.reduceAdd, Int.reduceSub, Int.reduceMul, Int.reduceNeg, Int.reduceToNat, Int.reduceEq, Int.reduceBEq, Int.reduceBNe, Nat.reduceBEq, beq_self_eq_true, bne_self_eq_false] | ((with_reducible refine useF (indexByte_c (by omega)) ?_ ?_ ?_); (focus exact rfl); (focus exact rfl)) | with_reducible refine vcond_split (fun _ => ?_) (fun _ => ?_) | with_reducible refine vg_split (fun _ => ?_) (fun _ => ?_) | ((with_reducible apply DCalls.frz); (focus exact rfl); (focus exact rfl)) | ((with_reducible refine And.intro ?_ ?_); (focus (first | omega | decide | assumption | (simp only [decide_eq_true_eq, decide_eq_false_iff_not] at *; omega)))))
  all_goals first | (simp_all; done) | (simp_all; intros; omega)

theorem isPath_c {p : List UInt8} (hp : p.length ≤ 1000000000) : DCalls Tryd.prog 51 [.c (.p (.s p))] [] fun r h => r = .c (.p (.b (isPathR p))) ∧ h = [] := by
  by_cases h0 : p = []
  · subst h0
    refine ent tabOK hmix Tryd.func51 rfl rfl fun X0 hX => ?_
    simp only [Tryd.ntmps51, Tryd.f51, go_sem]
    repeat' (first | simp (maxSteps := 1000000) only [*, go_sem, Nat.reduceLT, Nat.reduceLeDiff, Nat.reduceEqDiff, ↓reduceIte, Nat.reduceAdd, Nat.reduceSub, Nat.reduceMul, Int.reduceLT, Int.reduceLE, Int.reduceAdd, Int.reduceSub, Int.reduceMul, Int.reduceNeg, Int.reduceToNat, Int.reduceEq, Int.reduceBEq, Int.reduceBNe, Nat.reduceBEq, beq_self_eq_true, bne_self_eq_false] | with_reducible refine vcond_split (fun _ => ?_) (fun _ => ?_) | with_reducible refine vg_split (fun _ => ?_) (fun _ => ?_) | ((with_reducible apply DCalls.frz); (focus exact rfl); (focus exact rfl)) | ((with_reducible refine And.intro ?_ ?_); (focus (first | omega | decide | assumption | (simp only [decide_eq_true_eq, decide_eq_false_iff_not] at *; omega)))))
    rfl
  · have q0 : (p == []) = false := by simpa using h0
    have hle : ∀ x ∈ cutR p, x.length ≤ p.length := fun x hx => by have := cutL_mem p [] x hx; simpa using this
    have hln : (cutR p).length ≤ p.length + 1 := cutL_len p []
    refine ent tabOK hmix Tryd.func51 rfl rfl fun X0 hX => ?_
    simp only [Tryd.ntmps51, Tryd.f51, go_sem]
    repeat' (first | simp (maxSteps := 1000000) only [*, go_sem, Nat.reduceLT, Nat.reduceLeDiff, Nat.reduceEqDiff, ↓reduceIte, Nat.reduceAdd, Nat.reduceSub, Nat.reduceMul, Int.reduceLT, Int.reduceLE, Int.reduceAdd, Int.reduceSub, Int.reduceMul, Int.reduceNeg, Int.reduceToNat, Int.reduceEq, Int.reduceBEq, Int.reduceBNe, Nat.reduceBEq, beq_self_eq_true, bne_self_eq_false] | ((with_reducible refine useN (split_c (by omega)) ?_ ?_ ?_); (focus exact rfl); (focus exact fun _ => rfl)) | with_reducible refine vcond_split (fun _ => ?_) (fun _ => ?_) | with_reducible refine vg_split (fun _ => ?_) (fun _ => ?_) | ((with_reducible apply DCalls.frz); (focus exact rfl); (focus exact rfl)) | ((with_reducible refine And.intro ?_ ?_); (focus (first | omega | decide | assumption | (simp only [decide_eq_true_eq, decide_eq_false_iff_not] at *; omega)))))
    have key : isPathR p = ((cutR p).all rightNameR && decide ((p.length : Int) ≤ 120)) := by rw [isPathR, q0, Bool.false_or]
    generalize cutR p = cs at *
    refine loop_ren tabOK hmix (α := Nat) (fun k => ⟨21, [(0, .c (.p (.s p))), (8, .c (.p (.sl 1 (Go.Dm.encS cs)))), (9, .c (.p (.i .i64 cs.length))), (10, .c (.p (.i .i64 k)))], []⟩)
      (fun k => k ≤ cs.length ∧ (cs.drop k).all rightNameR = cs.all rightNameR) (fun k => cs.length - k) 0 ⟨Nat.zero_le _, rfl⟩ (.inl (weak_mk (by rw [hX]; rfl) rfl rfl (by simp [wk_cons, wk_nil, look_cons, closedD, closedC, encT_nil, encS_nil, encC_nil]))) ?_
    rintro k ⟨hk, hs⟩
    by_cases hlt : k < cs.length
    · have hx : cs[k]? = some cs[k] := List.getElem?_eq_getElem hlt
      have hg := Go.Dm.encS_at hx
      have hdr := drop_at hx
      have h1 : decide ((k : Int) < (cs.length : Int)) = true := decide_eq_true (by omega)
      have w1 : IntKind.i64.wrap ((k : Int) + 1) = k + 1 := wrap_i64 (by omega) (by omega)
      have hxl := hle _ (List.getElem_mem hlt)
      generalize cs[k] = x at hx hg hdr hxl
      rw [hdr, List.all_cons] at hs
      clear hdr hle
      cases hb : rightNameR x
      · rw [hb, Bool.false_and] at hs
        rw [key, ← hs]
        clear key hs
        repeat' (first | simp (maxSteps := 1000000) only [*, go_sem, Nat.reduceLT, Nat.reduceLeDiff, Nat.reduceEqDiff, ↓reduceIte, Nat.reduceAdd, Nat.reduceSub, Nat.reduceMul, Int.reduceLT, Int.reduceLE, Int.reduceAdd, Int.reduceSub, Int.reduceMul, Int.reduceNeg, Int.reduceToNat, Int.reduceEq, Int.reduceBEq, Int.reduceBNe, Nat.reduceBEq, beq_self_eq_true, bne_self_eq_false] | ((with_reducible refine useF (nameRight_c (by omega)) ?_ ?_ ?_); (focus exact rfl); (focus exact rfl)) | with_reducible refine vcond_split (fun _ => ?_) (fun _ => ?_) | with_reducible refine vg_split (fun _ => ?_) (fun _ => ?_) | ((with_reducible apply DCalls.frz); (focus exact rfl); (focus exact rfl)) | ((with_reducible refine And.intro ?_ ?_); (focus (first | omega | decide | assumption | (simp only [decide_eq_true_eq, decide_eq_false_iff_not] at *; omega)))))
      · rw [hb, Bool.true_and] at hs
        have hs' : k + 1 ≤ cs.length ∧ (cs.drop (k + 1)).all rightNameR = cs.all rightNameR := ⟨by omega, hs⟩
        clear hs key
        repeat' (first | simp (maxSteps := 1000000) only [*, go_sem, Nat.reduceLT, Nat.reduceLeDiff, Nat.reduceEqDiff, ↓reduceIte, Nat.reduceAdd, Nat.reduceSub, Nat.reduceMul, Int.reduceLT, Int.reduceLE, Int.reduceAdd, Int.reduceSub, Int.reduceMul, Int.reduceNeg, Int.reduceToNat, Int.reduceEq, Int.reduceBEq, Int.reduceBNe, Nat.reduceBEq, beq_self_eq_true, bne_self_eq_false] | ((with_reducible refine useF (nameRight_c (by omega)) ?_ ?_ ?_); (focus exact rfl); (focus exact rfl)) | with_reducible refine vcond_split (fun _ => ?_) (fun _ => ?_) | with_reducible refine vg_split (fun _ => ?_) (fun _ => ?_) | ((with_reducible apply DCalls.frz); (focus exact rfl); (focus exact rfl)) | ((with_reducible refine And.intro ?_ ?_); (focus (first | omega | decide | assumption | (simp only [decide_eq_true_eq, decide_eq_false_iff_not] at *; omega)))))
        exact qr_n (k + 1) hs' (by omega) (weak_mk rfl rfl rfl (by simp [wk_cons, wk_nil, look_cons, closedD, closedC, renT, renD, renC, encT_nil, encS_nil, encC_nil]))
    · have h1 : decide ((k : Int) < (cs.length : Int)) = false := decide_eq_false (by omega)
      rw [List.drop_of_length_le (by omega), List.all_nil] at hs
      rw [key, ← hs, Bool.true_and]
      clear key hs hle
      repeat' (first | simp (maxSteps := 1000000) only [*, go_sem, Nat.reduceLT, Nat.reduceLeDiff, Nat.reduceEqDiff, ↓reduceIte, Nat.reduceAdd, Nat.reduceSub, Nat.reduceMul, Int.reduceLT, Int.reduceLE, Int.reduceAdd, Int.reduceSub, Int.reduceMul, Int.reduceNeg, Int.reduceToNat, Int.reduceEq, Int.reduceBEq, Int.reduceBNe, Nat.reduceBEq, beq_self_eq_true, bne_self_eq_false] | with_reducible refine vcond_split (fun _ => ?_) (fun _ => ?_) | with_reducible refine vg_split (fun _ => ?_) (fun _ => ?_) | ((with_reducible apply DCalls.frz); (focus exact rfl); (focus exact rfl)) | ((with_reducible refine And.intro ?_ ?_); (focus (first | omega | decide | assumption | (simp only [decide_eq_true_eq, decide_eq_false_iff_not] at *; omega)))))

theorem data_c {k m : Int} {t : Nat} {d : List UInt8} : DCalls Tryd.prog 70 [.agg (ndc k m t d)] [] fun r h => r = .c (.p (.b (dataP ⟨k, m, t, d⟩))) ∧ h = [] := by
  have e0 : decide (Lib.indexByte d (Int.toNat 0).toUInt8 < 0) = d.all fun b => !(b == 0) := indexByte_none 0 d
  by_cases hd : d = []
  · subst hd
    refine ent tabOK hmix Tryd.func70 rfl rfl fun X0 hX => ?_
    simp only [Tryd.ntmps70, Tryd.f70, go_sem]
    repeat' (first | simp (maxSteps := 1000000) only [*, go_sem, Nat.reduceLT, Nat.reduceLeDiff, Nat.reduceEqDiff, ↓reduceIte, Nat.reduceAdd, Nat.reduceSub, Nat.reduceMul, Int.reduceLT, Int.reduceLE, Int.reduceAdd, Int.reduceSub, Int.reduceMul, Int.reduceNeg, Int.reduceToNat, Int.reduceEq, Int.reduceBEq, Int.reduceBNe, Nat.reduceBEq, beq_self_eq_true, bne_self_eq_false] | with_reducible refine vcond_split (fun _ => ?_) (fun _ => ?_) | with_reducible refine vg_split (fun _ => ?_) (fun _ => ?_) | ((with_reducible apply DCalls.frz); (focus exact rfl); (focus exact rfl)) | ((with_reducible refine And.intro ?_ ?_); (focus (first | omega | decide | assumption | (simp only [decide_eq_true_eq, decide_eq_false_iff_not] at *; omega)))))
    all_goals simp_all [dataP]
  · have h1 : decide ((1 : Int) ≤ (d.length : Int)) = true := by
      have := List.length_pos_iff.2 hd
      exact decide_eq_true (by omega)
    refine ent tabOK hmix Tryd.func70 rfl rfl fun X0 hX => ?_
    simp only [Tryd.ntmps70, Tryd.f70, go_sem]
    unfold dataP
    generalize (d.all fun b => !(b == 0)) = q0 at e0 ⊢
    repeat' (first | simp (maxSteps := 1000000) only [*, go_sem, Nat.reduceLT, Nat.reduceLeDiff, Nat.reduceEqDiff, ↓reduceIte, Nat.reduceAdd, Nat.reduceSub, Nat.reduceMul, Int.reduceLT, Int.reduceLE, Int.reduceAdd, Int.reduceSub, Int.reduceMul, Int.reduceNeg, Int.reduceToNat, Int.reduceEq, Int.reduceBEq, Int.reduceBNe, Nat.reduceBEq, beq_self_eq_true, bne_self_eq_false] | ((with_reducible refine useF (bytesIndexByte_c hd) ?_ ?_ ?_); (focus exact rfl); (focus exact rfl)) | with_reducible refine vcond_split (fun _ => ?_) (fun _ => ?_) | with_reducible refine vg_split (fun _ => ?_) (fun _ => ?_) | ((with_reducible apply DCalls.frz); (focus exact rfl); (focus exact rfl)) | ((with_reducible refine And.intro ?_ ?_); (focus (first | omega | decide | assumption | (simp only [decide_eq_true_eq, decide_eq_false_iff_not] at *; omega)))))
    all_goals first | (simp_all; done) | (simp_all; intros; omega)

theorem nodeRight_c {k m : Int} {t : Nat} {d : List UInt8} (ht : t < 18446744073709551616) : DCalls Tryd.prog 52 [.agg (ndc k m t d)] [] fun r h => r = .c (.p (.b (rightNodeR ⟨k, m, t, d⟩))) ∧ h = [] := by
  rw [← nodeRightP_eq (n := ⟨k, m, t, d⟩) ht]
  refine ent tabOK hmix Tryd.func52 rfl rfl fun X0 hX => ?_
  simp only [Tryd.ntmps52, Tryd.f52, go_sem]
  repeat' (first | simp (maxSteps := 1000000) only [*, go_sem, Nat.reduceLT, Nat.reduceLeDiff, Nat.reduceEqDiff, ↓reduceIte, Nat.reduceAdd, Nat.reduceSub, Nat.reduceMul, Int.reduceLT, Int.reduceLE, Int.reduceAdd, Int.reduceSub, Int.reduceMul, Int.reduceNeg, Int.reduceToNat, Int.reduceEq, Int.reduceBEq, Int.reduceBNe, Nat.reduceBEq, beq_self_eq_true, bne_self_eq_false] | ((with_reducible refine useF (data_c) ?_ ?_ ?_); (focus exact rfl); (focus exact rfl)) | ((with_reducible refine useF (numPlain_c _) ?_ ?_ ?_); (focus exact rfl); (focus exact rfl)) | ((with_reducible refine useF (bits_c _) ?_ ?_ ?_); (focus exact rfl); (focus exact rfl)) | ((refine vc_drawn (id := 1) tabOK hmix [] [0,1,2,3,4,5,6,7,8] (by decide +kernel) ?_); (repeat' (first | (refine ds_nil ?_) | ((refine ds_one ?_ rfl rfl ?_ ?_); (rotate_left 1); (focus ((repeat' (first | simp (maxSteps := 1000000) only [*, go_sem, Nat.reduceLT, Nat.reduceLeDiff, Nat.reduceEqDiff, ↓reduceIte, Nat.reduceAdd, Nat.reduceSub, Nat.reduceMul, Int.reduceLT, Int.reduceLE, Int.reduceAdd, Int.reduceSub, Int.reduceMul, Int.reduceNeg, Int.reduceToNat, Int.reduceEq, Int.reduceBEq, Int.reduceBNe, Nat.reduceBEq, beq_self_eq_true, bne_self_eq_false] | ((with_reducible refine useF (data_c) ?_ ?_ ?_); (focus exact rfl); (focus exact rfl)) | ((with_reducible refine useF (numPlain_c _) ?_ ?_ ?_); (focus exact rfl); (focus exact rfl)) | ((with_reducible refine useF (bits_c _) ?_ ?_ ?_); (focus exact rfl); (focus exact rfl)) | with_reducible refine vcond_split (fun _ => ?_) (fun _ => ?_) | with_reducible refine vg_split (fun _ => ?_) (fun _ => ?_) | ((with_reducible apply DCalls.frz); (focus exact rfl); (focus exact rfl)) | ((with_reducible refine And.intro ?_ ?_); (focus (first | omega | decide | assumption | (simp only [decide_eq_true_eq, decide_eq_false_iff_not] at *; omega)))))); exact rfl)); (simp only [putF_some, putF_none]))))) | with_reducible refine vcond_split (fun _ => ?_) (fun _ => ?_) | with_reducible refine vg_split (fun _ => ?_) (fun _ => ?_) | ((with_reducible apply DCalls.frz); (focus exact rfl); (focus exact rfl)) | ((with_reducible refine And.intro ?_ ?_); (focus (first | omega | decide | assumption | (simp only [decide_eq_true_eq, decide_eq_false_iff_not] at *; omega)))))
  all_goals first | (simp_all [nodeRightP, natCast_beq]; done) | (simp_all [nodeRightP, natCast_beq]; intros; omega)

end Go.Proofs.YtcoedlaifhfnnaaDoor
