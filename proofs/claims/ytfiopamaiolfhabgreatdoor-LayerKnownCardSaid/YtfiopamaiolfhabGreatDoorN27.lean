/-
  Contracts: layers that are the same, copies of layers, chapter 12's example.
-/
import Derived.Test.YtfiopamaiolfhabGreatDoorN25
import Derived.Test.YtfiopamaiolfhabGreatDoorN8
import Derived.Test.YtfiopamaiolfhabGreatDoorLA
import Derived.Test.YtfiopamaiolfhabGreatDoorVB
set_option linter.unusedSimpArgs false
set_option linter.unusedVariables false
namespace Go.Proofs.YtfiopamaiolfhabGreatDoor
open Go Go.Dm Go.Proofs
set_option maxRecDepth 100000
set_option maxHeartbeats 8000000

theorem sameE1_c {p q : List UInt8} {k k' nk nk' nm nm' : Int} {o o' : Bool} {t t' : Nat} {d d' : List UInt8} :
    DCalls Tryz.prog 38 [.agg [.p (.s p), .p (.i .i64 k), .p (.b o), .p (.i .i64 nk), .p (.i .i64 nm), .p (.f t), .p (.sl 1 (encB d))], .agg [.p (.s q), .p (.i .i64 k'), .p (.b o'), .p (.i .i64 nk'), .p (.i .i64 nm'), .p (.f t'), .p (.sl 1 (encB d'))]] []
      fun r h => r = .c (.p (.b (sameEn ⟨p, k, o, ⟨nk, nm, t, d⟩⟩ ⟨q, k', o', ⟨nk', nm', t', d'⟩⟩))) ∧ h = [] := by
  refine ent tabOK hmix Tryz.func38 rfl rfl fun X0 hX => ?_
  simp only [Tryz.ntmps38, Tryz.f38, go_sem]
  repeat' (first | simp (maxSteps := 1000000) only [*, go_sem, Nat.reduceLT, Nat.reduceLeDiff, Nat.reduceEqDiff, ↓reduceIte, Nat.reduceAdd, Nat.reduceSub, Nat.reduceMul, Int.reduceLT, Int.reduceLE, Int.reduceAdd, Int.reduceSub, Int.reduceMul, Int.reduceNeg, Int.reduceToNat, Int.reduceEq, Int.reduceBEq, Int.reduceBNe, Nat.reduceBEq, beq_self_eq_true, bne_self_eq_false] | ((with_reducible refine useF (ndSame_c) ?_ ?_ ?_); (focus exact rfl); (focus exact rfl)) | with_reducible refine vcond_split (fun _ => ?_) (fun _ => ?_) | with_reducible refine vg_split (fun _ => ?_) (fun _ => ?_) | ((with_reducible apply DCalls.frz); (focus exact rfl); (focus exact rfl)) | ((with_reducible refine And.intro ?_ ?_); (focus (first | omega | decide | assumption | (simp only [decide_eq_true_eq, decide_eq_false_iff_not] at *; omega)))))
  all_goals (first | (with_reducible rfl) | (simp_all [sameEn]; done) | (simp_all [sameEn]; omega) | (simp_all [sameEn]; (repeat' split) <;> omega))

theorem eqE_c {a b : List En} (ha : a.length ≤ 1000000) (hb : b.length ≤ 1000000) :
    DCalls Tryz.prog 37 [.c (.p (.sl 7 (encE a))), .c (.p (.sl 7 (encE b))), .c (.clo 38 [])] [] fun r h => r = .c (.p (.b (sameEs a b))) ∧ h = [] := by
  by_cases hl : b.length = a.length
  · have q1 : ((a.length : Int) != a.length) = false := by simp
    refine ent tabOK hmix Tryz.func37 rfl rfl fun X0 hX => ?_
    simp only [Tryz.ntmps37, Tryz.f37, go_sem]
    repeat' (first | simp (maxSteps := 1000000) only [*, go_sem, Nat.reduceLT, Nat.reduceLeDiff, Nat.reduceEqDiff, ↓reduceIte, Nat.reduceAdd, Nat.reduceSub, Nat.reduceMul, Int.reduceLT, Int.reduceLE, Int.reduceAdd, Int.reduceSub, Int.reduceMul, Int.reduceNeg, Int.reduceToNat, Int.reduceEq, Int.reduceBEq, Int.reduceBNe, Nat.reduceBEq, beq_self_eq_true, bne_self_eq_false] | with_reducible refine vcond_split (fun _ => ?_) (fun _ => ?_) | with_reducible refine vg_split (fun _ => ?_) (fun _ => ?_) | ((with_reducible apply DCalls.frz); (focus exact rfl); (focus exact rfl)) | ((with_reducible refine And.intro ?_ ?_); (focus (first | omega | decide | assumption | (simp only [decide_eq_true_eq, decide_eq_false_iff_not] at *; omega)))))
    refine loop_ren tabOK hmix (α := Nat) (fun k => ⟨32, [(1, .c (.p (.sl 7 (encE b)))), (2, .c (.clo 38 [])), (15, .c (.p (.sl 7 (encE a)))), (16, .c (.p (.i .i64 a.length))), (17, .c (.p (.i .i64 k)))], []⟩)
      (fun k => k ≤ a.length ∧ sameEs (a.drop k) (b.drop k) = sameEs a b) (fun k => a.length - k) 0 ⟨Nat.zero_le _, rfl⟩ (.inl (weak_mk (by rw [hX]; rfl) rfl rfl (by simp [wk_cons, wk_nil, look_cons, closedD, closedC, encT_nil, encS_nil, encC_nil]))) ?_
    rintro k ⟨hk, hs⟩
    by_cases hlt : k < a.length
    · have hx : a[k]? = some a[k] := List.getElem?_eq_getElem hlt
      have hy : b[k]? = some (b[k]'(by omega)) := List.getElem?_eq_getElem (by omega)
      have hg := encE_at hx
      have hg2 := encE_at hy
      have h1 : decide ((k : Int) < (a.length : Int)) = true := decide_eq_true (by omega)
      have hd := sameEs_drop hx hy
      generalize a[k] = x at hx hg hd
      generalize (b[k]'(by omega)) = y at hy hg2 hd
      have w1 : IntKind.i64.wrap ((k : Int) + 1) = k + 1 := wrap_i64 (by omega) (by omega)
      rw [hd] at hs
      clear hd
      repeat' (first | simp (maxSteps := 1000000) only [*, go_sem, Nat.reduceLT, Nat.reduceLeDiff, Nat.reduceEqDiff, ↓reduceIte, Nat.reduceAdd, Nat.reduceSub, Nat.reduceMul, Int.reduceLT, Int.reduceLE, Int.reduceAdd, Int.reduceSub, Int.reduceMul, Int.reduceNeg, Int.reduceToNat, Int.reduceEq, Int.reduceBEq, Int.reduceBNe, Nat.reduceBEq, beq_self_eq_true, bne_self_eq_false] | ((with_reducible refine useF (sameE1_c) ?_ ?_ ?_); (focus exact rfl); (focus exact rfl)) | with_reducible refine vcond_split (fun _ => ?_) (fun _ => ?_) | with_reducible refine vg_split (fun _ => ?_) (fun _ => ?_) | ((with_reducible apply DCalls.frz); (focus exact rfl); (focus exact rfl)) | ((with_reducible refine And.intro ?_ ?_); (focus (first | omega | decide | assumption | (simp only [decide_eq_true_eq, decide_eq_false_iff_not] at *; omega)))))
      · rename_i hb
        rw [Bool.not_eq_true'] at hb
        rw [hb, Bool.false_and] at hs
        rw [← hs]
      · rename_i hb
        rw [Bool.not_eq_false'] at hb
        rw [hb, Bool.true_and] at hs
        exact qr_n (k + 1) ⟨by omega, hs⟩ (by omega) (weak_mk rfl rfl rfl (by simp [wk_cons, wk_nil, look_cons, closedD, closedC, renT, renD, renC, encT_nil, encS_nil, encC_nil]))
    · have h1 : decide ((k : Int) < (a.length : Int)) = false := decide_eq_false (by omega)
      rw [List.drop_of_length_le (by omega), List.drop_of_length_le (by omega)] at hs
      have hs2 : sameEs a b = true := hs.symm
      clear hs
      repeat' (first | simp (maxSteps := 1000000) only [*, go_sem, Nat.reduceLT, Nat.reduceLeDiff, Nat.reduceEqDiff, ↓reduceIte, Nat.reduceAdd, Nat.reduceSub, Nat.reduceMul, Int.reduceLT, Int.reduceLE, Int.reduceAdd, Int.reduceSub, Int.reduceMul, Int.reduceNeg, Int.reduceToNat, Int.reduceEq, Int.reduceBEq, Int.reduceBNe, Nat.reduceBEq, beq_self_eq_true, bne_self_eq_false] | with_reducible refine vcond_split (fun _ => ?_) (fun _ => ?_) | with_reducible refine vg_split (fun _ => ?_) (fun _ => ?_) | ((with_reducible apply DCalls.frz); (focus exact rfl); (focus exact rfl)) | ((with_reducible refine And.intro ?_ ?_); (focus (first | omega | decide | assumption | (simp only [decide_eq_true_eq, decide_eq_false_iff_not] at *; omega)))))
  · have q1 : ((a.length : Int) != b.length) = true := by simpa [bne] using fun h => hl (by omega)
    rw [sameEs_len fun h => hl h.symm]
    refine ent tabOK hmix Tryz.func37 rfl rfl fun X0 hX => ?_
    simp only [Tryz.ntmps37, Tryz.f37, go_sem]
    repeat' (first | simp (maxSteps := 1000000) only [*, go_sem, Nat.reduceLT, Nat.reduceLeDiff, Nat.reduceEqDiff, ↓reduceIte, Nat.reduceAdd, Nat.reduceSub, Nat.reduceMul, Int.reduceLT, Int.reduceLE, Int.reduceAdd, Int.reduceSub, Int.reduceMul, Int.reduceNeg, Int.reduceToNat, Int.reduceEq, Int.reduceBEq, Int.reduceBNe, Nat.reduceBEq, beq_self_eq_true, bne_self_eq_false] | with_reducible refine vcond_split (fun _ => ?_) (fun _ => ?_) | with_reducible refine vg_split (fun _ => ?_) (fun _ => ?_) | ((with_reducible apply DCalls.frz); (focus exact rfl); (focus exact rfl)) | ((with_reducible refine And.intro ?_ ?_); (focus (first | omega | decide | assumption | (simp only [decide_eq_true_eq, decide_eq_false_iff_not] at *; omega)))))

theorem layerSame_c {a b : List En} (ha : a.length ≤ 1000000) (hb : b.length ≤ 1000000) : DCalls Tryz.prog 10 [.c (.p (.sl 7 (encE a))), .c (.p (.sl 7 (encE b)))] [] fun r h => r = .c (.p (.b (sameEs a b))) ∧ h = [] := by
  refine ent tabOK hmix Tryz.func10 rfl rfl fun X0 hX => ?_
  simp only [Tryz.ntmps10, Tryz.f10, go_sem]
  repeat' (first | simp (maxSteps := 1000000) only [*, go_sem, Nat.reduceLT, Nat.reduceLeDiff, Nat.reduceEqDiff, ↓reduceIte, Nat.reduceAdd, Nat.reduceSub, Nat.reduceMul, Int.reduceLT, Int.reduceLE, Int.reduceAdd, Int.reduceSub, Int.reduceMul, Int.reduceNeg, Int.reduceToNat, Int.reduceEq, Int.reduceBEq, Int.reduceBNe, Nat.reduceBEq, beq_self_eq_true, bne_self_eq_false] | ((with_reducible refine useF (eqE_c ha hb) ?_ ?_ ?_); (focus exact rfl); (focus exact rfl)) | with_reducible refine vcond_split (fun _ => ?_) (fun _ => ?_) | with_reducible refine vg_split (fun _ => ?_) (fun _ => ?_) | ((with_reducible apply DCalls.frz); (focus exact rfl); (focus exact rfl)) | ((with_reducible refine And.intro ?_ ?_); (focus (first | omega | decide | assumption | (simp only [decide_eq_true_eq, decide_eq_false_iff_not] at *; omega)))))

theorem d12_c {p : List UInt8} : DCalls Tryz.prog 5 [.c (.p (.s p))] [] fun r h => r = .agg [.p (.s p), .p (.i .i64 2), .p (.i .i64 493), .p (.f 0), .p .nil] ∧ h = [] := by
  refine ent tabOK hmix Tryz.func5 rfl rfl fun X0 hX => ?_
  simp only [Tryz.ntmps5, Tryz.f5, go_sem]
  repeat' (first | simp (maxSteps := 1000000) only [*, go_sem, Nat.reduceLT, Nat.reduceLeDiff, Nat.reduceEqDiff, ↓reduceIte, Nat.reduceAdd, Nat.reduceSub, Nat.reduceMul, Int.reduceLT, Int.reduceLE, Int.reduceAdd, Int.reduceSub, Int.reduceMul, Int.reduceNeg, Int.reduceToNat, Int.reduceEq, Int.reduceBEq, Int.reduceBNe, Nat.reduceBEq, beq_self_eq_true, bne_self_eq_false] | with_reducible refine vcond_split (fun _ => ?_) (fun _ => ?_) | with_reducible refine vg_split (fun _ => ?_) (fun _ => ?_) | ((with_reducible apply DCalls.frz); (focus exact rfl); (focus exact rfl)) | ((with_reducible refine And.intro ?_ ?_); (focus (first | omega | decide | assumption | (simp only [decide_eq_true_eq, decide_eq_false_iff_not] at *; omega)))))

def it12 (p : List UInt8) : It := ⟨p, ⟨2, 493, 0, []⟩⟩

def row12 (p : List UInt8) : List PV := [.s p, .i .i64 2, .i .i64 493, .f 0, .nil]

theorem row12_wk (p : List UInt8) : wkPs (row12 p) (it12 p).cs := ⟨.inl rfl, .inl rfl, .inl rfl, .inl rfl, .inr ⟨rfl, 1, rfl⟩, True.intro⟩

def t12 : List It := [it12 [100], it12 [100, 47, 97], it12 [100, 47, 98]]

def w12 : List It := [it12 [100]]

theorem t12_ok : OkT t12 := ⟨⟨by decide +kernel, by
  intro x hx
  simp only [t12, List.mem_cons, List.not_mem_nil, or_false] at hx
  rcases hx with rfl | rfl | rfl <;> exact ⟨by decide, by decide +kernel, by decide +kernel, by decide⟩, by decide⟩, by
  intro x hx
  simp only [t12, List.mem_cons, List.not_mem_nil, or_false] at hx
  rcases hx with rfl | rfl | rfl <;> decide +kernel⟩

theorem w12_ok : OkT w12 := ⟨⟨by decide +kernel, by
  intro x hx
  simp only [w12, List.mem_cons, List.not_mem_nil, or_false] at hx
  rcases hx with rfl <;> exact ⟨by decide, by decide +kernel, by decide +kernel, by decide⟩, by decide⟩, by
  intro x hx
  simp only [w12, List.mem_cons, List.not_mem_nil, or_false] at hx
  rcases hx with rfl <;> decide +kernel⟩

theorem make12 : makeF t12 w12 = [⟨[100], 1, true, ⟨2, 493, 0, []⟩⟩] := by
  unfold makeF opqM opqB
  simp only [namesF_len]
  kernel_rfl

theorem known12_c : DCalls Tryz.prog 9 [] [] fun r h => r = .c (.p (.b true)) ∧ h = [] := by
  have q1 : wkRows [row12 [100], row12 [100, 47, 97], row12 [100, 47, 98]] (encT t12) := ⟨row12_wk _, row12_wk _, row12_wk _, True.intro⟩
  have q2 : wkRows [row12 [100]] (encT w12) := ⟨row12_wk _, True.intro⟩
  have a1 := DCalls.wkR2 q1 q2 (layerMake_c t12_ok w12_ok)
  clear q1 q2
  have a2 := layerRight_c (make_ok t12_ok w12_ok)
  rw [make12] at a1 a2
  unfold row12 at a1
  have hg := encE_at (t := [⟨[100], 1, true, ⟨2, 493, 0, []⟩⟩]) (k := 0) rfl
  have hl : (([⟨[100], 1, true, ⟨2, 493, 0, []⟩⟩] : List En).length : Int) = 1 := rfl
  generalize ([⟨[100], 1, true, ⟨2, 493, 0, []⟩⟩] : List En) = m at a1 a2 hg hl
  refine ent tabOK hmix Tryz.func9 rfl rfl fun X0 hX => ?_
  simp only [Tryz.ntmps9, Tryz.f9, go_sem]
  repeat' (first | simp (maxSteps := 1000000) only [*, go_sem, Nat.reduceLT, Nat.reduceLeDiff, Nat.reduceEqDiff, ↓reduceIte, Nat.reduceAdd, Nat.reduceSub, Nat.reduceMul, Int.reduceLT, Int.reduceLE, Int.reduceAdd, Int.reduceSub, Int.reduceMul, Int.reduceNeg, Int.reduceToNat, Int.reduceEq, Int.reduceBEq, Int.reduceBNe, Nat.reduceBEq, beq_self_eq_true, bne_self_eq_false, Bool.not_true, Bool.not_false] | ((with_reducible refine useF (d12_c) ?_ ?_ ?_); (focus exact rfl); (focus exact rfl)) | ((with_reducible refine useN (a1) ?_ ?_ ?_); (focus exact rfl); (focus exact fun _ => rfl)) | ((with_reducible refine useF (a2) ?_ ?_ ?_); (focus exact rfl); (focus exact rfl)) | with_reducible refine vcond_split (fun _ => ?_) (fun _ => ?_) | with_reducible refine vg_split (fun _ => ?_) (fun _ => ?_) | ((with_reducible apply DCalls.frz); (focus exact rfl); (focus exact rfl)) | ((with_reducible refine And.intro ?_ ?_); (focus (first | omega | decide | assumption | (simp only [decide_eq_true_eq, decide_eq_false_iff_not] at *; omega)))))
end Go.Proofs.YtfiopamaiolfhabGreatDoor
