/-
  Contracts of the program's calls: what each kind makes of a tree.
-/
import Derived.Test.YtnbgaphhhjnjlaaGreatDoorW3
set_option linter.unusedSimpArgs false
set_option linter.unusedVariables false
namespace Go.Proofs.YtnbgaphhhjnjlaaGreatDoor
open Go Go.Dm Go.Proofs
set_option maxRecDepth 100000
set_option maxHeartbeats 8000000

theorem concatBO_c {a b : List UInt8} (ha : a.length ≤ 100000) (hb : b.length ≤ 100000) :
    DCalls Tryz.prog 108 [.c (.p (.sl 1 [[.sl 1 (encB a)], [.sl 1 (encB b)]]))] [] fun r h => r = .c (.own 0 0 (a.length + b.length)) ∧ h = [.arr 1 (encB (a ++ b)) false] := by
  have w1 : IntKind.i64.wrap ((a.length : Int)) = a.length := wrap_i64 (by omega) (by omega)
  have w2 : IntKind.i64.wrap ((a.length : Int) + b.length) = ((a.length + b.length : Nat) : Int) := by rw [wrap_i64 (by omega) (by omega)]; omega
  have h1 : decide ((a.length : Int) < 0) = false := decide_eq_false (by omega)
  have h2 : decide (((a.length + b.length : Nat) : Int) < 0) = false := decide_eq_false (by omega)
  refine entO tabOK hmix Tryz.func108 rfl rfl fun X0 hX => ?_
  simp only [Tryz.f108, go_sem]
  repeat' (first | simp only [*, go_sem, Nat.reduceLT, Nat.reduceLeDiff, Nat.reduceEqDiff, ↓reduceIte, Nat.reduceAdd, Int.reduceLT, Int.reduceLE, Int.reduceAdd, Int.reduceNeg, Int.reduceToNat, Int.zero_add] | refine loop_rounds tabOK hmix 3 ?_ | refine growByte_k (n := a.length + b.length) (by omega) ?_ | ((with_reducible refine And.intro ?_ ?_); (focus (omega))))
  all_goals exact ⟨rfl, Nat.zero_le _, rfl, _, _, rfl, rfl, rfl⟩

section places
variable {t : List It} {p : List UInt8} {is : Bool} {k m : Int} {tt : Nat} {d : List UInt8}

theorem make_c {kind ck : Int} {cp cq : List UInt8} {cm : Int} {ct : Nat} {ca cn : Int} {cd : List UInt8} (h : OkT t) (hp : p.length ≤ 1000000000) (hd : cd.length ≤ 140737488355328) (ht : ct < 18446744073709551616) (hkind : kind = 1 ∨ kind = 2 ∨ kind = 3) :
    DCalls Tryz.prog 68 [.agg (plc t p is k m tt d), .c (.p (.i .i64 kind)), .agg (clc ck cp cq cm ct ca cn cd)] [] fun r h =>
      r = .tup [.c (.p (.sl 5 (encT (makeP t p is kind ⟨ck, cp, cq, cm, ct, ca, cn, cd⟩).1))), .c (.p (.i .i64 (makeP t p is kind ⟨ck, cp, cq, cm, ct, ca, cn, cd⟩).2))] ∧ h = [] := by
  refine dcalls_wk ?_
  have hb := bitsF_lt ht
  have hz : decide (0 ≤ Lib.indexByte cd (Nat.toUInt8 0)) = !(cd.all fun b => !(b == 0)) := by
    have := indexByte_none 0 cd
    rw [← this, ← decide_not]
    exact decide_eq_decide.2 (by rw [Int.not_lt]; exact Iff.rfl)
  unfold makeP newN
  rcases hkind with rfl | rfl | rfl
  · have hput := placePut_c (is := is) (k := k) (m := m) (tt := tt) (d := d) (k' := 1) (m' := cm) (tt' := bitsF ct) (d' := cd) h hp hd hb
    generalize hP : putR t p ⟨1, cm, bitsF ct, cd⟩ = P at hput
    have e : putR t p ⟨1, if ((1 : Int) == 3) = true then 511 else cm, bitsF ct, if ((1 : Int) == 2) = true then [] else cd⟩ = P := hP
    rw [e]
    cases is
    · cases hm : rightM cm
      ·
        refine ent tabOK hmix Tryz.func68 rfl rfl fun X0 hX => ?_
        simp only [Tryz.f68, go_sem]
        repeat' (first | simp only [*, go_sem, Nat.reduceLT, Nat.reduceLeDiff, Nat.reduceEqDiff, ↓reduceIte, Nat.reduceAdd, Int.reduceBEq, Int.reduceBNe, Bool.not_false] | ((refine vc_drawn (id := 1) tabOK hmix [7,8] [7,0,1,2,3,4,5,6,8] (by decide +kernel) ?_); (repeat' (first | (refine ds_nil ?_) | ((refine ds_chg ?_ ?_ rfl rfl rfl ?_ ?_); (rotate_left 2); (focus ((repeat' (simp only [*, go_sem, Nat.reduceLT, Nat.reduceLeDiff, Nat.reduceEqDiff, ↓reduceIte, Nat.reduceAdd, ])); ((refine And.intro ?_ ?_ <;> exact rfl)))); (simp only [putF_some, putF_none])) | ((refine ds_all ?_ rfl rfl rfl ?_ ?_); (rotate_left 1); (focus ((repeat' (first | exact allH_nil | refine allH_cons ?_ ?_)); (all_goals ((repeat' (first | simp only [*, go_sem, Nat.reduceLT, Nat.reduceLeDiff, Nat.reduceEqDiff, ↓reduceIte, Nat.reduceAdd, ] | ((with_reducible refine useF (numPlain_c ct) ?_ ?_ ?_); (focus exact rfl); (focus exact rfl)))); (try (exact rfl)))))); (simp only [putF_some]))))) | ((with_reducible refine useF (rightMode_c) ?_ ?_ ?_); (focus exact rfl); (focus exact rfl)))
        all_goals exact .inr ⟨_, rfl⟩
      · cases hl : decide ((2000 : Int) < (cd.length : Int))
        ·
          refine ent tabOK hmix Tryz.func68 rfl rfl fun X0 hX => ?_
          simp only [Tryz.f68, go_sem]
          repeat' (first | simp only [*, go_sem, Nat.reduceLT, Nat.reduceLeDiff, Nat.reduceEqDiff, ↓reduceIte, Nat.reduceAdd, Int.reduceBEq, Int.reduceBNe, beq_self_eq_true, Bool.not_true] | ((refine vc_drawn (id := 1) tabOK hmix [7,8] [7,0,1,2,3,4,5,6,8] (by decide +kernel) ?_); (repeat' (first | (refine ds_nil ?_) | ((refine ds_chg ?_ ?_ rfl rfl rfl ?_ ?_); (rotate_left 2); (focus ((repeat' (simp only [*, go_sem, Nat.reduceLT, Nat.reduceLeDiff, Nat.reduceEqDiff, ↓reduceIte, Nat.reduceAdd, ])); ((refine And.intro ?_ ?_ <;> exact rfl)))); (simp only [putF_some, putF_none])) | ((refine ds_all ?_ rfl rfl rfl ?_ ?_); (rotate_left 1); (focus ((repeat' (first | exact allH_nil | refine allH_cons ?_ ?_)); (all_goals ((repeat' (first | simp only [*, go_sem, Nat.reduceLT, Nat.reduceLeDiff, Nat.reduceEqDiff, ↓reduceIte, Nat.reduceAdd, ] | ((with_reducible refine useF (numPlain_c ct) ?_ ?_ ?_); (focus exact rfl); (focus exact rfl)))); (try (exact rfl)))))); (simp only [putF_some]))))) | ((with_reducible refine useF (rightMode_c) ?_ ?_ ?_); (focus exact rfl); (focus exact rfl)) | ((with_reducible refine useN (hput) ?_ ?_ ?_); (focus exact rfl); (focus exact fun _ => rfl)))
        ·
          refine ent tabOK hmix Tryz.func68 rfl rfl fun X0 hX => ?_
          simp only [Tryz.f68, go_sem]
          repeat' (first | simp only [*, go_sem, Nat.reduceLT, Nat.reduceLeDiff, Nat.reduceEqDiff, ↓reduceIte, Nat.reduceAdd, Int.reduceBEq, Int.reduceBNe, beq_self_eq_true, Bool.not_true] | ((refine vc_drawn (id := 1) tabOK hmix [7,8] [7,0,1,2,3,4,5,6,8] (by decide +kernel) ?_); (repeat' (first | (refine ds_nil ?_) | ((refine ds_chg ?_ ?_ rfl rfl rfl ?_ ?_); (rotate_left 2); (focus ((repeat' (simp only [*, go_sem, Nat.reduceLT, Nat.reduceLeDiff, Nat.reduceEqDiff, ↓reduceIte, Nat.reduceAdd, ])); ((refine And.intro ?_ ?_ <;> exact rfl)))); (simp only [putF_some, putF_none])) | ((refine ds_all ?_ rfl rfl rfl ?_ ?_); (rotate_left 1); (focus ((repeat' (first | exact allH_nil | refine allH_cons ?_ ?_)); (all_goals ((repeat' (first | simp only [*, go_sem, Nat.reduceLT, Nat.reduceLeDiff, Nat.reduceEqDiff, ↓reduceIte, Nat.reduceAdd, ] | ((with_reducible refine useF (numPlain_c ct) ?_ ?_ ?_); (focus exact rfl); (focus exact rfl)))); (try (exact rfl)))))); (simp only [putF_some]))))) | ((with_reducible refine useF (rightMode_c) ?_ ?_ ?_); (focus exact rfl); (focus exact rfl)))
          all_goals exact .inr ⟨_, rfl⟩
    ·
      refine ent tabOK hmix Tryz.func68 rfl rfl fun X0 hX => ?_
      simp only [Tryz.f68, go_sem]
      repeat' (first | simp only [*, go_sem, Nat.reduceLT, Nat.reduceLeDiff, Nat.reduceEqDiff, ↓reduceIte, Nat.reduceAdd, Int.reduceBEq, Int.reduceBNe, ] | ((refine vc_drawn (id := 1) tabOK hmix [7,8] [7,0,1,2,3,4,5,6,8] (by decide +kernel) ?_); (repeat' (first | (refine ds_nil ?_) | ((refine ds_chg ?_ ?_ rfl rfl rfl ?_ ?_); (rotate_left 2); (focus ((repeat' (simp only [*, go_sem, Nat.reduceLT, Nat.reduceLeDiff, Nat.reduceEqDiff, ↓reduceIte, Nat.reduceAdd, ])); ((refine And.intro ?_ ?_ <;> exact rfl)))); (simp only [putF_some, putF_none])) | ((refine ds_all ?_ rfl rfl rfl ?_ ?_); (rotate_left 1); (focus ((repeat' (first | exact allH_nil | refine allH_cons ?_ ?_)); (all_goals ((repeat' (first | simp only [*, go_sem, Nat.reduceLT, Nat.reduceLeDiff, Nat.reduceEqDiff, ↓reduceIte, Nat.reduceAdd, ] | ((with_reducible refine useF (numPlain_c ct) ?_ ?_ ?_); (focus exact rfl); (focus exact rfl)))); (try (exact rfl)))))); (simp only [putF_some]))))))
      all_goals exact .inr ⟨_, rfl⟩
  · have hput := placePut_c (is := is) (k := k) (m := m) (tt := tt) (d := d) (k' := 2) (m' := cm) (tt' := bitsF ct) (d' := []) h hp (by simp) hb
    generalize hP : putR t p ⟨2, cm, bitsF ct, []⟩ = P at hput
    have e : putR t p ⟨2, if ((2 : Int) == 3) = true then 511 else cm, bitsF ct, if ((2 : Int) == 2) = true then [] else cd⟩ = P := hP
    rw [e]
    have hput : DCalls Tryz.prog 103 [.agg (plc t p is k m tt d), .agg [.p (.i .i64 2), .p (.i .i64 cm), .p (.f (bitsF ct)), .p .nil]] [] fun r h => r = .tup [.c (.p (.sl 5 (encT P.1))), .c (.p (.i .i64 P.2))] ∧ h = [] := by
      refine DCalls.wkargs ?_ hput
      simp [wkDs, wkD, wkCs, wkC, wkP, encB_nil]
    cases is
    · cases hm : rightM cm
      ·
        refine ent tabOK hmix Tryz.func68 rfl rfl fun X0 hX => ?_
        simp only [Tryz.f68, go_sem]
        repeat' (first | simp only [*, go_sem, Nat.reduceLT, Nat.reduceEqDiff, ↓reduceIte, Nat.reduceAdd, Int.reduceBEq, bne_self_eq_false, Bool.not_false] | ((refine vc_drawn (id := 1) tabOK hmix [7,8] [7,0,1,2,3,4,5,6,8] (by decide +kernel) ?_); (repeat' (first | (refine ds_nil ?_) | ((refine ds_chg ?_ ?_ rfl rfl rfl ?_ ?_); (rotate_left 2); (focus ((repeat' (simp only [*, go_sem, Nat.reduceLT, Nat.reduceLeDiff, Nat.reduceEqDiff, ↓reduceIte, Nat.reduceAdd, ])); ((refine And.intro ?_ ?_ <;> exact rfl)))); (simp only [putF_some, putF_none])) | ((refine ds_all ?_ rfl rfl rfl ?_ ?_); (rotate_left 1); (focus ((repeat' (first | exact allH_nil | refine allH_cons ?_ ?_)); (all_goals ((repeat' (first | simp only [*, go_sem, Nat.reduceLT, Nat.reduceLeDiff, Nat.reduceEqDiff, ↓reduceIte, Nat.reduceAdd, ] | ((with_reducible refine useF (numPlain_c ct) ?_ ?_ ?_); (focus exact rfl); (focus exact rfl)))); (try (exact rfl)))))); (simp only [putF_some]))))) | ((with_reducible refine useF (rightMode_c) ?_ ?_ ?_); (focus exact rfl); (focus exact rfl)))
        all_goals exact .inr ⟨_, rfl⟩
      ·
        refine ent tabOK hmix Tryz.func68 rfl rfl fun X0 hX => ?_
        simp only [Tryz.f68, go_sem]
        repeat' (first | simp only [*, go_sem, Nat.reduceLT, Nat.reduceLeDiff, Nat.reduceEqDiff, ↓reduceIte, Nat.reduceAdd, Int.reduceBEq, bne_self_eq_false, Bool.not_true] | ((refine vc_drawn (id := 1) tabOK hmix [7,8] [7,0,1,2,3,4,5,6,8] (by decide +kernel) ?_); (repeat' (first | (refine ds_nil ?_) | ((refine ds_chg ?_ ?_ rfl rfl rfl ?_ ?_); (rotate_left 2); (focus ((repeat' (simp only [*, go_sem, Nat.reduceLT, Nat.reduceLeDiff, Nat.reduceEqDiff, ↓reduceIte, Nat.reduceAdd, ])); ((refine And.intro ?_ ?_ <;> exact rfl)))); (simp only [putF_some, putF_none])) | ((refine ds_all ?_ rfl rfl rfl ?_ ?_); (rotate_left 1); (focus ((repeat' (first | exact allH_nil | refine allH_cons ?_ ?_)); (all_goals ((repeat' (first | simp only [*, go_sem, Nat.reduceLT, Nat.reduceLeDiff, Nat.reduceEqDiff, ↓reduceIte, Nat.reduceAdd, ] | ((with_reducible refine useF (numPlain_c ct) ?_ ?_ ?_); (focus exact rfl); (focus exact rfl)))); (try (exact rfl)))))); (simp only [putF_some]))))) | ((with_reducible refine useF (rightMode_c) ?_ ?_ ?_); (focus exact rfl); (focus exact rfl)) | ((with_reducible refine useN (hput) ?_ ?_ ?_); (focus exact rfl); (focus exact fun _ => rfl)))
    ·
      refine ent tabOK hmix Tryz.func68 rfl rfl fun X0 hX => ?_
      simp only [Tryz.f68, go_sem]
      repeat' (first | simp only [*, go_sem, Nat.reduceLT, Nat.reduceEqDiff, ↓reduceIte, Nat.reduceAdd, Int.reduceBEq, bne_self_eq_false, ] | ((refine vc_drawn (id := 1) tabOK hmix [7,8] [7,0,1,2,3,4,5,6,8] (by decide +kernel) ?_); (repeat' (first | (refine ds_nil ?_) | ((refine ds_chg ?_ ?_ rfl rfl rfl ?_ ?_); (rotate_left 2); (focus ((repeat' (simp only [*, go_sem, Nat.reduceLT, Nat.reduceLeDiff, Nat.reduceEqDiff, ↓reduceIte, Nat.reduceAdd, ])); ((refine And.intro ?_ ?_ <;> exact rfl)))); (simp only [putF_some, putF_none])) | ((refine ds_all ?_ rfl rfl rfl ?_ ?_); (rotate_left 1); (focus ((repeat' (first | exact allH_nil | refine allH_cons ?_ ?_)); (all_goals ((repeat' (first | simp only [*, go_sem, Nat.reduceLT, Nat.reduceLeDiff, Nat.reduceEqDiff, ↓reduceIte, Nat.reduceAdd, ] | ((with_reducible refine useF (numPlain_c ct) ?_ ?_ ?_); (focus exact rfl); (focus exact rfl)))); (try (exact rfl)))))); (simp only [putF_some]))))))
      all_goals exact .inr ⟨_, rfl⟩
  · have hput := placePut_c (is := is) (k := k) (m := m) (tt := tt) (d := d) (k' := 3) (m' := 511) (tt' := bitsF ct) (d' := cd) h hp hd hb
    generalize hP : putR t p ⟨3, 511, bitsF ct, cd⟩ = P at hput
    have e : putR t p ⟨3, if ((3 : Int) == 3) = true then 511 else cm, bitsF ct, if ((3 : Int) == 2) = true then [] else cd⟩ = P := hP
    rw [e]
    have hm : rightM 511 = true := rfl
    have hrm := rightMode_c (m := 511)
    rw [hm] at hrm
    cases is
    · cases cd with
      | nil =>
        refine ent tabOK hmix Tryz.func68 rfl rfl fun X0 hX => ?_
        simp only [Tryz.f68, go_sem]
        repeat' (first | simp only [*, go_sem, Nat.reduceLT, Nat.reduceLeDiff, Nat.reduceEqDiff, ↓reduceIte, Nat.reduceAdd, Int.reduceLT, Int.reduceBNe, beq_self_eq_true, Bool.not_true] | ((refine vc_drawn (id := 1) tabOK hmix [7,8] [7,0,1,2,3,4,5,6,8] (by decide +kernel) ?_); (repeat' (first | (refine ds_nil ?_) | ((refine ds_chg ?_ ?_ rfl rfl rfl ?_ ?_); (rotate_left 2); (focus ((repeat' (simp only [*, go_sem, Nat.reduceLT, Nat.reduceLeDiff, Nat.reduceEqDiff, ↓reduceIte, Nat.reduceAdd, ])); ((refine And.intro ?_ ?_ <;> exact rfl)))); (simp only [putF_some, putF_none])) | ((refine ds_all ?_ rfl rfl rfl ?_ ?_); (rotate_left 1); (focus ((repeat' (first | exact allH_nil | refine allH_cons ?_ ?_)); (all_goals ((repeat' (first | simp only [*, go_sem, Nat.reduceLT, Nat.reduceLeDiff, Nat.reduceEqDiff, ↓reduceIte, Nat.reduceAdd, ] | ((with_reducible refine useF (numPlain_c ct) ?_ ?_ ?_); (focus exact rfl); (focus exact rfl)))); (try (exact rfl)))))); (simp only [putF_some]))))) | ((with_reducible refine useF (hrm) ?_ ?_ ?_); (focus exact rfl); (focus exact rfl)))
        all_goals exact .inr ⟨_, rfl⟩
      | cons x l =>
        have h1 : decide (((l.length + 1 : Nat) : Int) < 1) = false := decide_eq_false (by omega)
        have hib := bytesIndexByte_c (d := x :: l) (c := 0) (by simp)
        rw [show Int.toNat 0 = 0 from rfl] at hib
        cases hl : decide ((120 : Int) < ((l.length + 1 : Nat) : Int))
        · generalize ((x :: l).all fun b => !(b == 0)) = q at hz ⊢
          cases q
          ·
            refine ent tabOK hmix Tryz.func68 rfl rfl fun X0 hX => ?_
            simp only [Tryz.f68, go_sem]
            repeat' (first | simp only [*, go_sem, Nat.reduceLT, Nat.reduceLeDiff, Nat.reduceEqDiff, ↓reduceIte, Nat.reduceAdd, Int.reduceBNe, beq_self_eq_true, Bool.not_true, Bool.not_false] | ((refine vc_drawn (id := 1) tabOK hmix [7,8] [7,0,1,2,3,4,5,6,8] (by decide +kernel) ?_); (repeat' (first | (refine ds_nil ?_) | ((refine ds_chg ?_ ?_ rfl rfl rfl ?_ ?_); (rotate_left 2); (focus ((repeat' (simp only [*, go_sem, Nat.reduceLT, Nat.reduceLeDiff, Nat.reduceEqDiff, ↓reduceIte, Nat.reduceAdd, ])); ((refine And.intro ?_ ?_ <;> exact rfl)))); (simp only [putF_some, putF_none])) | ((refine ds_all ?_ rfl rfl rfl ?_ ?_); (rotate_left 1); (focus ((repeat' (first | exact allH_nil | refine allH_cons ?_ ?_)); (all_goals ((repeat' (first | simp only [*, go_sem, Nat.reduceLT, Nat.reduceLeDiff, Nat.reduceEqDiff, ↓reduceIte, Nat.reduceAdd, ] | ((with_reducible refine useF (numPlain_c ct) ?_ ?_ ?_); (focus exact rfl); (focus exact rfl)))); (try (exact rfl)))))); (simp only [putF_some]))))) | ((with_reducible refine useF (hrm) ?_ ?_ ?_); (focus exact rfl); (focus exact rfl)) | ((with_reducible refine useF (hib) ?_ ?_ ?_); (focus exact rfl); (focus exact rfl)))
            all_goals exact .inr ⟨_, rfl⟩
          ·
            refine ent tabOK hmix Tryz.func68 rfl rfl fun X0 hX => ?_
            simp only [Tryz.f68, go_sem]
            repeat' (first | simp only [*, go_sem, Nat.reduceLT, Nat.reduceLeDiff, Nat.reduceEqDiff, ↓reduceIte, Nat.reduceAdd, Int.reduceBEq, Int.reduceBNe, beq_self_eq_true, Bool.not_true] | ((refine vc_drawn (id := 1) tabOK hmix [7,8] [7,0,1,2,3,4,5,6,8] (by decide +kernel) ?_); (repeat' (first | (refine ds_nil ?_) | ((refine ds_chg ?_ ?_ rfl rfl rfl ?_ ?_); (rotate_left 2); (focus ((repeat' (simp only [*, go_sem, Nat.reduceLT, Nat.reduceLeDiff, Nat.reduceEqDiff, ↓reduceIte, Nat.reduceAdd, ])); ((refine And.intro ?_ ?_ <;> exact rfl)))); (simp only [putF_some, putF_none])) | ((refine ds_all ?_ rfl rfl rfl ?_ ?_); (rotate_left 1); (focus ((repeat' (first | exact allH_nil | refine allH_cons ?_ ?_)); (all_goals ((repeat' (first | simp only [*, go_sem, Nat.reduceLT, Nat.reduceLeDiff, Nat.reduceEqDiff, ↓reduceIte, Nat.reduceAdd, ] | ((with_reducible refine useF (numPlain_c ct) ?_ ?_ ?_); (focus exact rfl); (focus exact rfl)))); (try (exact rfl)))))); (simp only [putF_some]))))) | ((with_reducible refine useF (hrm) ?_ ?_ ?_); (focus exact rfl); (focus exact rfl)) | ((with_reducible refine useF (hib) ?_ ?_ ?_); (focus exact rfl); (focus exact rfl)) | ((with_reducible refine useN (hput) ?_ ?_ ?_); (focus exact rfl); (focus exact fun _ => rfl)))
        ·
          refine ent tabOK hmix Tryz.func68 rfl rfl fun X0 hX => ?_
          simp only [Tryz.f68, go_sem]
          repeat' (first | simp only [*, go_sem, Nat.reduceLT, Nat.reduceLeDiff, Nat.reduceEqDiff, ↓reduceIte, Nat.reduceAdd, Int.reduceBNe, beq_self_eq_true, Bool.not_true] | ((refine vc_drawn (id := 1) tabOK hmix [7,8] [7,0,1,2,3,4,5,6,8] (by decide +kernel) ?_); (repeat' (first | (refine ds_nil ?_) | ((refine ds_chg ?_ ?_ rfl rfl rfl ?_ ?_); (rotate_left 2); (focus ((repeat' (simp only [*, go_sem, Nat.reduceLT, Nat.reduceLeDiff, Nat.reduceEqDiff, ↓reduceIte, Nat.reduceAdd, ])); ((refine And.intro ?_ ?_ <;> exact rfl)))); (simp only [putF_some, putF_none])) | ((refine ds_all ?_ rfl rfl rfl ?_ ?_); (rotate_left 1); (focus ((repeat' (first | exact allH_nil | refine allH_cons ?_ ?_)); (all_goals ((repeat' (first | simp only [*, go_sem, Nat.reduceLT, Nat.reduceLeDiff, Nat.reduceEqDiff, ↓reduceIte, Nat.reduceAdd, ] | ((with_reducible refine useF (numPlain_c ct) ?_ ?_ ?_); (focus exact rfl); (focus exact rfl)))); (try (exact rfl)))))); (simp only [putF_some]))))) | ((with_reducible refine useF (hrm) ?_ ?_ ?_); (focus exact rfl); (focus exact rfl)))
          all_goals exact .inr ⟨_, rfl⟩
    ·
      refine ent tabOK hmix Tryz.func68 rfl rfl fun X0 hX => ?_
      simp only [Tryz.f68, go_sem]
      repeat' (first | simp only [*, go_sem, Nat.reduceLT, Nat.reduceLeDiff, Nat.reduceEqDiff, ↓reduceIte, Nat.reduceAdd, Int.reduceBNe, beq_self_eq_true, ] | ((refine vc_drawn (id := 1) tabOK hmix [7,8] [7,0,1,2,3,4,5,6,8] (by decide +kernel) ?_); (repeat' (first | (refine ds_nil ?_) | ((refine ds_chg ?_ ?_ rfl rfl rfl ?_ ?_); (rotate_left 2); (focus ((repeat' (simp only [*, go_sem, Nat.reduceLT, Nat.reduceLeDiff, Nat.reduceEqDiff, ↓reduceIte, Nat.reduceAdd, ])); ((refine And.intro ?_ ?_ <;> exact rfl)))); (simp only [putF_some, putF_none])) | ((refine ds_all ?_ rfl rfl rfl ?_ ?_); (rotate_left 1); (focus ((repeat' (first | exact allH_nil | refine allH_cons ?_ ?_)); (all_goals ((repeat' (first | simp only [*, go_sem, Nat.reduceLT, Nat.reduceLeDiff, Nat.reduceEqDiff, ↓reduceIte, Nat.reduceAdd, ] | ((with_reducible refine useF (numPlain_c ct) ?_ ?_ ?_); (focus exact rfl); (focus exact rfl)))); (try (exact rfl)))))); (simp only [putF_some]))))))
      all_goals exact .inr ⟨_, rfl⟩
end places
end Go.Proofs.YtnbgaphhhjnjlaaGreatDoor
