/-
  Contracts of the program's calls: bytes written, cut off; a directory that goes; a mode, a time; what goes onto what.
-/
import Derived.Test.YtnbgaphhhjnjlaaGreatDoorW4
import Derived.Test.YtnbgaphhhjnjlaaGreatDoorF1
set_option linter.unusedSimpArgs false
set_option linter.unusedVariables false
namespace Go.Proofs.YtnbgaphhhjnjlaaGreatDoor
open Go Go.Dm Go.Proofs
set_option maxRecDepth 100000
set_option maxHeartbeats 8000000

section places
variable {t : List It} {p : List UInt8} {is : Bool} {k m : Int} {tt : Nat} {d : List UInt8}

theorem trunc_c {n : Int} (h : OkT t) (hp : p.length ≤ 1000000000) (hd : d.length ≤ 2000) (ht : tt < 18446744073709551616) :
    DCalls Tryz.prog 74 [.agg (plc t p is k m tt d), .c (.p (.i .i64 n))] [] fun r h =>
      r = .tup [.c (.p (.sl 5 (encT (truncP t p ⟨k, m, tt, d⟩ n).1))), .c (.p (.i .i64 (truncP t p ⟨k, m, tt, d⟩ n).2))] ∧ h = [] := by
  refine dcalls_wk ?_
  unfold truncP
  simp only
  cases h0 : decide (n < 0)
  · obtain ⟨f, rfl⟩ : ∃ f : Nat, n = f := ⟨n.toNat, by simp at h0; omega⟩
    rw [Int.toNat_natCast]
    cases h1 : decide ((d.length : Int) < (f : Int))
    · have h1' : f ≤ d.length := by simp at h1; omega
      have hf0 : (0 : Int) ≤ (f : Int) := by omega
      have hfl : (f : Int) ≤ (d.length : Int) := by omega
      have htl : (d.take f).length ≤ 140737488355328 := by rw [List.length_take]; omega
      have hput := placePut_c (is := is) (k := k) (m := m) (tt := tt) (d := d.take f) (k' := k) (m' := m) (tt' := tt) (d' := d.take f) h hp htl ht
      refine ent tabOK hmix Tryz.func74 rfl rfl fun X0 hX => ?_
      simp only [Tryz.f74, go_sem]
      repeat' (first | simp only [*, go_sem, Nat.reduceLT, Nat.reduceLeDiff, Nat.reduceEqDiff, ↓reduceIte, Nat.reduceAdd, Int.reduceLE, Int.reduceToNat, ] | ((with_reducible refine useN (hput) ?_ ?_ ?_); (focus exact rfl); (focus exact fun _ => rfl)))
    ·
      refine ent tabOK hmix Tryz.func74 rfl rfl fun X0 hX => ?_
      simp only [Tryz.f74, go_sem]
      repeat' (simp only [*, go_sem, Nat.reduceLT, Nat.reduceEqDiff, ↓reduceIte, Nat.reduceAdd, ])
      all_goals exact .inr ⟨_, rfl⟩
  ·
    refine ent tabOK hmix Tryz.func74 rfl rfl fun X0 hX => ?_
    simp only [Tryz.f74, go_sem]
    repeat' (simp only [*, go_sem, Nat.reduceLT, Nat.reduceEqDiff, ↓reduceIte, ])
    all_goals exact .inr ⟨_, rfl⟩

theorem write_c {a : Int} {b : List UInt8} (h : OkT t) (hp : p.length ≤ 1000000000) (hd : d.length ≤ 2000) (ht : tt < 18446744073709551616) (ha : -9223372036854775808 ≤ a ∧ a ≤ 9223372036854775807) (hb : b.length ≤ 140737488355328) :
    DCalls Tryz.prog 73 [.agg (plc t p is k m tt d), .c (.p (.i .i64 a)), .c (.p (.sl 1 (encB b)))] [] fun r h =>
      r = .tup [.c (.p (.sl 5 (encT (writeP t p ⟨k, m, tt, d⟩ a b).1))), .c (.p (.i .i64 (writeP t p ⟨k, m, tt, d⟩ a b).2))] ∧ h = [] := by
  refine dcalls_wk ?_
  unfold writeP
  simp only
  cases h0 : decide (a < 0)
  · obtain ⟨f, rfl⟩ : ∃ f : Nat, a = f := ⟨a.toNat, by simp at h0; omega⟩
    rw [Int.toNat_natCast]
    cases h1 : decide ((d.length : Int) < (f : Int))
    · have h1' : f ≤ d.length := by simp at h1; omega
      have hf0 : (0 : Int) ≤ (f : Int) := by omega
      have hfl : (f : Int) ≤ (d.length : Int) := by omega
      have w1 : IntKind.i64.wrap (2000 - (f : Int)) = 2000 - (f : Int) := wrap_i64 (by omega) (by omega)
      cases h2 : decide (2000 - (f : Int) < (b.length : Int))
      · have h2' : f + b.length ≤ 2000 := by simp at h2; omega
        have htk : (d.take f).length = f := by rw [List.length_take]; omega
        have hcc := concatBO_c (a := d.take f) (b := b) (by omega) (by omega)
        rw [htk] at hcc
        have hwl : (wrD d f b).length ≤ 140737488355328 := Nat.le_trans (wrD_len hd h1' h2') (by decide)
        have hput := placePut_c (is := is) (k := k) (m := m) (tt := tt) (d := wrD d f b) (k' := k) (m' := m) (tt' := tt) (d' := wrD d f b) h hp hwl ht
        have hal : (d.take f ++ b).length = f + b.length := by rw [List.length_append, htk]
        cases h3 : decide (((f + b.length : Nat) : Int) < (d.length : Int))
        · have e1 : wrD d f b = (d.take f ++ b).take (f + b.length) := by
            have : ¬ f + b.length < d.length := by simp at h3; omega
            unfold wrD
            rw [List.drop_of_length_le (by omega), List.append_nil, List.take_of_length_le (l := d.take f ++ b) (by omega)]
          rw [e1] at hput ⊢
          refine ent tabOK hmix Tryz.func73 rfl rfl fun X0 hX => ?_
          simp only [Tryz.f73, go_sem]
          repeat' (first | simp only [*, go_sem, Nat.reduceLT, Nat.reduceLeDiff, Nat.reduceEqDiff, ↓reduceIte, Nat.reduceAdd, Int.reduceLE, Int.reduceToNat, ] | refine useO hcc rfl ?_ | ((with_reducible refine useN (hput) ?_ ?_ ?_); (focus exact rfl); (focus exact fun _ => rfl)) | ((with_reducible apply DCalls.frz); (focus exact rfl); (focus exact rfl)) | ((with_reducible refine And.intro ?_ ?_); (focus (decide))))
        · have h4 : f + b.length ≤ d.length := by simp at h3; omega
          have h5 : ((f + b.length : Nat) : Int) ≤ (d.length : Int) := by omega
          have h6 : (0 : Int) ≤ ((f + b.length : Nat) : Int) := by omega
          have hdl : (d.drop (f + b.length)).length = d.length - (f + b.length) := List.length_drop
          have e2 : wrD d f b = (d.take f ++ b ++ d.drop (f + b.length)).take (f + b.length + (d.length - (f + b.length))) := by
            unfold wrD
            rw [List.take_of_length_le (l := d.take f ++ b ++ d.drop (f + b.length)) (by rw [List.length_append, hal, hdl]; omega)]
          rw [e2] at hput ⊢
          refine ent tabOK hmix Tryz.func73 rfl rfl fun X0 hX => ?_
          simp only [Tryz.f73, go_sem]
          repeat' (first | simp only [*, go_sem, Nat.reduceLT, Nat.reduceLeDiff, Nat.reduceEqDiff, ↓reduceIte, Nat.reduceAdd, Int.reduceLE, Int.reduceToNat, ] | refine useO hcc rfl ?_ | ((refine vc_drawn (id := 8) tabOK hmix [9,12] [0,1,2,3,4,5,6,7,8,9,10,11,12] (by decide +kernel) ?_); (repeat' (first | (refine ds_nil ?_) | ((refine ds_chg ?_ ?_ rfl rfl rfl ?_ ?_); (rotate_left 2); (focus ((repeat' (first | simp only [*, go_sem, Nat.reduceLT, Nat.reduceLeDiff, Nat.reduceEqDiff, ↓reduceIte, Nat.reduceAdd, ] | ((with_reducible refine And.intro ?_ ?_); (focus (omega))))); ((refine And.intro ?_ ?_ <;> exact rfl)))); (simp only [putF_some, putF_none])) | ((refine ds_all ?_ rfl rfl rfl ?_ ?_); (rotate_left 1); (focus ((repeat' (first | exact allH_nil | refine allH_cons ?_ ?_)); (all_goals ((repeat' (first | simp only [*, go_sem, Nat.reduceLT, Nat.reduceEqDiff, ↓reduceIte, Nat.reduceAdd, ] | ((with_reducible refine And.intro ?_ ?_); (focus (omega))))); (try (exact rfl)))))); (simp only [putF_some]))))) | ((with_reducible refine useN (hput) ?_ ?_ ?_); (focus exact rfl); (focus exact fun _ => rfl)) | ((with_reducible apply DCalls.frz); (focus exact rfl); (focus exact rfl)) | ((with_reducible refine And.intro ?_ ?_); (focus (decide))))
      ·
        refine ent tabOK hmix Tryz.func73 rfl rfl fun X0 hX => ?_
        simp only [Tryz.f73, go_sem]
        repeat' (simp only [*, go_sem, Nat.reduceLT, Nat.reduceEqDiff, ↓reduceIte, Nat.reduceAdd, ])
        all_goals exact .inr ⟨_, rfl⟩
    ·
      refine ent tabOK hmix Tryz.func73 rfl rfl fun X0 hX => ?_
      simp only [Tryz.f73, go_sem]
      repeat' (simp only [*, go_sem, Nat.reduceLT, Nat.reduceEqDiff, ↓reduceIte, Nat.reduceAdd, ])
      all_goals exact .inr ⟨_, rfl⟩
  ·
    refine ent tabOK hmix Tryz.func73 rfl rfl fun X0 hX => ?_
    simp only [Tryz.f73, go_sem]
    repeat' (simp only [*, go_sem, Nat.reduceLT, Nat.reduceEqDiff, ↓reduceIte, Nat.reduceAdd, ])
    all_goals exact .inr ⟨_, rfl⟩

theorem rmdir_c (h : OkT t) (hp : p.length ≤ 1000000000) :
    DCalls Tryz.prog 69 [.agg (plc t p is k m tt d)] [] fun r h =>
      r = .tup [.c (.p (.sl 5 (encT (rmdirP t p is ⟨k, m, tt, d⟩).1))), .c (.p (.i .i64 (rmdirP t p is ⟨k, m, tt, d⟩).2))] ∧ h = [] := by
  have htl := h.len
  have hnm := names_c (p := p) h
  have hrm := treeRemove_c (t := t) (p := p) hp (by omega) fun x hx => Nat.le_trans (h.dlen x hx) (by decide)
  refine dcalls_wk ?_
  unfold rmdirP dirP
  generalize namesF t p = N at hnm ⊢
  cases h0 : (p == [])
  · cases is
    ·
      refine ent tabOK hmix Tryz.func69 rfl rfl fun X0 hX => ?_
      simp only [Tryz.f69, go_sem]
      repeat' (first | simp only [*, go_sem, Nat.reduceLT, Nat.reduceLeDiff, Nat.reduceEqDiff, ↓reduceIte, Nat.reduceAdd, Bool.not_false] | ((with_reducible refine useF (root_c) ?_ ?_ ?_); (focus exact rfl); (focus exact rfl)))
      all_goals exact .inr ⟨_, rfl⟩
    · cases hk : (k == 2)
      ·
        refine ent tabOK hmix Tryz.func69 rfl rfl fun X0 hX => ?_
        simp only [Tryz.f69, go_sem]
        repeat' (first | simp only [*, go_sem, Nat.reduceLT, Nat.reduceLeDiff, Nat.reduceEqDiff, ↓reduceIte, Nat.reduceAdd, Bool.not_true, Bool.not_false] | ((with_reducible refine useF (root_c) ?_ ?_ ?_); (focus exact rfl); (focus exact rfl)) | ((with_reducible refine useF (placeDir_c) ?_ ?_ ?_); (focus exact rfl); (focus exact rfl)))
        all_goals exact .inr ⟨_, rfl⟩
      · cases hn : decide ((0 : Int) < (N.length : Int))
        ·
          refine ent tabOK hmix Tryz.func69 rfl rfl fun X0 hX => ?_
          simp only [Tryz.f69, go_sem]
          repeat' (first | simp only [*, go_sem, Nat.reduceLT, Nat.reduceLeDiff, Nat.reduceEqDiff, ↓reduceIte, Nat.reduceAdd, Bool.not_true] | ((with_reducible refine useF (root_c) ?_ ?_ ?_); (focus exact rfl); (focus exact rfl)) | ((with_reducible refine useF (placeDir_c) ?_ ?_ ?_); (focus exact rfl); (focus exact rfl)) | ((with_reducible refine useN (hnm) ?_ ?_ ?_); (focus exact rfl); (focus exact fun _ => rfl)) | ((with_reducible refine useN (hrm) ?_ ?_ ?_); (focus exact rfl); (focus exact fun _ => rfl)))
        ·
          refine ent tabOK hmix Tryz.func69 rfl rfl fun X0 hX => ?_
          simp only [Tryz.f69, go_sem]
          repeat' (first | simp only [*, go_sem, Nat.reduceLT, Nat.reduceLeDiff, Nat.reduceEqDiff, ↓reduceIte, Nat.reduceAdd, Bool.not_true] | ((with_reducible refine useF (root_c) ?_ ?_ ?_); (focus exact rfl); (focus exact rfl)) | ((with_reducible refine useF (placeDir_c) ?_ ?_ ?_); (focus exact rfl); (focus exact rfl)) | ((with_reducible refine useN (hnm) ?_ ?_ ?_); (focus exact rfl); (focus exact fun _ => rfl)))
          all_goals exact .inr ⟨_, rfl⟩
  ·
    refine ent tabOK hmix Tryz.func69 rfl rfl fun X0 hX => ?_
    simp only [Tryz.f69, go_sem]
    repeat' (first | simp only [*, go_sem, Nat.reduceLT, Nat.reduceLeDiff, Nat.reduceEqDiff, ↓reduceIte, Nat.reduceAdd, ] | ((with_reducible refine useF (root_c) ?_ ?_ ?_); (focus exact rfl); (focus exact rfl)))
    all_goals exact .inr ⟨_, rfl⟩

theorem set_c {ck : Int} {cp cq : List UInt8} {cm : Int} {ct : Nat} {ca cn : Int} {cd : List UInt8} (h : OkT t) (hp : p.length ≤ 1000000000) (hd : d.length ≤ 2000) (ht : tt < 18446744073709551616) (hct : ct < 18446744073709551616) :
    DCalls Tryz.prog 70 [.agg (plc t p is k m tt d), .agg (clc ck cp cq cm ct ca cn cd)] [] fun r h =>
      r = .tup [.c (.p (.sl 5 (encT (setP t p is ⟨k, m, tt, d⟩ ⟨ck, cp, cq, cm, ct, ca, cn, cd⟩).1))), .c (.p (.i .i64 (setP t p is ⟨k, m, tt, d⟩ ⟨ck, cp, cq, cm, ct, ca, cn, cd⟩).2))] ∧ h = [] := by
  have hb := bitsF_lt hct
  have hputm := placePut_c (is := is) (k := k) (m := cm) (tt := tt) (d := d) (k' := k) (m' := cm) (tt' := tt) (d' := d) h hp (by omega) ht
  have hputt := placePut_c (is := is) (k := k) (m := m) (tt := bitsF ct) (d := d) (k' := k) (m' := m) (tt' := bitsF ct) (d' := d) h hp (by omega) hb
  refine dcalls_wk ?_
  unfold setP
  simp only
  cases is
  ·
    refine ent tabOK hmix Tryz.func70 rfl rfl fun X0 hX => ?_
    simp only [Tryz.f70, go_sem]
    repeat' (simp only [*, go_sem, Nat.reduceLT, Nat.reduceEqDiff, ↓reduceIte, Bool.not_false])
    all_goals exact .inr ⟨_, rfl⟩
  · cases h0 : (p == [])
    · cases hk : (ck == 10)
      ·
        refine ent tabOK hmix Tryz.func70 rfl rfl fun X0 hX => ?_
        simp only [Tryz.f70, go_sem]
        repeat' (first | simp only [*, go_sem, Nat.reduceLT, Nat.reduceLeDiff, Nat.reduceEqDiff, ↓reduceIte, Nat.reduceAdd, Bool.not_true] | ((with_reducible refine useF (root_c) ?_ ?_ ?_); (focus exact rfl); (focus exact rfl)) | ((with_reducible refine useF (numPlain_c ct) ?_ ?_ ?_); (focus exact rfl); (focus exact rfl)) | ((with_reducible refine useN (hputt) ?_ ?_ ?_); (focus exact rfl); (focus exact fun _ => rfl)))
      · cases hm : rightM cm
        ·
          refine ent tabOK hmix Tryz.func70 rfl rfl fun X0 hX => ?_
          simp only [Tryz.f70, go_sem]
          repeat' (first | simp only [*, go_sem, Nat.reduceLT, Nat.reduceLeDiff, Nat.reduceEqDiff, ↓reduceIte, Nat.reduceAdd, Bool.not_true, Bool.not_false] | ((with_reducible refine useF (root_c) ?_ ?_ ?_); (focus exact rfl); (focus exact rfl)) | ((with_reducible refine useF (rightMode_c) ?_ ?_ ?_); (focus exact rfl); (focus exact rfl)))
          all_goals exact .inr ⟨_, rfl⟩
        ·
          refine ent tabOK hmix Tryz.func70 rfl rfl fun X0 hX => ?_
          simp only [Tryz.f70, go_sem]
          repeat' (first | simp only [*, go_sem, Nat.reduceLT, Nat.reduceLeDiff, Nat.reduceEqDiff, ↓reduceIte, Nat.reduceAdd, Bool.not_true] | ((with_reducible refine useF (root_c) ?_ ?_ ?_); (focus exact rfl); (focus exact rfl)) | ((with_reducible refine useF (rightMode_c) ?_ ?_ ?_); (focus exact rfl); (focus exact rfl)) | ((with_reducible refine useN (hputm) ?_ ?_ ?_); (focus exact rfl); (focus exact fun _ => rfl)))
    ·
      refine ent tabOK hmix Tryz.func70 rfl rfl fun X0 hX => ?_
      simp only [Tryz.f70, go_sem]
      repeat' (first | simp only [*, go_sem, Nat.reduceLT, Nat.reduceLeDiff, Nat.reduceEqDiff, ↓reduceIte, Nat.reduceAdd, Bool.not_true] | ((with_reducible refine useF (root_c) ?_ ?_ ?_); (focus exact rfl); (focus exact rfl)))
      all_goals exact .inr ⟨_, rfl⟩

theorem onto_c {q : List UInt8} {is' : Bool} {k' m' : Int} {tt' : Nat} {d' : List UInt8} (h : OkT t) :
    DCalls Tryz.prog 106 [.agg (plc t p true k m tt d), .agg (plc t q is' k' m' tt' d')] [] fun r h =>
      r = .c (.p (.i .i64 (ontoP (k == 2) t q is' ⟨k', m', tt', d'⟩))) ∧ h = [] := by
  have hnm := names_c (p := q) h
  unfold ontoP dirP
  generalize namesF t q = N at hnm ⊢
  cases is'
  ·
    refine ent tabOK hmix Tryz.func106 rfl rfl fun X0 hX => ?_
    simp only [Tryz.f106, go_sem]
    repeat' (simp only [*, go_sem, Nat.reduceLT, Nat.reduceEqDiff, ↓reduceIte, Bool.not_false])
  · cases hk : (k == 2)
    · cases hk' : (k' == 2)
      ·
        refine ent tabOK hmix Tryz.func106 rfl rfl fun X0 hX => ?_
        simp only [Tryz.f106, go_sem]
        repeat' (first | simp only [*, go_sem, Nat.reduceLT, Nat.reduceLeDiff, Nat.reduceEqDiff, ↓reduceIte, Nat.reduceAdd, Bool.not_true, Bool.not_false] | ((with_reducible refine useF (placeDir_c) ?_ ?_ ?_); (focus exact rfl); (focus exact rfl)))
      ·
        refine ent tabOK hmix Tryz.func106 rfl rfl fun X0 hX => ?_
        simp only [Tryz.f106, go_sem]
        repeat' (first | simp only [*, go_sem, Nat.reduceLT, Nat.reduceLeDiff, Nat.reduceEqDiff, ↓reduceIte, Nat.reduceAdd, Bool.not_true, Bool.not_false] | ((with_reducible refine useF (placeDir_c) ?_ ?_ ?_); (focus exact rfl); (focus exact rfl)))
    · cases hk' : (k' == 2)
      ·
        refine ent tabOK hmix Tryz.func106 rfl rfl fun X0 hX => ?_
        simp only [Tryz.f106, go_sem]
        repeat' (first | simp only [*, go_sem, Nat.reduceLT, Nat.reduceLeDiff, Nat.reduceEqDiff, ↓reduceIte, Nat.reduceAdd, Bool.not_true, Bool.not_false] | ((with_reducible refine useF (placeDir_c) ?_ ?_ ?_); (focus exact rfl); (focus exact rfl)))
      · cases hn : decide ((0 : Int) < (N.length : Int))
        ·
          refine ent tabOK hmix Tryz.func106 rfl rfl fun X0 hX => ?_
          simp only [Tryz.f106, go_sem]
          repeat' (first | simp only [*, go_sem, Nat.reduceLT, Nat.reduceLeDiff, Nat.reduceEqDiff, ↓reduceIte, Nat.reduceAdd, Bool.not_true] | ((with_reducible refine useF (placeDir_c) ?_ ?_ ?_); (focus exact rfl); (focus exact rfl)) | ((with_reducible refine useN (hnm) ?_ ?_ ?_); (focus exact rfl); (focus exact fun _ => rfl)))
        ·
          refine ent tabOK hmix Tryz.func106 rfl rfl fun X0 hX => ?_
          simp only [Tryz.f106, go_sem]
          repeat' (first | simp only [*, go_sem, Nat.reduceLT, Nat.reduceLeDiff, Nat.reduceEqDiff, ↓reduceIte, Nat.reduceAdd, Bool.not_true] | ((with_reducible refine useF (placeDir_c) ?_ ?_ ?_); (focus exact rfl); (focus exact rfl)) | ((with_reducible refine useN (hnm) ?_ ?_ ?_); (focus exact rfl); (focus exact fun _ => rfl)))
end places
end Go.Proofs.YtnbgaphhhjnjlaaGreatDoor
