/-
  Contracts of the program's calls, the small ones: kinds, places, what may be put.
-/
import Derived.Test.YtnbgaphhhjnjlaaGreatDoorW1
import Derived.Test.YtnbgaphhhjnjlaaGreatDoorN4
import Derived.Test.YtnbgaphhhjnjlaaGreatDoorC1
import Derived.Test.YtnbgaphhhjnjlaaGreatDoorCA
set_option linter.unusedSimpArgs false
set_option linter.unusedVariables false
namespace Go.Proofs.YtnbgaphhhjnjlaaGreatDoor
open Go Go.Dm Go.Proofs
set_option maxRecDepth 100000
set_option maxHeartbeats 8000000

abbrev plc (t : List It) (p : List UInt8) (is : Bool) (k m : Int) (tt : Nat) (d : List UInt8) : List CV := [.p (.sl 5 (encT t)), .p (.s p), .p (.b is), .p (.i .i64 k), .p (.i .i64 m), .p (.f tt), .p (.sl 1 (encB d))]
abbrev clc (k : Int) (p q : List UInt8) (m : Int) (tt : Nat) (a n : Int) (d : List UInt8) : List CV := [.p (.i .i64 k), .p (.s p), .p (.s q), .p (.i .i64 m), .p (.f tt), .p (.i .i64 a), .p (.i .i64 n), .p (.sl 1 (encB d))]
abbrev anc (e : Int) (k m : Int) (tt : Nat) (d b : List UInt8) (l : List (List UInt8)) : List CV := [.p (.i .i64 e), .p (.i .i64 k), .p (.i .i64 m), .p (.f tt), .p (.sl 1 (encB d)), .p (.sl 1 (encB b)), .p (.sl 1 (Go.Dm.encS l))]

theorem Turns_c {k : Int} : DCalls Tryz.prog 13 [.c (.p (.i .i64 k))] [] fun r h => r = .c (.p (.b (turnsF k))) ∧ h = [] := by
  unfold turnsF
  refine ent tabOK hmix Tryz.func13 rfl rfl fun X0 hX => ?_
  simp only [Tryz.f13, go_sem]
  repeat' (first | simp only [*, go_sem, Nat.reduceLT, Nat.reduceEqDiff, ↓reduceIte, ] | with_reducible refine vg_split (fun _ => ?_) (fun _ => ?_))
  all_goals first | (simp_all; done) | (simp_all; rfl)

theorem follows_c {k : Int} : DCalls Tryz.prog 33 [.c (.p (.i .i64 k))] [] fun r h => r = .c (.p (.b (follF k))) ∧ h = [] := by
  unfold follF
  refine ent tabOK hmix Tryz.func33 rfl rfl fun X0 hX => ?_
  simp only [Tryz.f33, go_sem]
  repeat' (first | simp only [*, go_sem, Nat.reduceLT, Nat.reduceEqDiff, ↓reduceIte, ] | with_reducible refine vcond_split (fun _ => ?_) (fun _ => ?_))
  all_goals simp_all

theorem rightMode_c {m : Int} : DCalls Tryz.prog 101 [.c (.p (.i .i64 m))] [] fun r h => r = .c (.p (.b (rightM m))) ∧ h = [] := by
  unfold rightM
  refine ent tabOK hmix Tryz.func101 rfl rfl fun X0 hX => ?_
  simp only [Tryz.f101, go_sem]
  repeat' (first | simp only [*, go_sem, Nat.reduceLT, Nat.reduceEqDiff, ↓reduceIte, ] | with_reducible refine vg_split (fun _ => ?_) (fun _ => ?_))
  all_goals simp_all

section places
variable {t : List It} {p : List UInt8} {is : Bool} {k m : Int} {tt : Nat} {d : List UInt8}
theorem root_c : DCalls Tryz.prog 104 [.agg (plc t p is k m tt d)] [] fun r h => r = .c (.p (.b (p == []))) ∧ h = [] := by
  refine ent tabOK hmix Tryz.func104 rfl rfl fun X0 hX => ?_
  simp only [Tryz.f104, go_sem]
  repeat' (simp only [*, go_sem, Nat.reduceLT, Nat.reduceEqDiff, ↓reduceIte, ])

theorem placeDir_c : DCalls Tryz.prog 66 [.agg (plc t p is k m tt d)] [] fun r h => r = .c (.p (.b (is && k == 2))) ∧ h = [] := by
  refine ent tabOK hmix Tryz.func66 rfl rfl fun X0 hX => ?_
  simp only [Tryz.f66, go_sem]
  repeat' (first | simp only [*, go_sem, Nat.reduceLT, Nat.reduceEqDiff, ↓reduceIte, ] | with_reducible refine vg_split (fun _ => ?_) (fun _ => ?_))
  all_goals simp_all

theorem placePut_c {k' m' : Int} {tt' : Nat} {d' : List UInt8} (h : OkT t) (hp : p.length ≤ 1000000000) (hd : d'.length ≤ 140737488355328) (ht : tt' < 18446744073709551616) :
    DCalls Tryz.prog 103 [.agg (plc t p is k m tt d), .agg (ndc k' m' tt' d')] [] fun r h => r = .tup [.c (.p (.sl 5 (encT (putR t p ⟨k', m', tt', d'⟩).1))), .c (.p (.i .i64 (putR t p ⟨k', m', tt', d'⟩).2))] ∧ h = [] := by
  have hput := put_c (p := p) (k := k') (m := m') (d := d') h hp hd ht
  refine ent tabOK hmix Tryz.func103 rfl rfl fun X0 hX => ?_
  simp only [Tryz.f103, go_sem]
  repeat' (first | simp only [*, go_sem, Nat.reduceLT, Nat.reduceLeDiff, Nat.reduceEqDiff, ↓reduceIte, Nat.reduceAdd, ] | ((with_reducible refine useN (hput) ?_ ?_ ?_); (focus exact rfl); (focus exact fun _ => rfl)))

theorem file_c : DCalls Tryz.prog 72 [.agg (plc t p is k m tt d)] [] fun r h => r = .c (.p (.i .i64 (fileP is ⟨k, m, tt, d⟩))) ∧ h = [] := by
  unfold fileP dirP
  cases is
  ·
    refine ent tabOK hmix Tryz.func72 rfl rfl fun X0 hX => ?_
    simp only [Tryz.f72, go_sem]
    repeat' (simp only [*, go_sem, Nat.reduceLT, Nat.reduceEqDiff, ↓reduceIte, Bool.not_false])
    all_goals rfl
  · cases hk : (k == 2)
    ·
      refine ent tabOK hmix Tryz.func72 rfl rfl fun X0 hX => ?_
      simp only [Tryz.f72, go_sem]
      repeat' (first | simp only [*, go_sem, Nat.reduceLT, Nat.reduceLeDiff, Nat.reduceEqDiff, ↓reduceIte, Nat.reduceAdd, Bool.not_true] | ((with_reducible refine useF (placeDir_c) ?_ ?_ ?_); (focus exact rfl); (focus exact rfl)))
    ·
      refine ent tabOK hmix Tryz.func72 rfl rfl fun X0 hX => ?_
      simp only [Tryz.f72, go_sem]
      repeat' (first | simp only [*, go_sem, Nat.reduceLT, Nat.reduceLeDiff, Nat.reduceEqDiff, ↓reduceIte, Nat.reduceAdd, Bool.not_true] | ((with_reducible refine useF (placeDir_c) ?_ ?_ ?_); (focus exact rfl); (focus exact rfl)))

theorem at_c (h : OkT t) (hp : p.length ≤ 1000000000) : DCalls Tryz.prog 34 [.c (.p (.sl 5 (encT t))), .c (.p (.s p)), .c (.p (.b is))] [] fun r h => r = .agg (plc t p is (nodeAt t p).k (nodeAt t p).m (nodeAt t p).t (nodeAt t p).d) ∧ h = [] := by
  have htl := h.len
  have hget := treeGet_c (t := t) (p := p) (by omega) h.srt h.ne fun x hx => Nat.le_trans (h.dlen x hx) (by decide)
  refine dcalls_wk ?_
  unfold nodeAt
  generalize (getR t p).getD nd0 = n at hget ⊢
  generalize (getR t p).isSome = b at hget
  obtain ⟨k, m, tt, d⟩ := n
  cases hpz : (p == [])
  ·
    refine ent tabOK hmix Tryz.func34 rfl rfl fun X0 hX => ?_
    simp only [Tryz.f34, go_sem]
    repeat' (first | simp only [*, go_sem, Nat.reduceLT, Nat.reduceLeDiff, Nat.reduceEqDiff, ↓reduceIte, Nat.reduceAdd, ] | ((with_reducible refine useN (hget) ?_ ?_ ?_); (focus exact rfl); (focus exact fun _ => rfl)))
  ·
    refine ent tabOK hmix Tryz.func34 rfl rfl fun X0 hX => ?_
    simp only [Tryz.f34, go_sem]
    repeat' (first | simp only [*, go_sem, Nat.reduceLT, Nat.reduceLeDiff, Nat.reduceEqDiff, ↓reduceIte, Nat.reduceAdd, ] | ((with_reducible refine useN (hget) ?_ ?_ ?_); (focus exact rfl); (focus exact fun _ => rfl)))
    all_goals exact .inr ⟨_, rfl⟩
end places
end Go.Proofs.YtnbgaphhhjnjlaaGreatDoor
