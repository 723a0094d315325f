/-
  Contracts of the program's calls: a rename, what a call turns, what it asks, a call.
-/
import Derived.Test.YtnbgaphhhjnjlaaGreatDoorW5
set_option linter.unusedSimpArgs false
set_option linter.unusedVariables false
namespace Go.Proofs.YtnbgaphhhjnjlaaGreatDoor
open Go Go.Dm Go.Proofs
set_option maxRecDepth 100000
set_option maxHeartbeats 8000000

theorem OkT.node {t : List It} (h : OkT t) (p : List UInt8) : (nodeAt t p).d.length ≤ 2000 ∧ (nodeAt t p).t < 18446744073709551616 := by
  unfold nodeAt
  split
  · exact ⟨by simp, by simp⟩
  · exact ⟨h.getd p, h.gett p⟩

section places
variable {t : List It} {p : List UInt8} {is : Bool} {k m : Int} {tt : Nat} {d : List UInt8}

theorem rename_c {to' : List UInt8} (h : OkT t) (hp : p.length ≤ 1000000000) (hs : to'.length ≤ 9223372036854775807) :
    DCalls Tryz.prog 71 [.agg (plc t p is k m tt d), .c (.p (.s to'))] [] fun r h =>
      r = .tup [.c (.p (.sl 5 (encT (renameP t p is ⟨k, m, tt, d⟩ to').1))), .c (.p (.i .i64 (renameP t p is ⟨k, m, tt, d⟩ to').2))] ∧ h = [] := by
  have htl := h.len
  have hwk := walk_c (s := to') (fo := false) h hs
  have hql := walkF_len (t := t) (s := to') (fo := false)
  refine dcalls_wk ?_
  unfold renameP
  generalize walkF t to' false = W at hwk hql ⊢
  obtain ⟨q, is', e⟩ := W
  simp only at hwk hql ⊢
  cases is
  ·
    refine ent tabOK hmix Tryz.func71 rfl rfl fun X0 hX => ?_
    simp only [Tryz.f71, go_sem]
    repeat' (simp only [*, go_sem, Nat.reduceLT, Nat.reduceEqDiff, ↓reduceIte, Bool.not_false])
    all_goals exact .inr ⟨_, rfl⟩
  · cases q0 : (e == 0)
    · have q1 : (e != 0) = true := by rw [bne, q0]; rfl
      refine ent tabOK hmix Tryz.func71 rfl rfl fun X0 hX => ?_
      simp only [Tryz.f71, go_sem]
      repeat' (first | simp only [*, go_sem, Nat.reduceLT, Nat.reduceEqDiff, ↓reduceIte, Bool.not_true] | ((with_reducible refine useN (hwk) ?_ ?_ ?_); (focus exact rfl); (focus exact fun _ => rfl)))
      all_goals exact .inr ⟨_, rfl⟩
    · have he := eq_of_beq q0
      subst he
      have hat := at_c (p := q) (is := is') h (by omega)
      have hon := onto_c (p := p) (k := k) (m := m) (tt := tt) (d := d) (q := q) (is' := is') (k' := (nodeAt t q).k) (m' := (nodeAt t q).m) (tt' := (nodeAt t q).t) (d' := (nodeAt t q).d) h
      have eta : (⟨(nodeAt t q).k, (nodeAt t q).m, (nodeAt t q).t, (nodeAt t q).d⟩ : Nd) = nodeAt t q := rfl
      rw [eta] at hon
      have hdp : dirP true ⟨k, m, tt, d⟩ = (k == 2) := rfl
      rw [hdp]
      clear eta hdp
      have hcp := copyT_c (t := t) (by omega) fun x hx => Nat.le_trans (h.dlen x hx) (by decide)
      have hrm := treeRemove_c (t := t) (p := q) (by omega) (by omega) fun x hx => Nat.le_trans (h.dlen x hx) (by decide)
      have hmv := move_c (t := removeR t q) (a := p) (b := q) (h.remove q) hp (by omega)
      generalize ontoP (k == 2) t q is' (nodeAt t q) = O at hon ⊢
      generalize nodeAt t q = n at hat hon
      obtain ⟨k1, m1, t1, d1⟩ := n
      simp only at hat hon
      generalize moveR (removeR t q) p q = M at hmv ⊢
      cases hz : (p == [])
      · cases hz2 : (q == [])
        · cases hpq : (p == q)
          · cases hbl : belowR p q
            · cases ho : (O == 0)
              · have ho2 : (O != 0) = true := by rw [bne, ho]; rfl
                refine ent tabOK hmix Tryz.func71 rfl rfl fun X0 hX => ?_
                simp only [Tryz.f71, go_sem]
                repeat' (first | simp only [*, go_sem, Nat.reduceLT, Nat.reduceLeDiff, Nat.reduceEqDiff, ↓reduceIte, Nat.reduceAdd, bne_self_eq_false, Bool.not_true] | ((with_reducible refine useN (hwk) ?_ ?_ ?_); (focus exact rfl); (focus exact fun _ => rfl)) | ((with_reducible refine useN (hat) ?_ ?_ ?_); (focus exact rfl); (focus exact fun _ => rfl)) | ((with_reducible refine useF (root_c) ?_ ?_ ?_); (focus exact rfl); (focus exact rfl)) | ((with_reducible refine useF (nameBelow_c hp) ?_ ?_ ?_); (focus exact rfl); (focus exact rfl)) | ((with_reducible refine useF (hon) ?_ ?_ ?_); (focus exact rfl); (focus exact rfl)))
                all_goals exact .inr ⟨_, rfl⟩
              · have ho := eq_of_beq ho
                subst ho
                refine ent tabOK hmix Tryz.func71 rfl rfl fun X0 hX => ?_
                simp only [Tryz.f71, go_sem]
                repeat' (first | simp only [*, go_sem, Nat.reduceLT, Nat.reduceLeDiff, Nat.reduceEqDiff, ↓reduceIte, Nat.reduceAdd, bne_self_eq_false, Bool.not_true] | ((with_reducible refine useN (hwk) ?_ ?_ ?_); (focus exact rfl); (focus exact fun _ => rfl)) | ((with_reducible refine useN (hat) ?_ ?_ ?_); (focus exact rfl); (focus exact fun _ => rfl)) | ((with_reducible refine useF (root_c) ?_ ?_ ?_); (focus exact rfl); (focus exact rfl)) | ((with_reducible refine useF (nameBelow_c hp) ?_ ?_ ?_); (focus exact rfl); (focus exact rfl)) | ((with_reducible refine useF (hon) ?_ ?_ ?_); (focus exact rfl); (focus exact rfl)) | ((refine vc_drawn (id := 16) tabOK hmix [] [0,1,2,3,4,5,6,7,8,9,10,11,12,13] (by decide +kernel) ?_); (repeat' (first | (refine ds_nil ?_) | ((refine ds_one ?_ rfl rfl ?_ ?_); (rotate_left 1); (focus ((repeat' (first | simp only [*, go_sem, Nat.reduceLT, Nat.reduceEqDiff, ↓reduceIte, ] | ((with_reducible refine useN (hrm) ?_ ?_ ?_); (focus exact rfl); (focus exact fun _ => rfl)) | ((with_reducible refine useN (hmv) ?_ ?_ ?_); (focus exact rfl); (focus exact fun _ => rfl)))); exact rfl)); (simp only [putF_some]))))))
            ·
              refine ent tabOK hmix Tryz.func71 rfl rfl fun X0 hX => ?_
              simp only [Tryz.f71, go_sem]
              repeat' (first | simp only [*, go_sem, Nat.reduceLT, Nat.reduceLeDiff, Nat.reduceEqDiff, ↓reduceIte, Nat.reduceAdd, bne_self_eq_false, Bool.not_true] | ((with_reducible refine useN (hwk) ?_ ?_ ?_); (focus exact rfl); (focus exact fun _ => rfl)) | ((with_reducible refine useN (hat) ?_ ?_ ?_); (focus exact rfl); (focus exact fun _ => rfl)) | ((with_reducible refine useF (root_c) ?_ ?_ ?_); (focus exact rfl); (focus exact rfl)) | ((with_reducible refine useF (nameBelow_c hp) ?_ ?_ ?_); (focus exact rfl); (focus exact rfl)))
              all_goals exact .inr ⟨_, rfl⟩
          ·
            refine ent tabOK hmix Tryz.func71 rfl rfl fun X0 hX => ?_
            simp only [Tryz.f71, go_sem]
            repeat' (first | simp only [*, go_sem, Nat.reduceLT, Nat.reduceLeDiff, Nat.reduceEqDiff, ↓reduceIte, Nat.reduceAdd, bne_self_eq_false, Bool.not_true] | ((with_reducible refine useN (hwk) ?_ ?_ ?_); (focus exact rfl); (focus exact fun _ => rfl)) | ((with_reducible refine useN (hat) ?_ ?_ ?_); (focus exact rfl); (focus exact fun _ => rfl)) | ((with_reducible refine useF (root_c) ?_ ?_ ?_); (focus exact rfl); (focus exact rfl)) | refine useO hcp rfl ?_)
        ·
          refine ent tabOK hmix Tryz.func71 rfl rfl fun X0 hX => ?_
          simp only [Tryz.f71, go_sem]
          repeat' (first | simp only [*, go_sem, Nat.reduceLT, Nat.reduceLeDiff, Nat.reduceEqDiff, ↓reduceIte, Nat.reduceAdd, bne_self_eq_false, Bool.not_true] | ((with_reducible refine useN (hwk) ?_ ?_ ?_); (focus exact rfl); (focus exact fun _ => rfl)) | ((with_reducible refine useN (hat) ?_ ?_ ?_); (focus exact rfl); (focus exact fun _ => rfl)) | ((with_reducible refine useF (root_c) ?_ ?_ ?_); (focus exact rfl); (focus exact rfl)))
          all_goals exact .inr ⟨_, rfl⟩
      ·
        refine ent tabOK hmix Tryz.func71 rfl rfl fun X0 hX => ?_
        simp only [Tryz.f71, go_sem]
        repeat' (first | simp only [*, go_sem, Nat.reduceLT, Nat.reduceLeDiff, Nat.reduceEqDiff, ↓reduceIte, Nat.reduceAdd, bne_self_eq_false, Bool.not_true] | ((with_reducible refine useN (hwk) ?_ ?_ ?_); (focus exact rfl); (focus exact fun _ => rfl)) | ((with_reducible refine useN (hat) ?_ ?_ ?_); (focus exact rfl); (focus exact fun _ => rfl)) | ((with_reducible refine useF (root_c) ?_ ?_ ?_); (focus exact rfl); (focus exact rfl)))
        all_goals exact .inr ⟨_, rfl⟩

theorem turned_c {ck : Int} {cp cq : List UInt8} {cm : Int} {ct : Nat} {ca cn : Int} {cd : List UInt8} (h : OkT t) (hp : p.length ≤ 1000000000) (hd : d.length ≤ 2000) (ht : tt < 18446744073709551616) (hct : ct < 18446744073709551616)
    (hcd : cd.length ≤ 140737488355328) (hcq : cq.length ≤ 9223372036854775807) (hca : -9223372036854775808 ≤ ca ∧ ca ≤ 9223372036854775807) :
    DCalls Tryz.prog 36 [.agg (plc t p is k m tt d), .agg (clc ck cp cq cm ct ca cn cd)] [] fun r h =>
      r = .tup [.c (.p (.sl 5 (encT (turnedP t p is ⟨k, m, tt, d⟩ ⟨ck, cp, cq, cm, ct, ca, cn, cd⟩).1))), .c (.p (.i .i64 (turnedP t p is ⟨k, m, tt, d⟩ ⟨ck, cp, cq, cm, ct, ca, cn, cd⟩).2))] ∧ h = [] := by
  have htl := h.len
  have hmk := fun (kind : Int) (hk : kind = 1 ∨ kind = 2 ∨ kind = 3) => make_c (is := is) (k := k) (m := m) (tt := tt) (d := d) (kind := kind) (ck := ck) (cp := cp) (cq := cq) (cm := cm) (ca := ca) (cn := cn) h hp hcd hct hk
  have hrd := rmdir_c (is := is) (k := k) (m := m) (tt := tt) (d := d) h hp
  have hst := set_c (is := is) (k := k) (m := m) (ck := ck) (cp := cp) (cq := cq) (cm := cm) (ca := ca) (cn := cn) (cd := cd) h hp hd ht hct
  have hrn := rename_c (is := is) (k := k) (m := m) (tt := tt) (d := d) h hp hcq
  have hfi := file_c (t := t) (p := p) (is := is) (k := k) (m := m) (tt := tt) (d := d)
  have hwr := write_c (is := is) (k := k) (m := m) (b := cd) h hp hd ht hca hcd
  have htr := trunc_c (is := is) (k := k) (m := m) (n := cn) h hp hd ht
  have hrm := treeRemove_c (t := t) (p := p) hp (by omega) fun x hx => Nat.le_trans (h.dlen x hx) (by decide)
  refine dcalls_wk ?_
  unfold turnedP
  simp only
  generalize makeP t p is = MK at hmk ⊢
  generalize rmdirP t p is ⟨k, m, tt, d⟩ = RD at hrd ⊢
  generalize setP t p is ⟨k, m, tt, d⟩ ⟨ck, cp, cq, cm, ct, ca, cn, cd⟩ = ST at hst ⊢
  generalize renameP t p is ⟨k, m, tt, d⟩ cq = RN at hrn ⊢
  generalize fileP is ⟨k, m, tt, d⟩ = FI at hfi ⊢
  generalize writeP t p ⟨k, m, tt, d⟩ ca cd = WR at hwr ⊢
  generalize truncP t p ⟨k, m, tt, d⟩ cn = TR at htr ⊢
  cases k1 : (ck == 1)
  · cases k2 : (ck == 2)
    · cases k7 : (ck == 7)
      · cases k6 : (ck == 6)
        · cases k10 : (ck == 10)
          · cases k11 : (ck == 11)
            · cases k9 : (ck == 9)
              · cases hf : (FI == 0)
                · have hf2 : (FI != 0) = true := by rw [bne, hf]; rfl
                  refine ent tabOK hmix Tryz.func36 rfl rfl fun X0 hX => ?_
                  simp only [Tryz.f36, go_sem]
                  repeat' (first | simp only [*, go_sem, Nat.reduceLT, Nat.reduceLeDiff, Nat.reduceEqDiff, ↓reduceIte, Nat.reduceAdd, ] | ((with_reducible refine useF (hfi) ?_ ?_ ?_); (focus exact rfl); (focus exact rfl)))
                  all_goals exact .inr ⟨_, rfl⟩
                · have hf := eq_of_beq hf
                  subst hf
                  cases k3 : (ck == 3)
                  · cases k4 : (ck == 4)
                    ·
                      refine ent tabOK hmix Tryz.func36 rfl rfl fun X0 hX => ?_
                      simp only [Tryz.f36, go_sem]
                      repeat' (first | simp only [*, go_sem, Nat.reduceLT, Nat.reduceLeDiff, Nat.reduceEqDiff, ↓reduceIte, Nat.reduceAdd, bne_self_eq_false, ] | ((with_reducible refine useF (hfi) ?_ ?_ ?_); (focus exact rfl); (focus exact rfl)) | ((with_reducible refine useN (hrm) ?_ ?_ ?_); (focus exact rfl); (focus exact fun _ => rfl)))
                    ·
                      refine ent tabOK hmix Tryz.func36 rfl rfl fun X0 hX => ?_
                      simp only [Tryz.f36, go_sem]
                      repeat' (first | simp only [*, go_sem, Nat.reduceLT, Nat.reduceLeDiff, Nat.reduceEqDiff, ↓reduceIte, Nat.reduceAdd, bne_self_eq_false, ] | ((with_reducible refine useF (hfi) ?_ ?_ ?_); (focus exact rfl); (focus exact rfl)) | ((with_reducible refine useN (htr) ?_ ?_ ?_); (focus exact rfl); (focus exact fun _ => rfl)))
                  ·
                    refine ent tabOK hmix Tryz.func36 rfl rfl fun X0 hX => ?_
                    simp only [Tryz.f36, go_sem]
                    repeat' (first | simp only [*, go_sem, Nat.reduceLT, Nat.reduceLeDiff, Nat.reduceEqDiff, ↓reduceIte, Nat.reduceAdd, bne_self_eq_false, ] | ((with_reducible refine useF (hfi) ?_ ?_ ?_); (focus exact rfl); (focus exact rfl)) | ((with_reducible refine useN (hwr) ?_ ?_ ?_); (focus exact rfl); (focus exact fun _ => rfl)))
              ·
                refine ent tabOK hmix Tryz.func36 rfl rfl fun X0 hX => ?_
                simp only [Tryz.f36, go_sem]
                repeat' (first | simp only [*, go_sem, Nat.reduceLT, Nat.reduceLeDiff, Nat.reduceEqDiff, ↓reduceIte, Nat.reduceAdd, ] | ((with_reducible refine useN (hrn) ?_ ?_ ?_); (focus exact rfl); (focus exact fun _ => rfl)))
            ·
              refine ent tabOK hmix Tryz.func36 rfl rfl fun X0 hX => ?_
              simp only [Tryz.f36, go_sem]
              repeat' (first | simp only [*, go_sem, Nat.reduceLT, Nat.reduceLeDiff, Nat.reduceEqDiff, ↓reduceIte, Nat.reduceAdd, ] | ((with_reducible refine useN (hst) ?_ ?_ ?_); (focus exact rfl); (focus exact fun _ => rfl)))
          ·
            refine ent tabOK hmix Tryz.func36 rfl rfl fun X0 hX => ?_
            simp only [Tryz.f36, go_sem]
            repeat' (first | simp only [*, go_sem, Nat.reduceLT, Nat.reduceLeDiff, Nat.reduceEqDiff, ↓reduceIte, Nat.reduceAdd, ] | ((with_reducible refine useN (hst) ?_ ?_ ?_); (focus exact rfl); (focus exact fun _ => rfl)))
        ·
          refine ent tabOK hmix Tryz.func36 rfl rfl fun X0 hX => ?_
          simp only [Tryz.f36, go_sem]
          repeat' (first | simp only [*, go_sem, Nat.reduceLT, Nat.reduceLeDiff, Nat.reduceEqDiff, ↓reduceIte, Nat.reduceAdd, ] | ((with_reducible refine useN (hrd) ?_ ?_ ?_); (focus exact rfl); (focus exact fun _ => rfl)))
      · have hm := hmk 3 (by simp)
        refine ent tabOK hmix Tryz.func36 rfl rfl fun X0 hX => ?_
        simp only [Tryz.f36, go_sem]
        repeat' (first | simp only [*, go_sem, Nat.reduceLT, Nat.reduceLeDiff, Nat.reduceEqDiff, ↓reduceIte, Nat.reduceAdd, ] | ((with_reducible refine useN (hm) ?_ ?_ ?_); (focus exact rfl); (focus exact fun _ => rfl)))
    · have hm := hmk 1 (by simp)
      refine ent tabOK hmix Tryz.func36 rfl rfl fun X0 hX => ?_
      simp only [Tryz.f36, go_sem]
      repeat' (first | simp only [*, go_sem, Nat.reduceLT, Nat.reduceLeDiff, Nat.reduceEqDiff, ↓reduceIte, Nat.reduceAdd, ] | ((with_reducible refine useN (hm) ?_ ?_ ?_); (focus exact rfl); (focus exact fun _ => rfl)))
  · have hm := hmk 2 (by simp)
    refine ent tabOK hmix Tryz.func36 rfl rfl fun X0 hX => ?_
    simp only [Tryz.f36, go_sem]
    repeat' (first | simp only [*, go_sem, Nat.reduceLT, Nat.reduceLeDiff, Nat.reduceEqDiff, ↓reduceIte, Nat.reduceAdd, ] | ((with_reducible refine useN (hm) ?_ ?_ ?_); (focus exact rfl); (focus exact fun _ => rfl)))
end places
end Go.Proofs.YtnbgaphhhjnjlaaGreatDoor
