import Derived.Test.YtnbgaphhhjnjlaaGreatDoorW6
import Derived.Test.YtnbgaphhhjnjlaaGreatDoorCE

section
/-
  Contracts of the program's calls: bytes read, what is asked, a call.
-/

set_option linter.unusedSimpArgs false
set_option linter.unusedVariables false
namespace Go.Proofs.YtnbgaphhhjnjlaaGreatDoor
open Go Go.Dm Go.Proofs
set_option maxRecDepth 100000
set_option maxHeartbeats 8000000

section places
variable {t : List It} {p : List UInt8} {is : Bool} {k m : Int} {tt : Nat} {d : List UInt8}

abbrev anv (a : An) : List CV := anc a.e a.n.k a.n.m a.n.t a.n.d a.d a.l

theorem read_c {a n : Int} (hd : d.length ≤ 2000) :
    DCalls Tryz.prog 64 [.agg (plc t p is k m tt d), .c (.p (.i .i64 a)), .c (.p (.i .i64 n))] [] fun r h => r = .agg (anv (readC1 is ⟨k, m, tt, d⟩ a n)) ∧ h = [] := by
  have hfi := file_c (t := t) (p := p) (is := is) (k := k) (m := m) (tt := tt) (d := d)
  refine dcalls_wk ?_
  unfold readC1
  generalize fileP is ⟨k, m, tt, d⟩ = FI at hfi ⊢
  cases hf : (FI == 0)
  · have hf2 : (FI != 0) = true := by rw [bne, hf]; rfl
    refine ent tabOK hmix Tryz.func64 rfl rfl fun X0 hX => ?_
    simp only [Tryz.f64, go_sem]
    repeat' (first | simp only [*, go_sem, Nat.reduceLT, Nat.reduceLeDiff, Nat.reduceEqDiff, ↓reduceIte, Nat.reduceAdd, ] | ((with_reducible refine useF (hfi) ?_ ?_ ?_); (focus exact rfl); (focus exact rfl)))
    all_goals exact ⟨rfl, rfl, rfl, rfl, .inr ⟨_, rfl⟩, .inr ⟨_, rfl⟩, .inr ⟨_, rfl⟩⟩
  · have hf := eq_of_beq hf
    subst hf
    cases h1 : decide (a < 0)
    · cases h2 : decide (n < 0)
      · obtain ⟨f, rfl⟩ : ∃ f : Nat, a = f := ⟨a.toNat, by simp at h1; omega⟩
        obtain ⟨g, rfl⟩ : ∃ g : Nat, n = g := ⟨n.toNat, by simp at h2; omega⟩
        simp only [Int.toNat_natCast]
        have hf0 : (0 : Int) ≤ (f : Int) := by omega
        have hg0 : (0 : Int) ≤ (g : Int) := by omega
        by_cases hfd : f ≤ d.length
        · have x1 : ¬ ((d.length : Int) < (f : Int)) := by omega
          have x3 : (f : Int) ≤ (d.length : Int) := by omega
          have hel : (d.drop f).length ≤ 2000 := by rw [List.length_drop]; omega
          generalize he : d.drop f = e at hel ⊢
          by_cases hge : g ≤ e.length
          · have x2 : ¬ ((e.length : Int) < (g : Int)) := by omega
            have x4 : (g : Int) ≤ (e.length : Int) := by omega
            have hcl := clone_c (a := e.take g) (by rw [List.length_take]; omega)
            refine ent tabOK hmix Tryz.func64 rfl rfl fun X0 hX => ?_
            simp only [Tryz.f64, go_sem]
            repeat' (first | simp only [*, go_sem, Nat.reduceLT, Nat.reduceLeDiff, Nat.reduceEqDiff, ↓reduceIte, Nat.reduceAdd, Int.reduceLE, Int.reduceToNat, bne_self_eq_false, ] | ((with_reducible refine useF (hfi) ?_ ?_ ?_); (focus exact rfl); (focus exact rfl)) | ((with_reducible refine useN (hcl) ?_ ?_ ?_); (focus exact rfl); (focus exact fun _ => rfl)) | ((with_reducible refine And.intro ?_ ?_); (focus (omega))))
            all_goals exact ⟨rfl, rfl, rfl, .inr ⟨_, rfl⟩, .inr ⟨_, rfl⟩⟩
          · have x2 : (e.length : Int) < (g : Int) := by omega
            have hcl := clone_c (a := e) (by omega)
            have htk : e.take e.length = e := List.take_length
            rw [List.take_of_length_le (by omega)]
            refine ent tabOK hmix Tryz.func64 rfl rfl fun X0 hX => ?_
            simp only [Tryz.f64, go_sem]
            repeat' (first | simp only [*, go_sem, Nat.reduceLT, Nat.reduceLeDiff, Nat.reduceEqDiff, ↓reduceIte, Nat.reduceAdd, Int.reduceLE, Int.reduceToNat, bne_self_eq_false, ] | ((with_reducible refine useF (hfi) ?_ ?_ ?_); (focus exact rfl); (focus exact rfl)) | ((with_reducible refine useN (hcl) ?_ ?_ ?_); (focus exact rfl); (focus exact fun _ => rfl)) | ((with_reducible refine And.intro ?_ ?_); (focus (omega))))
            all_goals exact ⟨rfl, rfl, rfl, .inr ⟨_, rfl⟩, .inr ⟨_, rfl⟩⟩
        · have x1 : (d.length : Int) < (f : Int) := by omega
          have hd0 : d.drop d.length = [] := List.drop_length
          rw [List.drop_of_length_le (by omega), List.take_nil]
          have hcl := clone_c (a := []) (by simp)
          rw [encB_nil] at hcl
          refine ent tabOK hmix Tryz.func64 rfl rfl fun X0 hX => ?_
          simp only [Tryz.f64, go_sem]
          repeat' (first | simp only [*, go_sem, Nat.reduceLT, Nat.reduceLeDiff, Nat.reduceEqDiff, ↓reduceIte, Nat.reduceAdd, Int.reduceLE, Int.reduceToNat, bne_self_eq_false, List.take_nil, List.length_nil] | ((with_reducible refine useF (hfi) ?_ ?_ ?_); (focus exact rfl); (focus exact rfl)) | ((with_reducible refine useN (hcl) ?_ ?_ ?_); (focus exact rfl); (focus exact fun _ => rfl)) | ((with_reducible refine And.intro ?_ ?_); (focus (omega))))
          all_goals exact ⟨rfl, rfl, rfl, .inr ⟨_, rfl⟩, .inr ⟨_, rfl⟩⟩
      ·
        refine ent tabOK hmix Tryz.func64 rfl rfl fun X0 hX => ?_
        simp only [Tryz.f64, go_sem]
        repeat' (first | simp only [*, go_sem, Nat.reduceLT, Nat.reduceLeDiff, Nat.reduceEqDiff, ↓reduceIte, Nat.reduceAdd, bne_self_eq_false, ] | ((with_reducible refine useF (hfi) ?_ ?_ ?_); (focus exact rfl); (focus exact rfl)))
        all_goals exact ⟨rfl, rfl, rfl, rfl, .inr ⟨_, rfl⟩, .inr ⟨_, rfl⟩, .inr ⟨_, rfl⟩⟩
    ·
      refine ent tabOK hmix Tryz.func64 rfl rfl fun X0 hX => ?_
      simp only [Tryz.f64, go_sem]
      repeat' (first | simp only [*, go_sem, Nat.reduceLT, Nat.reduceLeDiff, Nat.reduceEqDiff, ↓reduceIte, Nat.reduceAdd, bne_self_eq_false, ] | ((with_reducible refine useF (hfi) ?_ ?_ ?_); (focus exact rfl); (focus exact rfl)))
      all_goals exact ⟨rfl, rfl, rfl, rfl, .inr ⟨_, rfl⟩, .inr ⟨_, rfl⟩, .inr ⟨_, rfl⟩⟩

theorem asked_c {ck : Int} {cp cq : List UInt8} {cm : Int} {ct : Nat} {ca cn : Int} {cd : List UInt8} (h : OkT t) (hd : d.length ≤ 2000) :
    DCalls Tryz.prog 35 [.agg (plc t p is k m tt d), .agg (clc ck cp cq cm ct ca cn cd)] [] fun r h =>
      r = .agg (anv (askedP t p is ⟨k, m, tt, d⟩ ⟨ck, cp, cq, cm, ct, ca, cn, cd⟩)) ∧ h = [] := by
  have hrd := read_c (t := t) (p := p) (is := is) (k := k) (m := m) (tt := tt) (a := ca) (n := cn) hd
  have hcl := clone_c (a := d) (by omega)
  have hnm := names_c (p := p) h
  refine dcalls_wk ?_
  unfold askedP dirP
  simp only
  generalize readC1 is ⟨k, m, tt, d⟩ ca cn = RD at hrd ⊢
  generalize namesF t p = N at hnm ⊢
  cases k14 : (ck == 14)
  · cases is
    ·
      refine ent tabOK hmix Tryz.func35 rfl rfl fun X0 hX => ?_
      simp only [Tryz.f35, go_sem]
      repeat' (simp only [*, go_sem, Nat.reduceLT, Nat.reduceLeDiff, Nat.reduceEqDiff, ↓reduceIte, Nat.reduceAdd, Bool.not_false])
      all_goals exact ⟨rfl, rfl, rfl, rfl, .inr ⟨_, rfl⟩, .inr ⟨_, rfl⟩, .inr ⟨_, rfl⟩⟩
    · cases k8 : (ck == 8)
      · cases k15 : (ck == 15)
        ·
          refine ent tabOK hmix Tryz.func35 rfl rfl fun X0 hX => ?_
          simp only [Tryz.f35, go_sem]
          repeat' (simp only [*, go_sem, Nat.reduceLT, Nat.reduceLeDiff, Nat.reduceEqDiff, ↓reduceIte, Nat.reduceAdd, Bool.not_true])
          all_goals first | exact ⟨rfl, rfl, rfl, rfl, .inr ⟨_, rfl⟩, .inr ⟨_, rfl⟩, .inr ⟨_, rfl⟩⟩ | exact ⟨rfl, rfl, rfl, .inr ⟨_, rfl⟩, .inr ⟨_, rfl⟩⟩ | exact ⟨.inr ⟨_, rfl⟩, .inr ⟨_, rfl⟩⟩
        · cases hk : (k == 2)
          ·
            refine ent tabOK hmix Tryz.func35 rfl rfl fun X0 hX => ?_
            simp only [Tryz.f35, go_sem]
            repeat' (first | simp only [*, go_sem, Nat.reduceLT, Nat.reduceLeDiff, Nat.reduceEqDiff, ↓reduceIte, Nat.reduceAdd, Bool.not_true, Bool.not_false] | ((with_reducible refine useF (placeDir_c) ?_ ?_ ?_); (focus exact rfl); (focus exact rfl)))
            all_goals exact ⟨rfl, rfl, rfl, rfl, .inr ⟨_, rfl⟩, .inr ⟨_, rfl⟩, .inr ⟨_, rfl⟩⟩
          ·
            refine ent tabOK hmix Tryz.func35 rfl rfl fun X0 hX => ?_
            simp only [Tryz.f35, go_sem]
            repeat' (first | simp only [*, go_sem, Nat.reduceLT, Nat.reduceLeDiff, Nat.reduceEqDiff, ↓reduceIte, Nat.reduceAdd, Bool.not_true] | ((with_reducible refine useF (placeDir_c) ?_ ?_ ?_); (focus exact rfl); (focus exact rfl)) | ((with_reducible refine useN (hnm) ?_ ?_ ?_); (focus exact rfl); (focus exact fun _ => rfl)))
            all_goals first | exact ⟨rfl, rfl, rfl, rfl, .inr ⟨_, rfl⟩, .inr ⟨_, rfl⟩, .inr ⟨_, rfl⟩⟩ | exact ⟨rfl, rfl, rfl, .inr ⟨_, rfl⟩, .inr ⟨_, rfl⟩⟩ | exact ⟨.inr ⟨_, rfl⟩, .inr ⟨_, rfl⟩⟩
      · cases hk : (k == 3)
        · have hk2 : (k != 3) = true := by rw [bne, hk]; rfl
          refine ent tabOK hmix Tryz.func35 rfl rfl fun X0 hX => ?_
          simp only [Tryz.f35, go_sem]
          repeat' (simp only [*, go_sem, Nat.reduceLT, Nat.reduceLeDiff, Nat.reduceEqDiff, ↓reduceIte, Nat.reduceAdd, Bool.not_true])
          all_goals exact ⟨rfl, rfl, rfl, rfl, .inr ⟨_, rfl⟩, .inr ⟨_, rfl⟩, .inr ⟨_, rfl⟩⟩
        · have hk2 : (k != 3) = false := by rw [bne, hk]; rfl
          refine ent tabOK hmix Tryz.func35 rfl rfl fun X0 hX => ?_
          simp only [Tryz.f35, go_sem]
          repeat' (first | simp only [*, go_sem, Nat.reduceLT, Nat.reduceLeDiff, Nat.reduceEqDiff, ↓reduceIte, Nat.reduceAdd, Bool.not_true] | ((with_reducible refine useN (hcl) ?_ ?_ ?_); (focus exact rfl); (focus exact fun _ => rfl)))
          all_goals first | exact ⟨rfl, rfl, rfl, rfl, .inr ⟨_, rfl⟩, .inr ⟨_, rfl⟩, .inr ⟨_, rfl⟩⟩ | exact ⟨rfl, rfl, rfl, .inr ⟨_, rfl⟩, .inr ⟨_, rfl⟩⟩ | exact ⟨.inr ⟨_, rfl⟩, .inr ⟨_, rfl⟩⟩
  ·
    refine ent tabOK hmix Tryz.func35 rfl rfl fun X0 hX => ?_
    simp only [Tryz.f35, go_sem]
    repeat' (first | simp only [*, go_sem, Nat.reduceLT, Nat.reduceLeDiff, Nat.reduceEqDiff, ↓reduceIte, Nat.reduceAdd, ] | ((with_reducible refine useN (hrd) ?_ ?_ ?_); (focus exact rfl); (focus exact fun _ => rfl)))
    all_goals first | exact ⟨rfl, rfl, rfl, rfl, .inr ⟨_, rfl⟩, .inr ⟨_, rfl⟩, .inr ⟨_, rfl⟩⟩ | exact ⟨rfl, rfl, rfl, .inr ⟨_, rfl⟩, .inr ⟨_, rfl⟩⟩ | exact ⟨.inr ⟨_, rfl⟩, .inr ⟨_, rfl⟩⟩
end places

theorem do_c {t : List It} {ck : Int} {cp cq : List UInt8} {cm : Int} {ct : Nat} {ca cn : Int} {cd : List UInt8} (h : OkT t) (hct : ct < 18446744073709551616) (hcp : cp.length ≤ 9223372036854775807)
    (hcd : cd.length ≤ 140737488355328) (hcq : cq.length ≤ 9223372036854775807) (hca : -9223372036854775808 ≤ ca ∧ ca ≤ 9223372036854775807) :
    DCalls Tryz.prog 10 [.c (.p (.sl 5 (encT t))), .agg (clc ck cp cq cm ct ca cn cd)] [] fun r h =>
      r = .tup [.c (.p (.sl 5 (encT (doP t ⟨ck, cp, cq, cm, ct, ca, cn, cd⟩).1))), .agg (anv (doP t ⟨ck, cp, cq, cm, ct, ca, cn, cd⟩).2)] ∧ h = [] := by
  have htl := h.len
  have hcpy := copyT_c (t := t) (by omega) fun x hx => Nat.le_trans (h.dlen x hx) (by decide)
  have hwk := walk_c (s := cp) (fo := follF ck) h hcp
  have hql := walkF_len (t := t) (s := cp) (fo := follF ck)
  refine dcalls_wk ?_
  unfold doP
  simp only
  generalize walkF t cp (follF ck) = W at hwk hql ⊢
  obtain ⟨p, is, e⟩ := W
  simp only at hwk hql ⊢
  have hat := at_c (p := p) (is := is) h (by omega)
  obtain ⟨hnd, hnt⟩ := OkT.node h p
  have hak := asked_c (p := p) (is := is) (k := (nodeAt t p).k) (m := (nodeAt t p).m) (tt := (nodeAt t p).t) (ck := ck) (cp := cp) (cq := cq) (cm := cm) (ct := ct) (ca := ca) (cn := cn) (cd := cd) h hnd
  have htu := turned_c (p := p) (is := is) (k := (nodeAt t p).k) (m := (nodeAt t p).m) (ck := ck) (cp := cp) (cm := cm) (cn := cn) h (by omega) hnd hnt hct hcd hcq hca
  have eta : (⟨(nodeAt t p).k, (nodeAt t p).m, (nodeAt t p).t, (nodeAt t p).d⟩ : Nd) = nodeAt t p := rfl
  rw [eta] at hak htu
  generalize askedP t p is (nodeAt t p) ⟨ck, cp, cq, cm, ct, ca, cn, cd⟩ = A at hak ⊢
  generalize turnedP t p is (nodeAt t p) ⟨ck, cp, cq, cm, ct, ca, cn, cd⟩ = U at htu ⊢
  clear hnd hnt eta
  generalize nodeAt t p = n at hat hak htu
  obtain ⟨k1, m1, t1, d1⟩ := n
  simp only at hat hak htu
  have hfo := follows_c (k := ck)
  generalize follF ck = fo at hwk hfo
  have htn := Turns_c (k := ck)
  generalize turnsF ck = tn at htn ⊢
  obtain ⟨U, ue⟩ := U
  simp only at htu ⊢
  cases r1 : decide (ck < 1)
  · cases r2 : decide (15 < ck)
    · cases q0 : (e == 0)
      · have q1 : (e != 0) = true := by rw [bne, q0]; rfl
        refine ent tabOK hmix Tryz.func10 rfl rfl fun X0 hX => ?_
        simp only [Tryz.f10, go_sem]
        repeat' (first | simp only [*, go_sem, Nat.reduceLT, Nat.reduceLeDiff, Nat.reduceEqDiff, ↓reduceIte, Nat.reduceAdd, ] | ((refine vc_drawn (id := 3) tabOK hmix [] [0,1,2,3,4,5,6,7,8,9,10,11,12,13] (by decide +kernel) ?_); (repeat' (first | (refine ds_nil ?_) | ((refine ds_one ?_ rfl rfl ?_ ?_); (rotate_left 1); (focus ((repeat' (first | simp only [*, go_sem, Nat.reduceLT, Nat.reduceEqDiff, ↓reduceIte, ] | ((with_reducible refine useF (hfo) ?_ ?_ ?_); (focus exact rfl); (focus exact rfl)) | ((with_reducible refine useN (hwk) ?_ ?_ ?_); (focus exact rfl); (focus exact fun _ => rfl)))); exact rfl)); (simp only [putF_some]))))) | refine useO hcpy rfl ?_)
        all_goals first | exact ⟨rfl, rfl, rfl, rfl, .inr ⟨_, rfl⟩, .inr ⟨_, rfl⟩, .inr ⟨_, rfl⟩⟩ | exact ⟨rfl, rfl, rfl, .inr ⟨_, rfl⟩, .inr ⟨_, rfl⟩⟩ | exact ⟨.inr ⟨_, rfl⟩, .inr ⟨_, rfl⟩⟩
      · have he := eq_of_beq q0
        subst he
        cases tn
        ·
          refine ent tabOK hmix Tryz.func10 rfl rfl fun X0 hX => ?_
          simp only [Tryz.f10, go_sem]
          repeat' (first | simp only [*, go_sem, Nat.reduceLT, Nat.reduceLeDiff, Nat.reduceEqDiff, ↓reduceIte, Nat.reduceAdd, bne_self_eq_false, Bool.not_false] | ((refine vc_drawn (id := 3) tabOK hmix [] [0,1,2,3,4,5,6,7,8,9,10,11,12,13] (by decide +kernel) ?_); (repeat' (first | (refine ds_nil ?_) | ((refine ds_one ?_ rfl rfl ?_ ?_); (rotate_left 1); (focus ((repeat' (first | simp only [*, go_sem, Nat.reduceLT, Nat.reduceEqDiff, ↓reduceIte, ] | ((with_reducible refine useF (hfo) ?_ ?_ ?_); (focus exact rfl); (focus exact rfl)) | ((with_reducible refine useN (hwk) ?_ ?_ ?_); (focus exact rfl); (focus exact fun _ => rfl)))); exact rfl)); (simp only [putF_some]))))) | ((with_reducible refine useN (hat) ?_ ?_ ?_); (focus exact rfl); (focus exact fun _ => rfl)) | ((with_reducible refine useF (htn) ?_ ?_ ?_); (focus exact rfl); (focus exact rfl)) | ((refine vc_drawn (id := 8) tabOK hmix [1,6] [0,1,2,3,4,5,6] (by decide +kernel) ?_); (repeat' (first | (refine ds_nil ?_) | ((refine ds_chg ?_ ?_ rfl rfl rfl ?_ ?_); (rotate_left 2); (focus ((repeat' (first | simp only [*, go_sem, Nat.reduceLT, Nat.reduceLeDiff, Nat.reduceEqDiff, ↓reduceIte, Nat.reduceAdd, ] | refine useO hcpy rfl ?_)); ((refine And.intro ?_ ?_ <;> exact rfl)))); (simp only [putF_some, putF_none])) | ((refine ds_all ?_ rfl rfl rfl ?_ ?_); (rotate_left 1); (focus ((repeat' (first | exact allH_nil | refine allH_cons ?_ ?_)); (all_goals ((repeat' (first | simp only [*, go_sem, Nat.reduceLT, Nat.reduceLeDiff, Nat.reduceEqDiff, ↓reduceIte, Nat.reduceAdd, ] | ((with_reducible refine useN (hak) ?_ ?_ ?_); (focus exact rfl); (focus exact fun _ => rfl)))); (try (exact rfl)))))); (simp only [putF_some]))))))
          all_goals first | exact ⟨rfl, rfl, rfl, rfl, .inr ⟨_, rfl⟩, .inr ⟨_, rfl⟩, .inr ⟨_, rfl⟩⟩ | exact ⟨rfl, rfl, rfl, .inr ⟨_, rfl⟩, .inr ⟨_, rfl⟩⟩ | exact ⟨.inr ⟨_, rfl⟩, .inr ⟨_, rfl⟩⟩
        · cases u0 : (ue == 0)
          · have u1 : (ue != 0) = true := by rw [bne, u0]; rfl
            refine ent tabOK hmix Tryz.func10 rfl rfl fun X0 hX => ?_
            simp only [Tryz.f10, go_sem]
            repeat' (first | simp only [*, go_sem, Nat.reduceLT, Nat.reduceLeDiff, Nat.reduceEqDiff, ↓reduceIte, Nat.reduceAdd, bne_self_eq_false, Bool.not_true] | ((refine vc_drawn (id := 3) tabOK hmix [] [0,1,2,3,4,5,6,7,8,9,10,11,12,13] (by decide +kernel) ?_); (repeat' (first | (refine ds_nil ?_) | ((refine ds_one ?_ rfl rfl ?_ ?_); (rotate_left 1); (focus ((repeat' (first | simp only [*, go_sem, Nat.reduceLT, Nat.reduceEqDiff, ↓reduceIte, ] | ((with_reducible refine useF (hfo) ?_ ?_ ?_); (focus exact rfl); (focus exact rfl)) | ((with_reducible refine useN (hwk) ?_ ?_ ?_); (focus exact rfl); (focus exact fun _ => rfl)))); exact rfl)); (simp only [putF_some]))))) | ((with_reducible refine useN (hat) ?_ ?_ ?_); (focus exact rfl); (focus exact fun _ => rfl)) | ((with_reducible refine useF (htn) ?_ ?_ ?_); (focus exact rfl); (focus exact rfl)) | ((with_reducible refine useN (htu) ?_ ?_ ?_); (focus exact rfl); (focus exact fun _ => rfl)) | refine useO hcpy rfl ?_)
            all_goals first | exact ⟨rfl, rfl, rfl, rfl, .inr ⟨_, rfl⟩, .inr ⟨_, rfl⟩, .inr ⟨_, rfl⟩⟩ | exact ⟨rfl, rfl, rfl, .inr ⟨_, rfl⟩, .inr ⟨_, rfl⟩⟩ | exact ⟨.inr ⟨_, rfl⟩, .inr ⟨_, rfl⟩⟩
          · have ue0 := eq_of_beq u0
            subst ue0
            refine ent tabOK hmix Tryz.func10 rfl rfl fun X0 hX => ?_
            simp only [Tryz.f10, go_sem]
            repeat' (first | simp only [*, go_sem, Nat.reduceLT, Nat.reduceLeDiff, Nat.reduceEqDiff, ↓reduceIte, Nat.reduceAdd, bne_self_eq_false, Bool.not_true] | ((refine vc_drawn (id := 3) tabOK hmix [] [0,1,2,3,4,5,6,7,8,9,10,11,12,13] (by decide +kernel) ?_); (repeat' (first | (refine ds_nil ?_) | ((refine ds_one ?_ rfl rfl ?_ ?_); (rotate_left 1); (focus ((repeat' (first | simp only [*, go_sem, Nat.reduceLT, Nat.reduceEqDiff, ↓reduceIte, ] | ((with_reducible refine useF (hfo) ?_ ?_ ?_); (focus exact rfl); (focus exact rfl)) | ((with_reducible refine useN (hwk) ?_ ?_ ?_); (focus exact rfl); (focus exact fun _ => rfl)))); exact rfl)); (simp only [putF_some]))))) | ((with_reducible refine useN (hat) ?_ ?_ ?_); (focus exact rfl); (focus exact fun _ => rfl)) | ((with_reducible refine useF (htn) ?_ ?_ ?_); (focus exact rfl); (focus exact rfl)) | ((with_reducible refine useN (htu) ?_ ?_ ?_); (focus exact rfl); (focus exact fun _ => rfl)))
            all_goals first | exact ⟨rfl, rfl, rfl, rfl, .inr ⟨_, rfl⟩, .inr ⟨_, rfl⟩, .inr ⟨_, rfl⟩⟩ | exact ⟨rfl, rfl, rfl, .inr ⟨_, rfl⟩, .inr ⟨_, rfl⟩⟩ | exact ⟨.inr ⟨_, rfl⟩, .inr ⟨_, rfl⟩⟩
    ·
      refine ent tabOK hmix Tryz.func10 rfl rfl fun X0 hX => ?_
      simp only [Tryz.f10, go_sem]
      repeat' (first | simp only [*, go_sem, Nat.reduceLT, Nat.reduceLeDiff, Nat.reduceEqDiff, ↓reduceIte, Nat.reduceAdd, ] | refine useO hcpy rfl ?_)
      all_goals first | exact ⟨rfl, rfl, rfl, rfl, .inr ⟨_, rfl⟩, .inr ⟨_, rfl⟩, .inr ⟨_, rfl⟩⟩ | exact ⟨rfl, rfl, rfl, .inr ⟨_, rfl⟩, .inr ⟨_, rfl⟩⟩ | exact ⟨.inr ⟨_, rfl⟩, .inr ⟨_, rfl⟩⟩
  ·
    refine ent tabOK hmix Tryz.func10 rfl rfl fun X0 hX => ?_
    simp only [Tryz.f10, go_sem]
    repeat' (first | simp only [*, go_sem, Nat.reduceLT, Nat.reduceLeDiff, Nat.reduceEqDiff, ↓reduceIte, Nat.reduceAdd, ] | refine useO hcpy rfl ?_)
    all_goals first | exact ⟨rfl, rfl, rfl, rfl, .inr ⟨_, rfl⟩, .inr ⟨_, rfl⟩, .inr ⟨_, rfl⟩⟩ | exact ⟨rfl, rfl, rfl, .inr ⟨_, rfl⟩, .inr ⟨_, rfl⟩⟩ | exact ⟨.inr ⟨_, rfl⟩, .inr ⟨_, rfl⟩⟩
end Go.Proofs.YtnbgaphhhjnjlaaGreatDoor

end

section
/-
  A call with what it answers said; chapter 16's example.
-/

set_option linter.unusedSimpArgs false
set_option linter.unusedVariables false
namespace Go.Proofs.YtnbgaphhhjnjlaaGreatDoor
open Go Go.Dm Go.Proofs
set_option maxRecDepth 100000
set_option maxHeartbeats 8000000

theorem doV_c {args : List DV} {t : List It} {ck : Int} {cp cq : List UInt8} {cm : Int} {ct : Nat} {ca cn : Int} {cd : List UInt8} {u : List It} {a : An} (hw : wkDs args [.c (.p (.sl 5 (encT t))), .agg (clc ck cp cq cm ct ca cn cd)]) (h : OkT t) (he : doP t ⟨ck, cp, cq, cm, ct, ca, cn, cd⟩ = (u, a)) (hct : ct < 18446744073709551616) (hcp : cp.length ≤ 9223372036854775807)
    (hcd : cd.length ≤ 140737488355328) (hcq : cq.length ≤ 9223372036854775807) (hca : -9223372036854775808 ≤ ca ∧ ca ≤ 9223372036854775807) :
    DCalls Tryz.prog 10 args [] fun r h => r = .tup [.c (.p (.sl 5 (encT u))), .agg (anv a)] ∧ h = [] := by
  have := do_c (cn := cn) (cm := cm) (ck := ck) h hct hcp hcd hcq hca
  rw [he] at this
  exact DCalls.wkargs hw this

theorem known16_c : DCalls Tryz.prog 11 [] [] fun r h => r = .c (.p (.b true)) ∧ h = [] := by
  have h1 := doV_c (args := [.c (.p .nil), .agg [.p (.i .i64 1), .p (.s [47]), .p (.s []), .p (.i .i64 0), .p (.f 0), .p (.i .i64 0), .p (.i .i64 0), .p .nil]]) (t := []) (ck := 1) (cp := [47]) (cq := []) (cm := 0) (ct := 0) (ca := 0) (cn := 0) (cd := []) (u := []) (a := anE 7)
    (by simp [wkDs, wkD, wkCs, wkC, wkP, encB_nil, encT_nil]) OkT.nil (by rfl) (by decide) (by decide) (by decide) (by decide) (by decide)
  have h2 := doV_c (args := [.c (.p .nil), .agg [.p (.i .i64 1), .p (.s [47, 100]), .p (.s []), .p (.i .i64 493), .p (.f 0), .p (.i .i64 0), .p (.i .i64 0), .p .nil]]) (t := []) (ck := 1) (cp := [47, 100]) (cq := []) (cm := 493) (ct := 0) (ca := 0) (cn := 0) (cd := []) (u := [⟨[100], ⟨2, 493, 0, []⟩⟩]) (a := anE 0)
    (by simp [wkDs, wkD, wkCs, wkC, wkP, encB_nil, encT_nil]) OkT.nil (by rfl) (by decide) (by decide) (by decide) (by decide) (by decide)
  have hE : ∀ e, (anE e).e = e := fun _ => rfl
  have hg : (encT [⟨[100], ⟨2, 493, 0, []⟩⟩]).getD 0 [] = [.s [100], .i .i64 2, .i .i64 493, .f 0, .sl 1 []] := rfl
  refine ent tabOK hmix Tryz.func11 rfl rfl fun X0 hX => ?_
  simp only [Tryz.f11, go_sem]
  repeat' (first | simp only [*, go_sem, Nat.reduceLT, Nat.reduceLeDiff, Nat.reduceEqDiff, ↓reduceIte, Nat.reduceAdd, Int.reduceLT, Int.reduceLE, Int.reduceToNat, beq_self_eq_true] | ((with_reducible refine useN (h1) ?_ ?_ ?_); (focus exact rfl); (focus exact fun _ => rfl)) | ((with_reducible refine useN (h2) ?_ ?_ ?_); (focus exact rfl); (focus exact fun _ => rfl)))
end Go.Proofs.YtnbgaphhhjnjlaaGreatDoor

end
