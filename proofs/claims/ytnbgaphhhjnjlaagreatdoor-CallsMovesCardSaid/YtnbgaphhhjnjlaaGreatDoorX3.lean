/-
  CallsMoves, walked: for every input the law returns true.
-/
import Derived.Test.YtnbgaphhhjnjlaaGreatDoorW9
import Derived.Test.YtnbgaphhhjnjlaaGreatDoorC1
import Derived.Test.YtnbgaphhhjnjlaaGreatDoorD8
import Derived.Test.YtnbgaphhhjnjlaaGreatDoorG5
import Derived.Test.YtnbgaphhhjnjlaaGreatDoorVE
import Derived.Test.YtnbgaphhhjnjlaaGreatDoorCG
set_option linter.unusedSimpArgs false
set_option linter.unusedVariables false
namespace Go.Proofs.YtnbgaphhhjnjlaaGreatDoor
open Go Go.Dm Go.Proofs
set_option maxRecDepth 100000
set_option maxHeartbeats 16000000

theorem doU_c {t : List It} {p q : List UInt8} (h : OkT t) (hp : p.length ≤ 1000) (hq : q.length ≤ 1000) {u : List It} {a : An} (he : doP t ⟨9, p, q, 0, 0, 0, 0, []⟩ = (u, a)) :
    DCalls Tryz.prog 10 [.c (.p (.sl 5 (encT t))), .agg [.p (.i .i64 9), .p (.s p), .p (.s q), .p (.i .i64 0), .p (.f 0), .p (.i .i64 0), .p (.i .i64 0), .p .nil]] [] fun r h => r = .tup [.c (.p (.sl 5 (encT u))), .agg (anv a)] ∧ h = [] :=
  doV_c (by simp [wkDs, wkD, wkCs, wkC, wkP, encB_nil]) h he (by decide) (by omega) (by decide) (by omega) (by decide)

theorem callsMoves_law {l : List RI} {at' to' : Int} (hl : l.length ≤ 9223372036854775807) (hd : ∀ x ∈ l, x.n.d.length ≤ 9223372036854775807) (hdx : ∀ x ∈ l, x.n.x < 18446744073709551616) :
    DCalls Tryz.prog 6 [.c (.p (.sl 6 (Go.Dm.encI l))), .c (.p (.i .i64 at')), .c (.p (.i .i64 to'))] [] fun r h => r = .c (.p (.b true)) ∧ h = [] := by
  refine ent tabOK hmix Tryz.func6 rfl rfl fun X0 hX => ?_
  simp only [Tryz.ntmps6, Tryz.f6, go_sem]
  repeat' (first | simp (maxSteps := 1000000) only [*, go_sem, Nat.reduceLT, Nat.reduceLeDiff, Nat.reduceEqDiff, ↓reduceIte, Nat.reduceAdd, Nat.reduceSub, Nat.reduceMul, Int.reduceLT, Int.reduceLE, Int.reduceAdd, Int.reduceSub, Int.reduceMul, Int.reduceNeg, Int.reduceToNat, Int.reduceEq, Int.reduceBEq, Int.reduceBNe, Nat.reduceBEq, beq_self_eq_true, bne_self_eq_false] | with_reducible refine vcond_split (fun _ => ?_) (fun _ => ?_) | with_reducible refine vg_split (fun _ => ?_) (fun _ => ?_) | ((with_reducible apply DCalls.frz); (focus exact rfl); (focus exact rfl)) | ((with_reducible refine And.intro ?_ ?_); (focus (first | omega | decide | assumption | (simp only [decide_eq_true_eq, decide_eq_false_iff_not] at *; omega)))))
  refine useNE (C := OkT) (e := fun t => .c (.p (.sl 5 (encT t)))) (tree_c hl hd hdx) rfl (fun _ _ _ => rfl) fun t ht => ?_
  clear hl hd hdx
  have htl := ht.len
  cases q0 : ((t.length : Int) == 0)
  · have hpos : 0 < t.length := by
      cases t with
      | nil => cases q0
      | cons x t => simp
    have hpk := Pick_c (n := at') (m := (t.length : Int)) (by omega) (by omega)
    obtain ⟨j, hj, hjl⟩ : ∃ j : Nat, at' % (t.length : Int) = (j : Int) ∧ j < t.length := by
      refine ⟨(at' % (t.length : Int)).toNat, ?_⟩
      have := Int.emod_nonneg at' (show (t.length : Int) ≠ 0 by omega)
      have := Int.emod_lt_of_pos at' (show (0 : Int) < t.length by omega)
      omega
    rw [hj] at hpk
    have hy : t[j]? = some t[j] := List.getElem?_eq_getElem hjl
    have hgy := encT_at hy
    have hyp := ht.plen _ (List.getElem_mem hjl)
    have hgs := getR_self ht.srt (List.getElem_mem hjl)
    have hj0 : (0 : Int) ≤ (j : Int) := by omega
    have hj1 : (j : Int) < (t.length : Int) := by omega
    generalize t[j] = y at hy hgy hyp hgs
    obtain ⟨p, nk, nm, nt, nd⟩ := y
    simp only at hgy hyp hgs
    have hga : (getR t p).isSome = true := by rw [hgs]; rfl
    clear hy hgs hj
    have hpa := Path_c (n := to')
    have hql : (pathF to').length ≤ 120 := Nat.le_trans (pathF_len to') (by decide)
    generalize pathF to' = q at hpa hql
    have hget := getR_c (t := t) (p := q) (by omega)
    have hwk := refWalk_c (s := q) (fo := false) ht (by omega)
    have hbl := walkF_len (t := t) (s := q) (fo := false)
    have hsm := sameT_c (a := t) (by omega)
    have hlaw := moves_law (a := p) (q := q) (b := (walkF t q false).1) ht hga
    have herr := doP_err (t := t) (c := ⟨9, p, q, 0, 0, 0, 0, []⟩)
    generalize hU : doP t ⟨9, p, q, 0, 0, 0, 0, []⟩ = U at hlaw herr
    obtain ⟨u, a⟩ := U
    have hdo := doU_c ht (by omega) (by omega) hU
    generalize walkF t q false = W at hwk hlaw hbl
    obtain ⟨b, fd, e⟩ := W
    simp only at hlaw herr hwk hbl
    obtain ⟨n1, hn1⟩ : ∃ n, (getR t q).getD nd0 = n := ⟨_, rfl⟩
    rw [hn1] at hget
    generalize (getR t q).isSome = th at hget
    obtain ⟨mk, mm, mt, md⟩ := n1
    obtain ⟨ae, an, ad, al⟩ := a
    obtain ⟨a1, a2, a3, a4⟩ := an
    simp only at herr hlaw
    clear hn1 hU
    cases qa : (ae == 0)
    · have hae : ae ≠ 0 := by simpa using qa
      have qa' : (ae != 0) = true := by rw [bne, qa]; rfl
      obtain rfl := herr hae
      clear hlaw
      repeat' (first | simp (maxSteps := 1000000) only [*, go_sem, Nat.reduceLT, Nat.reduceLeDiff, Nat.reduceEqDiff, ↓reduceIte, Nat.reduceAdd, Nat.reduceSub, Nat.reduceMul, Int.reduceLT, Int.reduceLE, Int.reduceAdd, Int.reduceSub, Int.reduceMul, Int.reduceNeg, Int.reduceToNat, Int.reduceEq, Int.reduceBEq, Int.reduceBNe, Nat.reduceBEq, beq_self_eq_true, bne_self_eq_false, Bool.not_true, Bool.not_false] | ((with_reducible refine useF (known16_c) ?_ ?_ ?_); (focus exact rfl); (focus exact rfl)) | ((with_reducible refine useF (hpk) ?_ ?_ ?_); (focus exact rfl); (focus exact rfl)) | ((with_reducible refine useF (hpa) ?_ ?_ ?_); (focus exact rfl); (focus exact rfl)) | ((with_reducible refine useN (hget) ?_ ?_ ?_); (focus exact rfl); (focus exact fun _ => rfl)) | ((with_reducible refine useN (hdo) ?_ ?_ ?_); (focus exact rfl); (focus exact fun _ => rfl)) | ((with_reducible refine useN (hwk) ?_ ?_ ?_); (focus exact rfl); (focus exact fun _ => rfl)) | ((with_reducible refine useF (hsm) ?_ ?_ ?_); (focus exact rfl); (focus exact rfl)) | with_reducible refine vcond_split (fun _ => ?_) (fun _ => ?_) | with_reducible refine vg_split (fun _ => ?_) (fun _ => ?_) | ((with_reducible apply DCalls.frz); (focus exact rfl); (focus exact rfl)) | ((with_reducible refine And.intro ?_ ?_); (focus (first | omega | decide | assumption | (simp only [decide_eq_true_eq, decide_eq_false_iff_not] at *; omega)))))
    · have hae := eq_of_beq qa
      subst hae
      cases th
      · cases fd
        · cases qe : (e == 0)
          · have qe' : (e != 0) = true := by rw [bne, qe]; rfl
            repeat' (first | simp (maxSteps := 1000000) only [*, go_sem, Nat.reduceLT, Nat.reduceLeDiff, Nat.reduceEqDiff, ↓reduceIte, Nat.reduceAdd, Nat.reduceSub, Nat.reduceMul, Int.reduceLT, Int.reduceLE, Int.reduceAdd, Int.reduceSub, Int.reduceMul, Int.reduceNeg, Int.reduceToNat, Int.reduceEq, Int.reduceBEq, Int.reduceBNe, Nat.reduceBEq, beq_self_eq_true, bne_self_eq_false, Bool.not_true, Bool.not_false] | ((with_reducible refine useF (known16_c) ?_ ?_ ?_); (focus exact rfl); (focus exact rfl)) | ((with_reducible refine useF (hpk) ?_ ?_ ?_); (focus exact rfl); (focus exact rfl)) | ((with_reducible refine useF (hpa) ?_ ?_ ?_); (focus exact rfl); (focus exact rfl)) | ((with_reducible refine useN (hget) ?_ ?_ ?_); (focus exact rfl); (focus exact fun _ => rfl)) | ((with_reducible refine useN (hdo) ?_ ?_ ?_); (focus exact rfl); (focus exact fun _ => rfl)) | ((with_reducible refine useN (hwk) ?_ ?_ ?_); (focus exact rfl); (focus exact fun _ => rfl)) | ((with_reducible refine useF (hsm) ?_ ?_ ?_); (focus exact rfl); (focus exact rfl)) | with_reducible refine vcond_split (fun _ => ?_) (fun _ => ?_) | with_reducible refine vg_split (fun _ => ?_) (fun _ => ?_) | ((with_reducible apply DCalls.frz); (focus exact rfl); (focus exact rfl)) | ((with_reducible refine And.intro ?_ ?_); (focus (first | omega | decide | assumption | (simp only [decide_eq_true_eq, decide_eq_false_iff_not] at *; omega)))))
          · have he := eq_of_beq qe
            subst he
            obtain ⟨k1, k2, k3, k4⟩ := hlaw rfl rfl
            have hget2 := getR_c (t := u) (p := p) (by omega)
            rw [k2] at hget2
            simp only [Option.getD_none, Option.isSome_none, nd0] at hget2
            have hdo2 := doU_c k1 (by omega) (by omega) k4
            have hne : ((u.length : Int) != (t.length : Int)) = false := by rw [k3]; simp
            have hE : (anE 0).e = 0 := rfl
            clear k3 k4 k2 hlaw herr
            repeat' (first | simp (maxSteps := 1000000) only [*, go_sem, Nat.reduceLT, Nat.reduceLeDiff, Nat.reduceEqDiff, ↓reduceIte, Nat.reduceAdd, Nat.reduceSub, Nat.reduceMul, Int.reduceLT, Int.reduceLE, Int.reduceAdd, Int.reduceSub, Int.reduceMul, Int.reduceNeg, Int.reduceToNat, Int.reduceEq, Int.reduceBEq, Int.reduceBNe, Nat.reduceBEq, beq_self_eq_true, bne_self_eq_false, Bool.not_true, Bool.not_false] | ((with_reducible refine useF (known16_c) ?_ ?_ ?_); (focus exact rfl); (focus exact rfl)) | ((with_reducible refine useF (hpk) ?_ ?_ ?_); (focus exact rfl); (focus exact rfl)) | ((with_reducible refine useF (hpa) ?_ ?_ ?_); (focus exact rfl); (focus exact rfl)) | ((with_reducible refine useN (hget) ?_ ?_ ?_); (focus exact rfl); (focus exact fun _ => rfl)) | ((with_reducible refine useN (hdo) ?_ ?_ ?_); (focus exact rfl); (focus exact fun _ => rfl)) | ((with_reducible refine useN (hwk) ?_ ?_ ?_); (focus exact rfl); (focus exact fun _ => rfl)) | ((with_reducible refine useN (hget2) ?_ ?_ ?_); (focus exact rfl); (focus exact fun _ => rfl)) | ((with_reducible refine useN (hdo2) ?_ ?_ ?_); (focus exact rfl); (focus exact fun _ => rfl)) | ((with_reducible refine useF (hsm) ?_ ?_ ?_); (focus exact rfl); (focus exact rfl)) | with_reducible refine vcond_split (fun _ => ?_) (fun _ => ?_) | with_reducible refine vg_split (fun _ => ?_) (fun _ => ?_) | ((with_reducible apply DCalls.frz); (focus exact rfl); (focus exact rfl)) | ((with_reducible refine And.intro ?_ ?_); (focus (first | omega | decide | assumption | (simp only [decide_eq_true_eq, decide_eq_false_iff_not] at *; omega)))))
        ·
          repeat' (first | simp (maxSteps := 1000000) only [*, go_sem, Nat.reduceLT, Nat.reduceLeDiff, Nat.reduceEqDiff, ↓reduceIte, Nat.reduceAdd, Nat.reduceSub, Nat.reduceMul, Int.reduceLT, Int.reduceLE, Int.reduceAdd, Int.reduceSub, Int.reduceMul, Int.reduceNeg, Int.reduceToNat, Int.reduceEq, Int.reduceBEq, Int.reduceBNe, Nat.reduceBEq, beq_self_eq_true, bne_self_eq_false, Bool.not_true, Bool.not_false] | ((with_reducible refine useF (known16_c) ?_ ?_ ?_); (focus exact rfl); (focus exact rfl)) | ((with_reducible refine useF (hpk) ?_ ?_ ?_); (focus exact rfl); (focus exact rfl)) | ((with_reducible refine useF (hpa) ?_ ?_ ?_); (focus exact rfl); (focus exact rfl)) | ((with_reducible refine useN (hget) ?_ ?_ ?_); (focus exact rfl); (focus exact fun _ => rfl)) | ((with_reducible refine useN (hdo) ?_ ?_ ?_); (focus exact rfl); (focus exact fun _ => rfl)) | ((with_reducible refine useN (hwk) ?_ ?_ ?_); (focus exact rfl); (focus exact fun _ => rfl)) | ((with_reducible refine useF (hsm) ?_ ?_ ?_); (focus exact rfl); (focus exact rfl)) | with_reducible refine vcond_split (fun _ => ?_) (fun _ => ?_) | with_reducible refine vg_split (fun _ => ?_) (fun _ => ?_) | ((with_reducible apply DCalls.frz); (focus exact rfl); (focus exact rfl)) | ((with_reducible refine And.intro ?_ ?_); (focus (first | omega | decide | assumption | (simp only [decide_eq_true_eq, decide_eq_false_iff_not] at *; omega)))))
      ·
        repeat' (first | simp (maxSteps := 1000000) only [*, go_sem, Nat.reduceLT, Nat.reduceLeDiff, Nat.reduceEqDiff, ↓reduceIte, Nat.reduceAdd, Nat.reduceSub, Nat.reduceMul, Int.reduceLT, Int.reduceLE, Int.reduceAdd, Int.reduceSub, Int.reduceMul, Int.reduceNeg, Int.reduceToNat, Int.reduceEq, Int.reduceBEq, Int.reduceBNe, Nat.reduceBEq, beq_self_eq_true, bne_self_eq_false, Bool.not_true, Bool.not_false] | ((with_reducible refine useF (known16_c) ?_ ?_ ?_); (focus exact rfl); (focus exact rfl)) | ((with_reducible refine useF (hpk) ?_ ?_ ?_); (focus exact rfl); (focus exact rfl)) | ((with_reducible refine useF (hpa) ?_ ?_ ?_); (focus exact rfl); (focus exact rfl)) | ((with_reducible refine useN (hget) ?_ ?_ ?_); (focus exact rfl); (focus exact fun _ => rfl)) | ((with_reducible refine useN (hdo) ?_ ?_ ?_); (focus exact rfl); (focus exact fun _ => rfl)) | ((with_reducible refine useN (hwk) ?_ ?_ ?_); (focus exact rfl); (focus exact fun _ => rfl)) | ((with_reducible refine useF (hsm) ?_ ?_ ?_); (focus exact rfl); (focus exact rfl)) | with_reducible refine vcond_split (fun _ => ?_) (fun _ => ?_) | with_reducible refine vg_split (fun _ => ?_) (fun _ => ?_) | ((with_reducible apply DCalls.frz); (focus exact rfl); (focus exact rfl)) | ((with_reducible refine And.intro ?_ ?_); (focus (first | omega | decide | assumption | (simp only [decide_eq_true_eq, decide_eq_false_iff_not] at *; omega)))))
  ·
    repeat' (first | simp (maxSteps := 1000000) only [*, go_sem, Nat.reduceLT, Nat.reduceLeDiff, Nat.reduceEqDiff, ↓reduceIte, Nat.reduceAdd, Nat.reduceSub, Nat.reduceMul, Int.reduceLT, Int.reduceLE, Int.reduceAdd, Int.reduceSub, Int.reduceMul, Int.reduceNeg, Int.reduceToNat, Int.reduceEq, Int.reduceBEq, Int.reduceBNe, Nat.reduceBEq, beq_self_eq_true, bne_self_eq_false, Bool.not_true, Bool.not_false] | ((with_reducible refine useF (known16_c) ?_ ?_ ?_); (focus exact rfl); (focus exact rfl)) | with_reducible refine vcond_split (fun _ => ?_) (fun _ => ?_) | with_reducible refine vg_split (fun _ => ?_) (fun _ => ?_) | ((with_reducible apply DCalls.frz); (focus exact rfl); (focus exact rfl)) | ((with_reducible refine And.intro ?_ ?_); (focus (first | omega | decide | assumption | (simp only [decide_eq_true_eq, decide_eq_false_iff_not] at *; omega)))))
end Go.Proofs.YtnbgaphhhjnjlaaGreatDoor
