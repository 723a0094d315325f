/-
  CallsPlay, walked: for every input the law returns true.
-/
import Derived.Test.YtnbgaphhhjnjlaaGreatDoorW7
import Derived.Test.YtnbgaphhhjnjlaaGreatDoorW10
import Derived.Test.YtnbgaphhhjnjlaaGreatDoorW17
import Derived.Test.YtnbgaphhhjnjlaaGreatDoorD8
import Derived.Test.YtnbgaphhhjnjlaaGreatDoorG5
import Derived.Test.YtnbgaphhhjnjlaaGreatDoorVE
import Derived.Test.YtnbgaphhhjnjlaaGreatDoorCG
set_option linter.unusedSimpArgs false
set_option linter.unusedVariables false
namespace Go.Proofs.YtnbgaphhhjnjlaaGreatDoor
open Go Go.Dm Go.Proofs
set_option maxRecDepth 100000
set_option maxHeartbeats 16000000

theorem callsPlay_law {l : List RI} {cs : List RC} {any : Cl} (hl : l.length ≤ 9223372036854775807) (hd : ∀ x ∈ l, x.n.d.length ≤ 9223372036854775807) (hdx : ∀ x ∈ l, x.n.x < 18446744073709551616)
    (hl2 : cs.length ≤ 9223372036854775807) (hd2 : ∀ x ∈ cs, x.d.length ≤ 9223372036854775807) (hs2 : ∀ x ∈ cs, x.s.length ≤ 9223372036854775807) (hx2 : ∀ x ∈ cs, x.x < 18446744073709551616) (hany : OkC any) :
    DCalls Tryz.prog 4 [.c (.p (.sl 6 (Go.Dm.encI l))), .c (.p (.sl 11 (encRC cs))), .agg (clv any)] [] fun r h => r = .c (.p (.b true)) ∧ h = [] := by
  obtain ⟨bk, bp, bq, bm, bt, ba, bn, bd⟩ := any
  refine ent tabOK hmix Tryz.func4 rfl rfl fun X0 hX => ?_
  simp only [Tryz.f4, go_sem]
  repeat' (simp only [*, go_sem, Nat.reduceLT, Nat.reduceEqDiff, ↓reduceIte, Nat.reduceAdd, ])
  refine useNE (C := OkT) (e := fun t => .c (.p (.sl 5 (encT t)))) (tree_c hl hd hdx) rfl (fun _ _ _ => rfl) fun t0 ht0 => ?_
  clear hl hd hdx
  repeat' (first | simp only [*, go_sem, Nat.reduceLT, ↓reduceIte, Bool.not_true] | ((with_reducible refine useF (known16_c) ?_ ?_ ?_); (focus exact rfl); (focus exact rfl)))
  refine loop_ren tabOK hmix (α := Nat × List It) (fun x => ⟨73, [(1, .c (.p (.sl 11 (encRC cs)))), (5, .c (.ptr 0 0)), (7, .c (.p (.sl 5 (encT x.2)))), (8, .c (.p (.i .i64 x.1)))], [.box [.p (.i .i64 bk), .p (.s bp), .p (.s bq), .p (.i .i64 bm), .p (.f bt), .p (.i .i64 ba), .p (.i .i64 bn), .p (.sl 1 (encB bd))]]⟩)
    (fun x => x.1 ≤ cs.length ∧ x.1 ≤ 30 ∧ OkT x.2) (fun x => cs.length - x.1) (0, t0) ⟨Nat.zero_le _, Nat.zero_le _, ht0⟩ (.inl (weak_mk (by rw [hX]; rfl) rfl rfl (by simp [wk_cons, wk_nil, look_cons, closedD, closedC, ]))) ?_
  rintro ⟨i, t⟩ ⟨hi, hi2, ht⟩
  simp only at hi hi2 ht
  by_cases hlt : i < cs.length ∧ i < 30
  · obtain ⟨hlt, hl16⟩ := hlt
    have hx : cs[i]? = some cs[i] := List.getElem?_eq_getElem hlt
    have hg := encRC_at hx
    have h1 : decide ((i : Int) < (cs.length : Int)) = true := decide_eq_true (by omega)
    have h16 : decide ((i : Int) < 30) = true := decide_eq_true (by omega)
    have hli : (i : Int) < (cs.length : Int) := by omega
    have hi0 : (0 : Int) ≤ i := by omega
    have w1 : IntKind.i64.wrap ((i : Int) + 1) = i + 1 := wrap_i64 (by omega) (by omega)
    have hm := List.mem_of_getElem? hx
    have hok := fun k => callF_ok (k := k) (hs2 _ hm) (hx2 _ hm)
    obtain ⟨k, hcl⟩ := call_c (hs2 _ hm) (hd2 _ hm)
    generalize cs[i] = x at hx hg hcl hok
    clear hx hm hd2 hs2 hx2
    have hc := hok k
    generalize callF k x = c at hcl hc
    clear hok
    have htl := ht.len
    obtain ⟨ck, cp, cq, cm, ct, ca, cn, cd⟩ := c
    have all : ∀ (ck : Int) (cp cq : List UInt8) (cm : Int) (ct : Nat) (ca cn : Int) (cd : List UInt8), OkC ⟨ck, cp, cq, cm, ct, ca, cn, cd⟩ → ∃ (u : List It) (e nk nm : Int) (nt : Nat) (nd ad : List UInt8) (al : List (List UInt8)), OkT u ∧
        DCalls Tryz.prog 10 [.c (.p (.sl 5 (encT t))), .agg (clc ck cp cq cm ct ca cn cd)] [] (fun r h => r = .tup [.c (.p (.sl 5 (encT u))), .agg (anc e nk nm nt nd ad al)] ∧ h = []) ∧
        DCalls Tryz.prog 16 [.c (.p (.sl 5 (encT t))), .agg (clc ck cp cq cm ct ca cn cd)] [] (fun r h => r = .tup [.c (.p (.sl 5 (encT u))), .agg (anc e nk nm nt nd ad al)] ∧ h = []) ∧
        DCalls Tryz.prog 17 [.agg (anc e nk nm nt nd ad al), .agg (anc e nk nm nt nd ad al)] [] (fun r h => r = .c (.p (.b true)) ∧ h = []) := by
      intro ck cp cq cm ct ca cn cd hc
      have h1 := do_c (ck := ck) (cm := cm) (cn := cn) ht hc.t hc.p hc.d hc.q hc.a
      have h2 := refDo_c (ck := ck) (cm := cm) (ct := ct) (cn := cn) ht hc.p hc.d hc.q hc.a
      rw [← do_eq ht] at h2
      have h3 := do_ok ht hc.t
      have h4 := answer_len ht (c := ⟨ck, cp, cq, cm, ct, ca, cn, cd⟩)
      exact ⟨_, _, _, _, _, _, _, _, h3, h1, h2, sameAnswer_c (Nat.le_trans h4.2 (by decide)) (Nat.le_trans h4.1 (by decide))⟩
    cases h61 : (x.how.tmod 61 == 60)
    · obtain ⟨u, e, nk, nm, nt, nd, ad, al, hu, hdo, hrd, hsa⟩ := all _ _ _ _ _ _ _ _ hc
      have htu := Turns_c (k := ck)
      have hrt := refTurns_c (k := ck)
      have hul := hu.len
      have hsm := sameT_c (a := u) (by omega)
      clear all hc hany
      generalize turnsF ck = tn at htu hrt
      have e1 : (tn != tn) = false := by simp
      skip
      repeat' (first | simp only [*, go_sem, Nat.reduceLT, Nat.reduceLeDiff, Nat.reduceEqDiff, ↓reduceIte, Nat.reduceAdd, Int.reduceEq, ] | ((with_reducible refine useN (hcl) ?_ ?_ ?_); (focus exact rfl); (focus exact fun _ => rfl)) | ((with_reducible refine useN (hdo) ?_ ?_ ?_); (focus exact rfl); (focus exact fun _ => rfl)) | ((with_reducible refine useN (hrd) ?_ ?_ ?_); (focus exact rfl); (focus exact fun _ => rfl)) | ((refine vc_drawn (id := 12) tabOK hmix [] [0,1,2,3,4,5,6,7,8,9,10,11,12,13,14,15,16,17,18] (by decide +kernel) ?_); (repeat' (first | (refine ds_nil ?_) | ((refine ds_one ?_ rfl rfl ?_ ?_); (rotate_left 1); (focus ((repeat' (first | simp only [*, go_sem, Nat.reduceLT, Nat.reduceLeDiff, Nat.reduceEqDiff, ↓reduceIte, Nat.reduceAdd, beq_self_eq_true, Bool.not_true] | ((with_reducible refine useN (hsa) ?_ ?_ ?_); (focus exact rfl); (focus exact fun _ => rfl)) | ((with_reducible refine useN (hsm) ?_ ?_ ?_); (focus exact rfl); (focus exact fun _ => rfl)) | ((with_reducible refine useF (htu) ?_ ?_ ?_); (focus exact rfl); (focus exact rfl)) | ((with_reducible refine useF (hrt) ?_ ?_ ?_); (focus exact rfl); (focus exact rfl)))); exact rfl)); (simp only [putF_some]))))))
      all_goals first | exact qr_n (i + 1, u) ⟨by simp only; omega, by simp only; omega, hu⟩ (by simp only; omega) (weak_mk rfl rfl rfl (by simp [wk_cons, wk_nil, look_cons, closedD, closedC, ])) | trace_state
    · obtain ⟨u, e, nk, nm, nt, nd, ad, al, hu, hdo, hrd, hsa⟩ := all _ _ _ _ _ _ _ _ hany
      have htu := Turns_c (k := bk)
      have hrt := refTurns_c (k := bk)
      have hul := hu.len
      have hsm := sameT_c (a := u) (by omega)
      clear all hc hany
      generalize turnsF bk = tn at htu hrt
      have e1 : (tn != tn) = false := by simp
      skip
      repeat' (first | simp only [*, go_sem, Nat.reduceLT, Nat.reduceLeDiff, Nat.reduceEqDiff, ↓reduceIte, Nat.reduceAdd, Int.reduceEq, ] | ((with_reducible refine useN (hcl) ?_ ?_ ?_); (focus exact rfl); (focus exact fun _ => rfl)) | ((with_reducible refine useN (hdo) ?_ ?_ ?_); (focus exact rfl); (focus exact fun _ => rfl)) | ((with_reducible refine useN (hrd) ?_ ?_ ?_); (focus exact rfl); (focus exact fun _ => rfl)) | ((refine vc_drawn (id := 12) tabOK hmix [] [0,1,2,3,4,5,6,7,8,9,10,11,12,13,14,15,16,17,18] (by decide +kernel) ?_); (repeat' (first | (refine ds_nil ?_) | ((refine ds_one ?_ rfl rfl ?_ ?_); (rotate_left 1); (focus ((repeat' (first | simp only [*, go_sem, Nat.reduceLT, Nat.reduceLeDiff, Nat.reduceEqDiff, ↓reduceIte, Nat.reduceAdd, beq_self_eq_true, Bool.not_true] | ((with_reducible refine useN (hsa) ?_ ?_ ?_); (focus exact rfl); (focus exact fun _ => rfl)) | ((with_reducible refine useN (hsm) ?_ ?_ ?_); (focus exact rfl); (focus exact fun _ => rfl)) | ((with_reducible refine useF (htu) ?_ ?_ ?_); (focus exact rfl); (focus exact rfl)) | ((with_reducible refine useF (hrt) ?_ ?_ ?_); (focus exact rfl); (focus exact rfl)))); exact rfl)); (simp only [putF_some]))))))
      all_goals first | exact qr_n (i + 1, u) ⟨by simp only; omega, by simp only; omega, hu⟩ (by simp only; omega) (weak_mk rfl rfl rfl (by simp [wk_cons, wk_nil, look_cons, closedD, closedC, ])) | trace_state
  · rcases Nat.lt_or_ge i cs.length with h | h
    · have h1 : decide ((i : Int) < (cs.length : Int)) = true := decide_eq_true (by omega)
      have h16 : decide ((i : Int) < 30) = false := decide_eq_false (by omega)
      repeat' (simp only [*, go_sem, Nat.reduceLT, Nat.reduceEqDiff, ↓reduceIte, ])
    · have h1 : decide ((i : Int) < (cs.length : Int)) = false := decide_eq_false (by omega)
      repeat' (simp only [*, go_sem, Nat.reduceLT, Nat.reduceEqDiff, ↓reduceIte, ])
end Go.Proofs.YtnbgaphhhjnjlaaGreatDoor
