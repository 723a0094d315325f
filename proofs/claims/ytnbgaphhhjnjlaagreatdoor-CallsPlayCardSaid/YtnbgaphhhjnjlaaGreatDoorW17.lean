import Derived.Test.YtnbgaphhhjnjlaaGreatDoorW11
import Derived.Test.YtnbgaphhhjnjlaaGreatDoorW13
import Derived.Test.YtnbgaphhhjnjlaaGreatDoorW15
import Derived.Test.YtnbgaphhhjnjlaaGreatDoorCG

section
/-
  Contracts of the document's calls: a call; are two answers the same.
-/

set_option linter.unusedSimpArgs false
set_option linter.unusedVariables false
namespace Go.Proofs.YtnbgaphhhjnjlaaGreatDoor
open Go Go.Dm Go.Proofs
set_option maxRecDepth 100000
set_option maxHeartbeats 16000000

theorem doAt_c {t : List It} {p : List UInt8} {is : Bool} {ck : Int} {cp cq : List UInt8} {cm : Int} {ct : Nat} {ca cn : Int} {cd : List UInt8} (h : OkT t) (hp : p.length ≤ 1000000000) (hk : 1 ≤ ck ∧ ck ≤ 15)
    (hcd : cd.length ≤ 140737488355328) (hcq : cq.length ≤ 9223372036854775807) (hca : -9223372036854775808 ≤ ca ∧ ca ≤ 9223372036854775807) : DoAt t p is ck cp cq cm ct ca cn cd := by
  have hc : ck = 1 ∨ ck = 2 ∨ ck = 3 ∨ ck = 4 ∨ ck = 5 ∨ ck = 6 ∨ ck = 7 ∨ ck = 8 ∨ ck = 9 ∨ ck = 10 ∨ ck = 11 ∨ ck = 12 ∨ ck = 13 ∨ ck = 14 ∨ ck = 15 := by omega
  rcases hc with rfl | rfl | rfl | rfl | rfl | rfl | rfl | rfl | rfl | rfl | rfl | rfl | rfl | rfl | rfl
  · exact do_make h hp hcd (.inl rfl)
  · exact do_make h hp hcd (.inr (.inl rfl))
  · exact do_write h hca hcd
  · exact do_cut h
  · exact do_unlink h hp
  · exact do_rmdir h hp
  · exact do_make h hp hcd (.inr (.inr rfl))
  · exact do_readlink h
  · exact do_rename9 h hp hcq
  · exact do_mode h
  · exact do_time h
  · exact do_stat h (.inl rfl)
  · exact do_stat h (.inr rfl)
  · exact do_read h
  · exact do_list h

theorem refDo_c {t : List It} {ck : Int} {cp cq : List UInt8} {cm : Int} {ct : Nat} {ca cn : Int} {cd : List UInt8} (h : OkT t) (hcp : cp.length ≤ 9223372036854775807)
    (hcd : cd.length ≤ 140737488355328) (hcq : cq.length ≤ 9223372036854775807) (hca : -9223372036854775808 ≤ ca ∧ ca ≤ 9223372036854775807) :
    DCalls Tryz.prog 16 [.c (.p (.sl 5 (encT t))), .agg (clc ck cp cq cm ct ca cn cd)] [] fun r h =>
      r = .tup [.c (.p (.sl 5 (encT (doR t ⟨ck, cp, cq, cm, ct, ca, cn, cd⟩).1))), .agg (anv (doR t ⟨ck, cp, cq, cm, ct, ca, cn, cd⟩).2)] ∧ h = [] := by
  have hwk := refWalk_c (s := cp) (fo := follF ck) h hcp
  have hql := walkF_len (t := t) (s := cp) (fo := follF ck)
  refine dcalls_wk ?_
  unfold doR
  simp only
  generalize walkF t cp (follF ck) = W at hwk hql ⊢
  obtain ⟨p, is, e⟩ := W
  simp only at hwk hql ⊢
  have hfo := refFollows_c (k := ck)
  generalize follF ck = fo at hwk hfo
  cases r1 : decide (ck < 1)
  · cases r2 : decide (15 < ck)
    · have hat := fun is => doAt_c (t := t) (p := p) (is := is) (ck := ck) (cp := cp) (cq := cq) (cm := cm) (ct := ct) (ca := ca) (cn := cn) (cd := cd) h (by omega) (by have := of_decide_eq_false r1; have := of_decide_eq_false r2; omega) hcd hcq hca
      have hat := hat is
      unfold DoAt at hat
      generalize doR1 t ⟨ck, cp, cq, cm, ct, ca, cn, cd⟩ p is = R at hat ⊢
      obtain ⟨u, ae, ⟨nk, nm, nt, nd⟩, ad, al⟩ := R
      simp only at hat ⊢
      cases q0 : (e == 0)
      · have q1 : (e != 0) = true := by rw [bne, q0]; rfl
        unfold anE nd0
        refine ent tabOK hmix Tryz.func16 rfl rfl fun X0 hX => ?_
        simp only [Tryz.f16, go_sem]
        repeat' (first | simp only [*, go_sem, Nat.reduceLT, Nat.reduceLeDiff, Nat.reduceEqDiff, ↓reduceIte, Nat.reduceAdd, ] | ((refine vc_drawn (id := 3) tabOK hmix [] [0,1,2,3,4,5,6,7,8,9,10,11,12,13] (by decide +kernel) ?_); (repeat' (first | (refine ds_nil ?_) | ((refine ds_one ?_ rfl rfl ?_ ?_); (rotate_left 1); (focus ((repeat' (first | simp only [*, go_sem, Nat.reduceLT, Nat.reduceEqDiff, ↓reduceIte, ] | ((with_reducible refine useF (hfo) ?_ ?_ ?_); (focus exact rfl); (focus exact rfl)) | ((with_reducible refine useN (hwk) ?_ ?_ ?_); (focus exact rfl); (focus exact fun _ => rfl)))); exact rfl)); (simp only [putF_some]))))) | ((with_reducible refine useF (why_c) ?_ ?_ ?_); (focus exact rfl); (focus exact rfl)))
        all_goals first | exact ⟨rfl, rfl, rfl, .inr ⟨_, rfl⟩, .inr ⟨_, rfl⟩, .inr ⟨_, rfl⟩⟩ | exact ⟨.inr ⟨_, rfl⟩, .inr ⟨_, rfl⟩, .inr ⟨_, rfl⟩⟩
      · have he := eq_of_beq q0
        subst he
        cases u0 : (ae == 0)
        · have u1 : (ae != 0) = true := by rw [bne, u0]; rfl
          unfold anE nd0
          refine ent tabOK hmix Tryz.func16 rfl rfl fun X0 hX => ?_
          simp only [Tryz.f16, go_sem]
          repeat' (first | simp only [*, go_sem, Nat.reduceLT, Nat.reduceLeDiff, Nat.reduceEqDiff, ↓reduceIte, Nat.reduceAdd, bne_self_eq_false, ] | ((refine vc_drawn (id := 3) tabOK hmix [] [0,1,2,3,4,5,6,7,8,9,10,11,12,13] (by decide +kernel) ?_); (repeat' (first | (refine ds_nil ?_) | ((refine ds_one ?_ rfl rfl ?_ ?_); (rotate_left 1); (focus ((repeat' (first | simp only [*, go_sem, Nat.reduceLT, Nat.reduceEqDiff, ↓reduceIte, ] | ((with_reducible refine useF (hfo) ?_ ?_ ?_); (focus exact rfl); (focus exact rfl)) | ((with_reducible refine useN (hwk) ?_ ?_ ?_); (focus exact rfl); (focus exact fun _ => rfl)))); exact rfl)); (simp only [putF_some]))))) | ((with_reducible refine useN (hat) ?_ ?_ ?_); (focus exact rfl); (focus exact fun _ => rfl)) | ((with_reducible refine useF (why_c) ?_ ?_ ?_); (focus exact rfl); (focus exact rfl)))
          all_goals first | exact ⟨rfl, rfl, rfl, .inr ⟨_, rfl⟩, .inr ⟨_, rfl⟩, .inr ⟨_, rfl⟩⟩ | exact ⟨.inr ⟨_, rfl⟩, .inr ⟨_, rfl⟩, .inr ⟨_, rfl⟩⟩
        · have ue0 := eq_of_beq u0
          subst ue0
          refine ent tabOK hmix Tryz.func16 rfl rfl fun X0 hX => ?_
          simp only [Tryz.f16, go_sem]
          repeat' (first | simp only [*, go_sem, Nat.reduceLT, Nat.reduceLeDiff, Nat.reduceEqDiff, ↓reduceIte, Nat.reduceAdd, bne_self_eq_false, ] | ((refine vc_drawn (id := 3) tabOK hmix [] [0,1,2,3,4,5,6,7,8,9,10,11,12,13] (by decide +kernel) ?_); (repeat' (first | (refine ds_nil ?_) | ((refine ds_one ?_ rfl rfl ?_ ?_); (rotate_left 1); (focus ((repeat' (first | simp only [*, go_sem, Nat.reduceLT, Nat.reduceEqDiff, ↓reduceIte, ] | ((with_reducible refine useF (hfo) ?_ ?_ ?_); (focus exact rfl); (focus exact rfl)) | ((with_reducible refine useN (hwk) ?_ ?_ ?_); (focus exact rfl); (focus exact fun _ => rfl)))); exact rfl)); (simp only [putF_some]))))) | ((with_reducible refine useN (hat) ?_ ?_ ?_); (focus exact rfl); (focus exact fun _ => rfl)) | ((refine vc_drawn (id := 9) tabOK hmix [3] [0,1,2,3] (by decide +kernel) ?_); (repeat' (first | (refine ds_nil ?_) | ((refine ds_chg ?_ ?_ rfl rfl rfl ?_ ?_); (rotate_left 2); (focus ((repeat' (simp only [*, go_sem, Nat.reduceLeDiff, Nat.reduceEqDiff, ↓reduceIte, Nat.reduceAdd, ])); ((refine And.intro ?_ ?_ <;> exact rfl)))); (simp only [putF_none])) | ((refine ds_all ?_ rfl rfl rfl ?_ ?_); (rotate_left 1); (focus ((repeat' (first | exact allH_nil | refine allH_cons ?_ ?_)); (all_goals ((repeat' (simp only [*, go_sem, Nat.reduceLT, Nat.reduceLeDiff, Nat.reduceEqDiff, ↓reduceIte, Nat.reduceAdd, ])); (try (exact rfl)))))); (simp only [putF_some]))))))
    · unfold anE nd0
      refine ent tabOK hmix Tryz.func16 rfl rfl fun X0 hX => ?_
      simp only [Tryz.f16, go_sem]
      repeat' (first | simp only [*, go_sem, Nat.reduceLT, Nat.reduceLeDiff, Nat.reduceEqDiff, ↓reduceIte, Nat.reduceAdd, ] | ((with_reducible refine useF (why_c) ?_ ?_ ?_); (focus exact rfl); (focus exact rfl)))
      all_goals first | exact ⟨rfl, rfl, rfl, .inr ⟨_, rfl⟩, .inr ⟨_, rfl⟩, .inr ⟨_, rfl⟩⟩ | exact ⟨.inr ⟨_, rfl⟩, .inr ⟨_, rfl⟩, .inr ⟨_, rfl⟩⟩
  · unfold anE nd0
    refine ent tabOK hmix Tryz.func16 rfl rfl fun X0 hX => ?_
    simp only [Tryz.f16, go_sem]
    repeat' (first | simp only [*, go_sem, Nat.reduceLT, Nat.reduceLeDiff, Nat.reduceEqDiff, ↓reduceIte, Nat.reduceAdd, ] | ((with_reducible refine useF (why_c) ?_ ?_ ?_); (focus exact rfl); (focus exact rfl)))
    all_goals first | exact ⟨rfl, rfl, rfl, .inr ⟨_, rfl⟩, .inr ⟨_, rfl⟩, .inr ⟨_, rfl⟩⟩ | exact ⟨.inr ⟨_, rfl⟩, .inr ⟨_, rfl⟩, .inr ⟨_, rfl⟩⟩
end Go.Proofs.YtnbgaphhhjnjlaaGreatDoor

end

section
/-
  Contracts of the document's calls: an answer is the same as itself.
-/

set_option linter.unusedSimpArgs false
set_option linter.unusedVariables false
namespace Go.Proofs.YtnbgaphhhjnjlaaGreatDoor
open Go Go.Dm Go.Proofs
set_option maxRecDepth 100000
set_option maxHeartbeats 16000000

theorem sameAnswer_c {e : Int} {nk nm : Int} {nt : Nat} {nd ad : List UInt8} {al : List (List UInt8)} (hl : al.length ≤ 1000000) (hd : ad.length ≤ 1000000) :
    DCalls Tryz.prog 17 [.agg (anc e nk nm nt nd ad al), .agg (anc e nk nm nt nd ad al)] [] fun r h => r = .c (.p (.b true)) ∧ h = [] := by
  have hsn := sameNd_refl ⟨nk, nm, nt, nd⟩
  have e1 : (e != e) = false := by simp
  have e2 : (ad != ad) = false := by simp
  have e3 : ((al.length : Int) != (al.length : Int)) = false := by simp
  have hlen : (Go.Dm.encS al).length = al.length := by simp [Go.Dm.encS]
  refine ent tabOK hmix Tryz.func17 rfl rfl fun X0 hX => ?_
  simp only [Tryz.f17, go_sem]
  repeat' (first | simp only [*, go_sem, Nat.reduceLT, Nat.reduceLeDiff, Nat.reduceEqDiff, ↓reduceIte, Nat.reduceAdd, beq_self_eq_true, bne_self_eq_false, Bool.not_true] | ((with_reducible refine useF (sameNode_c) ?_ ?_ ?_); (focus exact rfl); (focus exact rfl)))
  refine loop_ren tabOK hmix (α := Nat) (fun k => ⟨55, [(2, .c (.ptr 0 0)), (3, .c (.ptr 1 0)), (5, .c (.p (.i .i64 k)))], [.box [.p (.i .i64 e), .p (.i .i64 nk), .p (.i .i64 nm), .p (.f nt), .p (.sl 1 (encB nd)), .p (.sl 1 (encB ad)), .p (.sl 1 (Go.Dm.encS al))], .box [.p (.i .i64 e), .p (.i .i64 nk), .p (.i .i64 nm), .p (.f nt), .p (.sl 1 (encB nd)), .p (.sl 1 (encB ad)), .p (.sl 1 (Go.Dm.encS al))]]⟩)
    (fun k => k ≤ al.length) (fun k => al.length - k) 0 (Nat.zero_le _) (.inl (weak_mk (by rw [hX]; rfl) rfl rfl (by simp [wk_cons, wk_nil, look_cons, closedD, closedC, ]))) ?_
  intro k hk
  by_cases hlt : k < al.length
  · have hx : al[k]? = some al[k] := List.getElem?_eq_getElem hlt
    have hg : (Go.Dm.encS al).getD k [] = [.s al[k]] := by simp [Go.Dm.encS, List.getD_eq_getElem?_getD, hx]
    have h1 : decide ((k : Int) < (al.length : Int)) = true := decide_eq_true (by omega)
    have hki : (k : Int) < (al.length : Int) := by omega
    have hk0 : (0 : Int) ≤ k := by omega
    have w1 : IntKind.i64.wrap ((k : Int) + 1) = k + 1 := wrap_i64 (by omega) (by omega)
    generalize al[k] = x at hx hg
    have e4 : (x != x) = false := by simp
    clear hx
    repeat' (first | simp only [*, go_sem, Nat.reduceLT, Nat.reduceEqDiff, ↓reduceIte, ] | ((refine vc_drawn (id := 6) tabOK hmix [] [0,1,2,3,4,5,6,7,8,9,10] (by decide +kernel) ?_); (repeat' (first | (refine ds_nil ?_) | ((refine ds_one ?_ rfl rfl ?_ ?_); (rotate_left 1); (focus ((repeat' (simp only [*, go_sem, Nat.reduceLT, Nat.reduceEqDiff, ↓reduceIte, beq_self_eq_true, Bool.not_true])); exact rfl)); (simp only [putF_some]))))))
    all_goals first | exact qr_n (k + 1) (by omega) (by omega) (weak_mk rfl rfl rfl (by simp [wk_cons, wk_nil, look_cons, closedD, closedC, ])) | trace_state
  · have h1 : decide ((k : Int) < (al.length : Int)) = false := decide_eq_false (by omega)
    repeat' (simp only [*, go_sem, Nat.reduceLT, Nat.reduceEqDiff, ↓reduceIte, ])
end Go.Proofs.YtnbgaphhhjnjlaaGreatDoor

end
