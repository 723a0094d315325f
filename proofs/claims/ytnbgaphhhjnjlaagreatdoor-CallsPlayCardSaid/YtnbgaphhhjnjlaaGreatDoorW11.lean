import Derived.Test.YtnbgaphhhjnjlaaGreatDoorW9
import Derived.Test.YtnbgaphhhjnjlaaGreatDoorN6
import Derived.Test.YtnbgaphhhjnjlaaGreatDoorD8
import Derived.Test.YtnbgaphhhjnjlaaGreatDoorW7
import Derived.Test.YtnbgaphhhjnjlaaGreatDoorCH

section
/-
  Contracts of the document's calls, the small ones: kinds, refusals, what is made, a rename.
-/

set_option linter.unusedSimpArgs false
set_option linter.unusedVariables false
namespace Go.Proofs.YtnbgaphhhjnjlaaGreatDoor
open Go Go.Dm Go.Proofs
set_option maxRecDepth 100000
set_option maxHeartbeats 16000000

theorem refTurns_c {k : Int} : DCalls Tryz.prog 19 [.c (.p (.i .i64 k))] [] fun r h => r = .c (.p (.b (turnsF k))) ∧ h = [] := by
  have e : turnsF k = (decide (1 ≤ k) && decide (k ≤ 7) || decide (9 ≤ k) && decide (k ≤ 11)) := by
    unfold turnsF
    rw [Bool.eq_iff_iff]
    simp only [Bool.and_eq_true, Bool.or_eq_true, decide_eq_true_eq, Bool.not_eq_true', beq_eq_false_iff_ne]
    omega
  rw [e]
  refine ent tabOK hmix Tryz.func19 rfl rfl fun X0 hX => ?_
  simp only [Tryz.f19, go_sem]
  repeat' (first | simp only [*, go_sem, Nat.reduceLT, Nat.reduceEqDiff, ↓reduceIte, ] | with_reducible refine vg_split (fun _ => ?_) (fun _ => ?_))
  all_goals first | (simp_all; done) | (simp_all; rfl) | (simp_all; omega) | trace_state

theorem refFollows_c {k : Int} : DCalls Tryz.prog 42 [.c (.p (.i .i64 k))] [] fun r h => r = .c (.p (.b (follF k))) ∧ h = [] := by
  unfold follF
  refine ent tabOK hmix Tryz.func42 rfl rfl fun X0 hX => ?_
  simp only [Tryz.f42, go_sem]
  repeat' (first | simp only [*, go_sem, Nat.reduceLT, Nat.reduceEqDiff, ↓reduceIte, ] | with_reducible refine vcond_split (fun _ => ?_) (fun _ => ?_))
  all_goals simp_all

theorem why_c {e : Int} : DCalls Tryz.prog 41 [.c (.p (.i .i64 e))] [] fun r h => r = .agg [.p (.i .i64 e), .p (.i .i64 0), .p (.i .i64 0), .p (.f 0), .p .nil, .p .nil, .p .nil] ∧ h = [] := by
  refine ent tabOK hmix Tryz.func41 rfl rfl fun X0 hX => ?_
  simp only [Tryz.f41, go_sem]
  repeat' (simp only [*, go_sem, Nat.reduceLT, Nat.reduceLeDiff, Nat.reduceEqDiff, ↓reduceIte, Nat.reduceAdd, ])

theorem targetB_c {d : List UInt8} (hd : d.length ≤ 9223372036854775807) : DCalls Tryz.prog 112 [.c (.p (.sl 1 (encB d)))] [] fun r h => r = .c (.p (.b (targetR d))) ∧ h = [] := by
  refine ent tabOK hmix Tryz.func112 rfl rfl fun X0 hX => ?_
  simp only [Tryz.f112, go_sem]
  repeat' (simp only [*, go_sem, Nat.reduceLT, ])
  refine loop_ren tabOK hmix (α := Nat) (fun k => ⟨23, [(0, .c (.p (.sl 1 (encB d)))), (3, .c (.p (.i .i64 k)))], []⟩) (fun k => k ≤ d.length ∧ (d.drop k).all (fun b => !((b.toNat : Int) == 0)) = d.all (fun b => !((b.toNat : Int) == 0))) (fun k => d.length - k) 0 ⟨Nat.zero_le _, rfl⟩ (.inl (weak_mk (by rw [hX]; rfl) rfl rfl (by simp [wk_cons, wk_nil, look_cons, closedD, closedC, ]))) ?_
  rintro k ⟨hk, hl⟩
  by_cases hlt : k < d.length
  · have hx : d[k]? = some d[k] := List.getElem?_eq_getElem hlt
    have hg := encB_at hx
    have hd := drop_at hx
    have h1 : decide ((k : Int) < (d.length : Int)) = true := decide_eq_true (by omega)
    have w1 : IntKind.i64.wrap ((k : Int) + 1) = k + 1 := wrap_i64 (by omega) (by omega)
    generalize d[k] = x at hx hg hd
    rw [hd, List.all_cons] at hl
    repeat' (first | simp only [*, go_sem, Nat.reduceLT, Nat.reduceEqDiff, ↓reduceIte, ] | with_reducible refine vcond_split (fun _ => ?_) (fun _ => ?_) | ((with_reducible refine And.intro ?_ ?_); (focus (omega))))
    · rename_i hb
      rw [hb, Bool.not_true, Bool.false_and] at hl
      simp only [targetR, ← hl, Bool.false_and]
    · rename_i hb
      rw [hb, Bool.not_false, Bool.true_and] at hl
      exact qr_n (k + 1) ⟨by omega, hl⟩ (by omega) (weak_mk rfl rfl rfl (by simp [wk_cons, wk_nil, look_cons, closedD, closedC, ]))
  · have h1 : decide ((k : Int) < (d.length : Int)) = false := decide_eq_false (by omega)
    rw [List.drop_of_length_le (by omega), List.all_nil] at hl
    unfold targetR
    rw [← hl]
    clear hl
    repeat' (first | simp only [*, go_sem, Nat.reduceLT, Nat.reduceEqDiff, ↓reduceIte, ] | with_reducible refine vg_split (fun _ => ?_) (fun _ => ?_))
    all_goals simp only [*, Bool.true_and, Bool.and_true, Bool.and_false, Bool.false_and, Bool.not_false, Bool.not_true]

theorem refCreate_c {t : List It} {p : List UInt8} {is : Bool} {ck : Int} {cp cq : List UInt8} {cm : Int} {ct : Nat} {ca cn : Int} {cd : List UInt8} (h : OkT t) (hp : p.length ≤ 1000000000) (hcd : cd.length ≤ 140737488355328)
    (hk : ck = 1 ∨ ck = 2 ∨ ck = 7) :
    DCalls Tryz.prog 81 [.c (.p (.sl 5 (encT t))), .agg (clc ck cp cq cm ct ca cn cd), .c (.p (.s p)), .c (.p (.b is))] [] fun r h =>
      r = .tup [.c (.p (.sl 5 (encT (createR t ⟨ck, cp, cq, cm, ct, ca, cn, cd⟩ p is).1))), .agg (anv (anE (createR t ⟨ck, cp, cq, cm, ct, ca, cn, cd⟩ p is).2))] ∧ h = [] := by
  have htl := h.len
  have htg := targetB_c (d := cd) (by omega)
  have hpl := Plain_c ct
  refine dcalls_wk ?_
  unfold createR anE nd0
  simp only
  cases is
  · generalize bitsF ct = bt at hpl ⊢
    have hput := fun (k m : Int) (d : List UInt8) (hd : d.length ≤ 1000000000) => putR_c (t := t) (p := p) (k := k) (m := m) (tt := bt) (d := d) (by omega) hp (fun x hx => Nat.le_trans (h.plen x hx) (by decide)) hd
    rcases hk with rfl | rfl | rfl
    · cases hm1 : decide (cm < 0)
      · cases hm2 : decide (4095 < cm)
        · have hpt : DCalls Tryz.prog 38 [.c (.p (.sl 5 (encT t))), .c (.p (.s p)), .agg [.p (.i .i64 2), .p (.i .i64 cm), .p (.f bt), .p .nil]] [] fun r h => r = .tup [.c (.p (.sl 5 (encT (putR t p ⟨2, cm, bt, []⟩).1))), .c (.p (.i .i64 (putR t p ⟨2, cm, bt, []⟩).2))] ∧ h = [] := by
            refine DCalls.wkargs ?_ (hput 2 cm [] (by simp))
            simp [wkDs, wkD, wkCs, wkC, wkP, encB_nil]
          clear hput htg
          refine ent tabOK hmix Tryz.func81 rfl rfl fun X0 hX => ?_
          simp only [Tryz.f81, go_sem]
          repeat' (first | simp only [*, go_sem, Nat.reduceLT, Nat.reduceLeDiff, Nat.reduceEqDiff, ↓reduceIte, Nat.reduceAdd, Int.reduceBEq, ] | ((refine vc_drawn (id := 1) tabOK hmix [6,7] [6,0,1,2,3,4,5,7] (by decide +kernel) ?_); (repeat' (first | (refine ds_nil ?_) | ((refine ds_chg ?_ ?_ rfl rfl rfl ?_ ?_); (rotate_left 2); (focus ((repeat' (simp only [*, go_sem, Nat.reduceLT, Nat.reduceLeDiff, Nat.reduceEqDiff, ↓reduceIte, Nat.reduceAdd, ])); ((refine And.intro ?_ ?_ <;> exact rfl)))); (simp only [putF_some, putF_none])) | ((refine ds_all ?_ rfl rfl rfl ?_ ?_); (rotate_left 1); (focus ((repeat' (first | exact allH_nil | refine allH_cons ?_ ?_)); (all_goals ((repeat' (first | simp only [*, go_sem, Nat.reduceLT, Nat.reduceLeDiff, Nat.reduceEqDiff, ↓reduceIte, Nat.reduceAdd, ] | ((with_reducible refine useF (hpl) ?_ ?_ ?_); (focus exact rfl); (focus exact rfl)))); (try (exact rfl)))))); (simp only [putF_some]))))) | ((with_reducible refine useF (why_c) ?_ ?_ ?_); (focus exact rfl); (focus exact rfl)) | ((with_reducible refine useN (hpt) ?_ ?_ ?_); (focus exact rfl); (focus exact fun _ => rfl)))
          all_goals exact ⟨.inr ⟨_, rfl⟩, .inr ⟨_, rfl⟩, .inr ⟨_, rfl⟩⟩
        · clear hput htg
          refine ent tabOK hmix Tryz.func81 rfl rfl fun X0 hX => ?_
          simp only [Tryz.f81, go_sem]
          repeat' (first | simp only [*, go_sem, Nat.reduceLT, Nat.reduceLeDiff, Nat.reduceEqDiff, ↓reduceIte, Nat.reduceAdd, Int.reduceBEq, ] | ((refine vc_drawn (id := 1) tabOK hmix [6,7] [6,0,1,2,3,4,5,7] (by decide +kernel) ?_); (repeat' (first | (refine ds_nil ?_) | ((refine ds_chg ?_ ?_ rfl rfl rfl ?_ ?_); (rotate_left 2); (focus ((repeat' (simp only [*, go_sem, Nat.reduceLT, Nat.reduceLeDiff, Nat.reduceEqDiff, ↓reduceIte, Nat.reduceAdd, ])); ((refine And.intro ?_ ?_ <;> exact rfl)))); (simp only [putF_some, putF_none])) | ((refine ds_all ?_ rfl rfl rfl ?_ ?_); (rotate_left 1); (focus ((repeat' (first | exact allH_nil | refine allH_cons ?_ ?_)); (all_goals ((repeat' (first | simp only [*, go_sem, Nat.reduceLT, Nat.reduceLeDiff, Nat.reduceEqDiff, ↓reduceIte, Nat.reduceAdd, ] | ((with_reducible refine useF (hpl) ?_ ?_ ?_); (focus exact rfl); (focus exact rfl)))); (try (exact rfl)))))); (simp only [putF_some]))))) | ((with_reducible refine useF (why_c) ?_ ?_ ?_); (focus exact rfl); (focus exact rfl)))
          all_goals exact ⟨.inr ⟨_, rfl⟩, .inr ⟨_, rfl⟩, .inr ⟨_, rfl⟩⟩
      · clear hput htg
        refine ent tabOK hmix Tryz.func81 rfl rfl fun X0 hX => ?_
        simp only [Tryz.f81, go_sem]
        repeat' (first | simp only [*, go_sem, Nat.reduceLT, Nat.reduceLeDiff, Nat.reduceEqDiff, ↓reduceIte, Nat.reduceAdd, Int.reduceBEq, ] | ((refine vc_drawn (id := 1) tabOK hmix [6,7] [6,0,1,2,3,4,5,7] (by decide +kernel) ?_); (repeat' (first | (refine ds_nil ?_) | ((refine ds_chg ?_ ?_ rfl rfl rfl ?_ ?_); (rotate_left 2); (focus ((repeat' (simp only [*, go_sem, Nat.reduceLT, Nat.reduceLeDiff, Nat.reduceEqDiff, ↓reduceIte, Nat.reduceAdd, ])); ((refine And.intro ?_ ?_ <;> exact rfl)))); (simp only [putF_some, putF_none])) | ((refine ds_all ?_ rfl rfl rfl ?_ ?_); (rotate_left 1); (focus ((repeat' (first | exact allH_nil | refine allH_cons ?_ ?_)); (all_goals ((repeat' (first | simp only [*, go_sem, Nat.reduceLT, Nat.reduceLeDiff, Nat.reduceEqDiff, ↓reduceIte, Nat.reduceAdd, ] | ((with_reducible refine useF (hpl) ?_ ?_ ?_); (focus exact rfl); (focus exact rfl)))); (try (exact rfl)))))); (simp only [putF_some]))))) | ((with_reducible refine useF (why_c) ?_ ?_ ?_); (focus exact rfl); (focus exact rfl)))
        all_goals exact ⟨.inr ⟨_, rfl⟩, .inr ⟨_, rfl⟩, .inr ⟨_, rfl⟩⟩
    · cases hm1 : decide (cm < 0)
      · cases hm2 : decide (4095 < cm)
        · cases hbg : decide ((2000 : Int) < (cd.length : Int))
          · have hpt := hput 1 cm cd (by have := of_decide_eq_false hbg; omega)
            clear hput htg
            refine ent tabOK hmix Tryz.func81 rfl rfl fun X0 hX => ?_
            simp only [Tryz.f81, go_sem]
            repeat' (first | simp only [*, go_sem, Nat.reduceLT, Nat.reduceLeDiff, Nat.reduceEqDiff, ↓reduceIte, Nat.reduceAdd, Int.reduceBEq, beq_self_eq_true, ] | ((refine vc_drawn (id := 1) tabOK hmix [6,7] [6,0,1,2,3,4,5,7] (by decide +kernel) ?_); (repeat' (first | (refine ds_nil ?_) | ((refine ds_chg ?_ ?_ rfl rfl rfl ?_ ?_); (rotate_left 2); (focus ((repeat' (simp only [*, go_sem, Nat.reduceLT, Nat.reduceLeDiff, Nat.reduceEqDiff, ↓reduceIte, Nat.reduceAdd, ])); ((refine And.intro ?_ ?_ <;> exact rfl)))); (simp only [putF_some, putF_none])) | ((refine ds_all ?_ rfl rfl rfl ?_ ?_); (rotate_left 1); (focus ((repeat' (first | exact allH_nil | refine allH_cons ?_ ?_)); (all_goals ((repeat' (first | simp only [*, go_sem, Nat.reduceLT, Nat.reduceLeDiff, Nat.reduceEqDiff, ↓reduceIte, Nat.reduceAdd, ] | ((with_reducible refine useF (hpl) ?_ ?_ ?_); (focus exact rfl); (focus exact rfl)))); (try (exact rfl)))))); (simp only [putF_some]))))) | ((with_reducible refine useF (why_c) ?_ ?_ ?_); (focus exact rfl); (focus exact rfl)) | ((with_reducible refine useN (hpt) ?_ ?_ ?_); (focus exact rfl); (focus exact fun _ => rfl)) | ((with_reducible apply DCalls.frz); (focus exact rfl); (focus exact rfl)) | ((with_reducible refine And.intro ?_ ?_); (focus (first | omega | decide))))
            all_goals exact ⟨.inr ⟨_, rfl⟩, .inr ⟨_, rfl⟩, .inr ⟨_, rfl⟩⟩
          · clear hput htg
            refine ent tabOK hmix Tryz.func81 rfl rfl fun X0 hX => ?_
            simp only [Tryz.f81, go_sem]
            repeat' (first | simp only [*, go_sem, Nat.reduceLT, Nat.reduceLeDiff, Nat.reduceEqDiff, ↓reduceIte, Nat.reduceAdd, Int.reduceBEq, beq_self_eq_true, ] | ((refine vc_drawn (id := 1) tabOK hmix [6,7] [6,0,1,2,3,4,5,7] (by decide +kernel) ?_); (repeat' (first | (refine ds_nil ?_) | ((refine ds_chg ?_ ?_ rfl rfl rfl ?_ ?_); (rotate_left 2); (focus ((repeat' (simp only [*, go_sem, Nat.reduceLT, Nat.reduceLeDiff, Nat.reduceEqDiff, ↓reduceIte, Nat.reduceAdd, ])); ((refine And.intro ?_ ?_ <;> exact rfl)))); (simp only [putF_some, putF_none])) | ((refine ds_all ?_ rfl rfl rfl ?_ ?_); (rotate_left 1); (focus ((repeat' (first | exact allH_nil | refine allH_cons ?_ ?_)); (all_goals ((repeat' (first | simp only [*, go_sem, Nat.reduceLT, Nat.reduceLeDiff, Nat.reduceEqDiff, ↓reduceIte, Nat.reduceAdd, ] | ((with_reducible refine useF (hpl) ?_ ?_ ?_); (focus exact rfl); (focus exact rfl)))); (try (exact rfl)))))); (simp only [putF_some]))))) | ((with_reducible refine useF (why_c) ?_ ?_ ?_); (focus exact rfl); (focus exact rfl)) | ((with_reducible refine And.intro ?_ ?_); (focus (first | omega | decide))))
            all_goals exact ⟨.inr ⟨_, rfl⟩, .inr ⟨_, rfl⟩, .inr ⟨_, rfl⟩⟩
        · clear hput htg
          refine ent tabOK hmix Tryz.func81 rfl rfl fun X0 hX => ?_
          simp only [Tryz.f81, go_sem]
          repeat' (first | simp only [*, go_sem, Nat.reduceLT, Nat.reduceLeDiff, Nat.reduceEqDiff, ↓reduceIte, Nat.reduceAdd, Int.reduceBEq, beq_self_eq_true, ] | ((refine vc_drawn (id := 1) tabOK hmix [6,7] [6,0,1,2,3,4,5,7] (by decide +kernel) ?_); (repeat' (first | (refine ds_nil ?_) | ((refine ds_chg ?_ ?_ rfl rfl rfl ?_ ?_); (rotate_left 2); (focus ((repeat' (simp only [*, go_sem, Nat.reduceLT, Nat.reduceLeDiff, Nat.reduceEqDiff, ↓reduceIte, Nat.reduceAdd, ])); ((refine And.intro ?_ ?_ <;> exact rfl)))); (simp only [putF_some, putF_none])) | ((refine ds_all ?_ rfl rfl rfl ?_ ?_); (rotate_left 1); (focus ((repeat' (first | exact allH_nil | refine allH_cons ?_ ?_)); (all_goals ((repeat' (first | simp only [*, go_sem, Nat.reduceLT, Nat.reduceLeDiff, Nat.reduceEqDiff, ↓reduceIte, Nat.reduceAdd, ] | ((with_reducible refine useF (hpl) ?_ ?_ ?_); (focus exact rfl); (focus exact rfl)))); (try (exact rfl)))))); (simp only [putF_some]))))) | ((with_reducible refine useF (why_c) ?_ ?_ ?_); (focus exact rfl); (focus exact rfl)) | ((with_reducible refine And.intro ?_ ?_); (focus (first | omega | decide))))
          all_goals exact ⟨.inr ⟨_, rfl⟩, .inr ⟨_, rfl⟩, .inr ⟨_, rfl⟩⟩
      · clear hput htg
        refine ent tabOK hmix Tryz.func81 rfl rfl fun X0 hX => ?_
        simp only [Tryz.f81, go_sem]
        repeat' (first | simp only [*, go_sem, Nat.reduceLT, Nat.reduceLeDiff, Nat.reduceEqDiff, ↓reduceIte, Nat.reduceAdd, Int.reduceBEq, beq_self_eq_true, ] | ((refine vc_drawn (id := 1) tabOK hmix [6,7] [6,0,1,2,3,4,5,7] (by decide +kernel) ?_); (repeat' (first | (refine ds_nil ?_) | ((refine ds_chg ?_ ?_ rfl rfl rfl ?_ ?_); (rotate_left 2); (focus ((repeat' (simp only [*, go_sem, Nat.reduceLT, Nat.reduceLeDiff, Nat.reduceEqDiff, ↓reduceIte, Nat.reduceAdd, ])); ((refine And.intro ?_ ?_ <;> exact rfl)))); (simp only [putF_some, putF_none])) | ((refine ds_all ?_ rfl rfl rfl ?_ ?_); (rotate_left 1); (focus ((repeat' (first | exact allH_nil | refine allH_cons ?_ ?_)); (all_goals ((repeat' (first | simp only [*, go_sem, Nat.reduceLT, Nat.reduceLeDiff, Nat.reduceEqDiff, ↓reduceIte, Nat.reduceAdd, ] | ((with_reducible refine useF (hpl) ?_ ?_ ?_); (focus exact rfl); (focus exact rfl)))); (try (exact rfl)))))); (simp only [putF_some]))))) | ((with_reducible refine useF (why_c) ?_ ?_ ?_); (focus exact rfl); (focus exact rfl)) | ((with_reducible refine And.intro ?_ ?_); (focus (first | omega | decide))))
        all_goals exact ⟨.inr ⟨_, rfl⟩, .inr ⟨_, rfl⟩, .inr ⟨_, rfl⟩⟩
    · cases htr : targetR cd
      · rw [htr] at htg
        clear hput
        refine ent tabOK hmix Tryz.func81 rfl rfl fun X0 hX => ?_
        simp only [Tryz.f81, go_sem]
        repeat' (first | simp only [*, go_sem, Nat.reduceLT, Nat.reduceLeDiff, Nat.reduceEqDiff, ↓reduceIte, Nat.reduceAdd, Int.reduceLT, Int.reduceBEq, beq_self_eq_true, Bool.not_false] | ((refine vc_drawn (id := 1) tabOK hmix [6,7] [6,0,1,2,3,4,5,7] (by decide +kernel) ?_); (repeat' (first | (refine ds_nil ?_) | ((refine ds_chg ?_ ?_ rfl rfl rfl ?_ ?_); (rotate_left 2); (focus ((repeat' (simp only [*, go_sem, Nat.reduceLT, Nat.reduceLeDiff, Nat.reduceEqDiff, ↓reduceIte, Nat.reduceAdd, ])); ((refine And.intro ?_ ?_ <;> exact rfl)))); (simp only [putF_some, putF_none])) | ((refine ds_all ?_ rfl rfl rfl ?_ ?_); (rotate_left 1); (focus ((repeat' (first | exact allH_nil | refine allH_cons ?_ ?_)); (all_goals ((repeat' (first | simp only [*, go_sem, Nat.reduceLT, Nat.reduceLeDiff, Nat.reduceEqDiff, ↓reduceIte, Nat.reduceAdd, ] | ((with_reducible refine useF (hpl) ?_ ?_ ?_); (focus exact rfl); (focus exact rfl)))); (try (exact rfl)))))); (simp only [putF_some]))))) | ((with_reducible refine useF (why_c) ?_ ?_ ?_); (focus exact rfl); (focus exact rfl)) | ((with_reducible refine useN (htg) ?_ ?_ ?_); (focus exact rfl); (focus exact fun _ => rfl)) | ((with_reducible apply DCalls.frz); (focus exact rfl); (focus exact rfl)) | ((with_reducible refine And.intro ?_ ?_); (focus (first | omega | decide))))
        all_goals exact ⟨.inr ⟨_, rfl⟩, .inr ⟨_, rfl⟩, .inr ⟨_, rfl⟩⟩
      · have hln : cd.length ≤ 120 := by
          unfold targetR at htr
          simp only [Bool.and_eq_true, decide_eq_true_eq] at htr
          omega
        have hpt := hput 3 511 cd (by omega)
        rw [htr] at htg
        clear hput
        refine ent tabOK hmix Tryz.func81 rfl rfl fun X0 hX => ?_
        simp only [Tryz.f81, go_sem]
        repeat' (first | simp only [*, go_sem, Nat.reduceLT, Nat.reduceLeDiff, Nat.reduceEqDiff, ↓reduceIte, Nat.reduceAdd, Int.reduceLT, Int.reduceBEq, beq_self_eq_true, Bool.not_true] | ((refine vc_drawn (id := 1) tabOK hmix [6,7] [6,0,1,2,3,4,5,7] (by decide +kernel) ?_); (repeat' (first | (refine ds_nil ?_) | ((refine ds_chg ?_ ?_ rfl rfl rfl ?_ ?_); (rotate_left 2); (focus ((repeat' (simp only [*, go_sem, Nat.reduceLT, Nat.reduceLeDiff, Nat.reduceEqDiff, ↓reduceIte, Nat.reduceAdd, ])); ((refine And.intro ?_ ?_ <;> exact rfl)))); (simp only [putF_some, putF_none])) | ((refine ds_all ?_ rfl rfl rfl ?_ ?_); (rotate_left 1); (focus ((repeat' (first | exact allH_nil | refine allH_cons ?_ ?_)); (all_goals ((repeat' (first | simp only [*, go_sem, Nat.reduceLT, Nat.reduceLeDiff, Nat.reduceEqDiff, ↓reduceIte, Nat.reduceAdd, ] | ((with_reducible refine useF (hpl) ?_ ?_ ?_); (focus exact rfl); (focus exact rfl)))); (try (exact rfl)))))); (simp only [putF_some]))))) | ((with_reducible refine useF (why_c) ?_ ?_ ?_); (focus exact rfl); (focus exact rfl)) | ((with_reducible refine useN (htg) ?_ ?_ ?_); (focus exact rfl); (focus exact fun _ => rfl)) | ((with_reducible refine useN (hpt) ?_ ?_ ?_); (focus exact rfl); (focus exact fun _ => rfl)) | ((with_reducible apply DCalls.frz); (focus exact rfl); (focus exact rfl)) | ((with_reducible refine And.intro ?_ ?_); (focus (first | omega | decide))))
        all_goals exact ⟨.inr ⟨_, rfl⟩, .inr ⟨_, rfl⟩, .inr ⟨_, rfl⟩⟩
  · rcases hk with rfl | rfl | rfl
    all_goals
      refine ent tabOK hmix Tryz.func81 rfl rfl fun X0 hX => ?_
      simp only [Tryz.f81, go_sem]
      repeat' (first | simp only [*, go_sem, Nat.reduceLT, Nat.reduceLeDiff, Nat.reduceEqDiff, ↓reduceIte, Nat.reduceAdd, ] | ((refine vc_drawn (id := 1) tabOK hmix [6,7] [6,0,1,2,3,4,5,7] (by decide +kernel) ?_); (repeat' (first | (refine ds_nil ?_) | ((refine ds_chg ?_ ?_ rfl rfl rfl ?_ ?_); (rotate_left 2); (focus ((repeat' (simp only [*, go_sem, Nat.reduceLT, Nat.reduceLeDiff, Nat.reduceEqDiff, ↓reduceIte, Nat.reduceAdd, ])); ((refine And.intro ?_ ?_ <;> exact rfl)))); (simp only [putF_some, putF_none])) | ((refine ds_all ?_ rfl rfl rfl ?_ ?_); (rotate_left 1); (focus ((repeat' (first | exact allH_nil | refine allH_cons ?_ ?_)); (all_goals ((repeat' (first | simp only [*, go_sem, Nat.reduceLT, Nat.reduceLeDiff, Nat.reduceEqDiff, ↓reduceIte, Nat.reduceAdd, ] | ((with_reducible refine useF (hpl) ?_ ?_ ?_); (focus exact rfl); (focus exact rfl)))); (try (exact rfl)))))); (simp only [putF_some]))))) | ((with_reducible refine useF (why_c) ?_ ?_ ?_); (focus exact rfl); (focus exact rfl)))
    all_goals exact ⟨.inr ⟨_, rfl⟩, .inr ⟨_, rfl⟩, .inr ⟨_, rfl⟩⟩

theorem refRename_c {t : List It} {p : List UInt8} {dir : Bool} {ck : Int} {cp cq : List UInt8} {cm : Int} {ct : Nat} {ca cn : Int} {cd : List UInt8} (h : OkT t) (hp : p.length ≤ 1000000000) (hcq : cq.length ≤ 9223372036854775807) :
    DCalls Tryz.prog 85 [.c (.p (.sl 5 (encT t))), .agg (clc ck cp cq cm ct ca cn cd), .c (.p (.s p)), .c (.p (.b dir))] [] fun r h =>
      r = .tup [.c (.p (.sl 5 (encT (renameR t p dir cq).1))), .agg (anv (anE (renameR t p dir cq).2))] ∧ h = [] := by
  have htl := h.len
  have hwk := refWalk_c (s := cq) (fo := false) h hcq
  have hql := walkF_len (t := t) (s := cq) (fo := false)
  refine dcalls_wk ?_
  unfold renameR anE nd0
  generalize walkF t cq false = W at hwk hql ⊢
  obtain ⟨q, is, e⟩ := W
  simp only at hwk hql ⊢
  cases q0 : (e == 0)
  · have q1 : (e != 0) = true := by rw [bne, q0]; rfl
    refine ent tabOK hmix Tryz.func85 rfl rfl fun X0 hX => ?_
    simp only [Tryz.f85, go_sem]
    repeat' (first | simp only [*, go_sem, Nat.reduceLT, Nat.reduceLeDiff, Nat.reduceEqDiff, ↓reduceIte, Nat.reduceAdd, ] | ((with_reducible refine useN (hwk) ?_ ?_ ?_); (focus exact rfl); (focus exact fun _ => rfl)) | ((with_reducible refine useF (why_c) ?_ ?_ ?_); (focus exact rfl); (focus exact rfl)))
    all_goals exact ⟨.inr ⟨_, rfl⟩, .inr ⟨_, rfl⟩, .inr ⟨_, rfl⟩⟩
  · have he := eq_of_beq q0
    subst he
    have hid := isDirR_c (t := t) (p := q) (by omega)
    have hnm := refNames_c (p := q) h
    have hrm := removeR_c (t := t) (p := q) (by omega) (by omega) fun x hx => Nat.le_trans (h.plen x hx) (by decide)
    have hrl := h.remove q
    have hmv := moveR_c (t := removeR t q) (a := p) (b := q) (by have := hrl.len; omega) hp (by omega) fun x hx => Nat.le_trans (hrl.plen x hx) (by decide)
    have hm2 := moveR_c (t := t) (a := p) (b := q) (by omega) hp (by omega) fun x hx => Nat.le_trans (h.plen x hx) (by decide)
    have hbl := belowR_c (p := p) (q := q) (by omega) (by omega)
    generalize namesF t q = N at hnm ⊢
    generalize isDirR t q = D at hid ⊢
    generalize moveR (removeR t q) p q = M at hmv ⊢
    generalize moveR t p q = M2 at hm2 ⊢
    generalize removeR t q = R at hrm hmv
    clear hrl
    cases hz : (p == [])
    · cases hz2 : (q == [])
      · cases hpq : (p == q)
        · cases hb : belowR p q
          · cases is
            ·
              refine ent tabOK hmix Tryz.func85 rfl rfl fun X0 hX => ?_
              simp only [Tryz.f85, go_sem]
              repeat' (first | simp only [*, go_sem, Nat.reduceLT, Nat.reduceLeDiff, Nat.reduceEqDiff, ↓reduceIte, Nat.reduceAdd, bne_self_eq_false, ] | ((with_reducible refine useN (hwk) ?_ ?_ ?_); (focus exact rfl); (focus exact fun _ => rfl)) | ((with_reducible refine useF (why_c) ?_ ?_ ?_); (focus exact rfl); (focus exact rfl)) | ((with_reducible refine useF (hbl) ?_ ?_ ?_); (focus exact rfl); (focus exact rfl)) | ((with_reducible refine useN (hm2) ?_ ?_ ?_); (focus exact rfl); (focus exact fun _ => rfl)))
              all_goals exact ⟨.inr ⟨_, rfl⟩, .inr ⟨_, rfl⟩, .inr ⟨_, rfl⟩⟩
            · cases dir <;> cases D
              all_goals
                refine ent tabOK hmix Tryz.func85 rfl rfl fun X0 hX => ?_
                simp only [Tryz.f85, go_sem]
                repeat' (first | simp only [*, go_sem, Nat.reduceLT, Nat.reduceLeDiff, Nat.reduceEqDiff, ↓reduceIte, Nat.reduceAdd, bne_self_eq_false, Bool.not_true, Bool.not_false] | ((with_reducible refine useN (hwk) ?_ ?_ ?_); (focus exact rfl); (focus exact fun _ => rfl)) | ((with_reducible refine useF (why_c) ?_ ?_ ?_); (focus exact rfl); (focus exact rfl)) | ((with_reducible refine useF (hbl) ?_ ?_ ?_); (focus exact rfl); (focus exact rfl)) | ((with_reducible refine useF (hid) ?_ ?_ ?_); (focus exact rfl); (focus exact rfl)) | ((with_reducible refine useN (hnm) ?_ ?_ ?_); (focus exact rfl); (focus exact fun _ => rfl)) | ((with_reducible refine useN (hrm) ?_ ?_ ?_); (focus exact rfl); (focus exact fun _ => rfl)) | ((with_reducible refine useN (hmv) ?_ ?_ ?_); (focus exact rfl); (focus exact fun _ => rfl)) | with_reducible refine vcond_split (fun _ => ?_) (fun _ => ?_))
              all_goals exact ⟨.inr ⟨_, rfl⟩, .inr ⟨_, rfl⟩, .inr ⟨_, rfl⟩⟩
          ·
            refine ent tabOK hmix Tryz.func85 rfl rfl fun X0 hX => ?_
            simp only [Tryz.f85, go_sem]
            repeat' (first | simp only [*, go_sem, Nat.reduceLT, Nat.reduceLeDiff, Nat.reduceEqDiff, ↓reduceIte, Nat.reduceAdd, bne_self_eq_false, ] | ((with_reducible refine useN (hwk) ?_ ?_ ?_); (focus exact rfl); (focus exact fun _ => rfl)) | ((with_reducible refine useF (why_c) ?_ ?_ ?_); (focus exact rfl); (focus exact rfl)) | ((with_reducible refine useF (hbl) ?_ ?_ ?_); (focus exact rfl); (focus exact rfl)))
            all_goals exact ⟨.inr ⟨_, rfl⟩, .inr ⟨_, rfl⟩, .inr ⟨_, rfl⟩⟩
        ·
          refine ent tabOK hmix Tryz.func85 rfl rfl fun X0 hX => ?_
          simp only [Tryz.f85, go_sem]
          repeat' (first | simp only [*, go_sem, Nat.reduceLT, Nat.reduceLeDiff, Nat.reduceEqDiff, ↓reduceIte, Nat.reduceAdd, bne_self_eq_false, ] | ((with_reducible refine useN (hwk) ?_ ?_ ?_); (focus exact rfl); (focus exact fun _ => rfl)) | ((with_reducible refine useF (why_c) ?_ ?_ ?_); (focus exact rfl); (focus exact rfl)))
          all_goals exact ⟨.inr ⟨_, rfl⟩, .inr ⟨_, rfl⟩, .inr ⟨_, rfl⟩⟩
      ·
        refine ent tabOK hmix Tryz.func85 rfl rfl fun X0 hX => ?_
        simp only [Tryz.f85, go_sem]
        repeat' (first | simp only [*, go_sem, Nat.reduceLT, Nat.reduceLeDiff, Nat.reduceEqDiff, ↓reduceIte, Nat.reduceAdd, bne_self_eq_false, ] | ((with_reducible refine useN (hwk) ?_ ?_ ?_); (focus exact rfl); (focus exact fun _ => rfl)) | ((with_reducible refine useF (why_c) ?_ ?_ ?_); (focus exact rfl); (focus exact rfl)))
        all_goals exact ⟨.inr ⟨_, rfl⟩, .inr ⟨_, rfl⟩, .inr ⟨_, rfl⟩⟩
    ·
      refine ent tabOK hmix Tryz.func85 rfl rfl fun X0 hX => ?_
      simp only [Tryz.f85, go_sem]
      repeat' (first | simp only [*, go_sem, Nat.reduceLT, Nat.reduceLeDiff, Nat.reduceEqDiff, ↓reduceIte, Nat.reduceAdd, bne_self_eq_false, ] | ((with_reducible refine useN (hwk) ?_ ?_ ?_); (focus exact rfl); (focus exact fun _ => rfl)) | ((with_reducible refine useF (why_c) ?_ ?_ ?_); (focus exact rfl); (focus exact rfl)))
      all_goals exact ⟨.inr ⟨_, rfl⟩, .inr ⟨_, rfl⟩, .inr ⟨_, rfl⟩⟩
end Go.Proofs.YtnbgaphhhjnjlaaGreatDoor

end

section
/-
  Contracts of the document's calls: what a call does at a path, by its kind; a call.
-/

set_option linter.unusedSimpArgs false
set_option linter.unusedVariables false
namespace Go.Proofs.YtnbgaphhhjnjlaaGreatDoor
open Go Go.Dm Go.Proofs
set_option maxRecDepth 100000
set_option maxHeartbeats 16000000

section
variable {t : List It} {p : List UInt8} {is : Bool} {cp cq : List UInt8} {cm : Int} {ct : Nat} {ca cn : Int} {cd : List UInt8}

abbrev DoAt (t : List It) (p : List UInt8) (is : Bool) (ck : Int) (cp cq : List UInt8) (cm : Int) (ct : Nat) (ca cn : Int) (cd : List UInt8) : Prop :=
    DCalls Tryz.prog 43 [.c (.p (.sl 5 (encT t))), .agg (clc ck cp cq cm ct ca cn cd), .c (.p (.s p)), .c (.p (.b is))] [] fun r h =>
      r = .tup [.c (.p (.sl 5 (encT (doR1 t ⟨ck, cp, cq, cm, ct, ca, cn, cd⟩ p is).1))), .agg (anv (doR1 t ⟨ck, cp, cq, cm, ct, ca, cn, cd⟩ p is).2)] ∧ h = []

theorem do_make {ck : Int} (h : OkT t) (hp : p.length ≤ 1000000000) (hcd : cd.length ≤ 140737488355328) (hk : ck = 1 ∨ ck = 2 ∨ ck = 7) : DoAt t p is ck cp cq cm ct ca cn cd := by
  have htl := h.len
  have hget := getR_c (t := t) (p := p) (by omega)
  have hid := isDirR_c (t := t) (p := p) (by omega)
  have hcr := refCreate_c (p := p) (is := is) (cp := cp) (cq := cq) (cm := cm) (ct := ct) (ca := ca) (cn := cn) h hp hcd hk
  have e : doR1 t ⟨ck, cp, cq, cm, ct, ca, cn, cd⟩ p is = ((createR t ⟨ck, cp, cq, cm, ct, ca, cn, cd⟩ p is).1, anE (createR t ⟨ck, cp, cq, cm, ct, ca, cn, cd⟩ p is).2) := by
    rcases hk with rfl | rfl | rfl <;> rfl
  unfold DoAt
  rw [e]
  generalize createR t ⟨ck, cp, cq, cm, ct, ca, cn, cd⟩ p is = C at hcr ⊢
  generalize (getR t p).getD nd0 = n at hget
  generalize (getR t p).isSome = b at hget
  obtain ⟨nk, nm, nt, nd⟩ := n
  generalize isDirR t p = D at hid
  refine dcalls_wk ?_
  rcases hk with rfl | rfl | rfl
  all_goals cases is
  all_goals
    refine ent tabOK hmix Tryz.func43 rfl rfl fun X0 hX => ?_
    simp only [Tryz.f43, go_sem]
    repeat' (first | simp only [*, go_sem, Nat.reduceLT, Nat.reduceLeDiff, Nat.reduceEqDiff, ↓reduceIte, Nat.reduceAdd, Int.reduceBEq, beq_self_eq_true, ] | ((with_reducible refine useN (hget) ?_ ?_ ?_); (focus exact rfl); (focus exact fun _ => rfl)) | ((with_reducible refine useF (hid) ?_ ?_ ?_); (focus exact rfl); (focus exact rfl)) | ((with_reducible refine useN (hcr) ?_ ?_ ?_); (focus exact rfl); (focus exact fun _ => rfl)))

theorem do_cut (h : OkT t) : DoAt t p is 4 cp cq cm ct ca cn cd := by
  have htl := h.len
  have hget := getR_c (t := t) (p := p) (by omega)
  have hid := isDirR_c (t := t) (p := p) (by omega)
  have hnd := h.getd p
  unfold DoAt
  refine dcalls_wk ?_
  unfold doR1 anE
  simp only
  generalize (getR t p).getD nd0 = n at hget hnd ⊢
  generalize (getR t p).isSome = b at hget
  obtain ⟨nk, nm, nt, nd⟩ := n
  simp only at hget hnd ⊢
  generalize isDirR t p = D at hid ⊢
  cases is
  ·
    refine ent tabOK hmix Tryz.func43 rfl rfl fun X0 hX => ?_
    simp only [Tryz.f43, go_sem]
    repeat' (first | simp only [*, go_sem, Nat.reduceLT, Nat.reduceLeDiff, Nat.reduceEqDiff, ↓reduceIte, Nat.reduceAdd, Int.reduceBEq, Bool.not_false] | ((with_reducible refine useN (hget) ?_ ?_ ?_); (focus exact rfl); (focus exact fun _ => rfl)) | ((with_reducible refine useF (why_c) ?_ ?_ ?_); (focus exact rfl); (focus exact rfl)))
    all_goals first | exact ⟨rfl, rfl, rfl, .inr ⟨_, rfl⟩, .inr ⟨_, rfl⟩, .inr ⟨_, rfl⟩⟩ | exact ⟨.inr ⟨_, rfl⟩, .inr ⟨_, rfl⟩, .inr ⟨_, rfl⟩⟩
  · cases D
    · cases h0 : decide (cn < 0)
      · obtain ⟨f, rfl⟩ : ∃ f : Nat, cn = f := ⟨cn.toNat, by simp at h0; omega⟩
        rw [Int.toNat_natCast]
        cases h1 : decide ((nd.length : Int) < (f : Int))
        · have h1' : f ≤ nd.length := by simp at h1; omega
          have hf0 : (0 : Int) ≤ (f : Int) := by omega
          have hfl : (f : Int) ≤ (nd.length : Int) := by omega
          have hst := setR_c (t := t) (p := p) (k := nk) (m := nm) (tt := nt) (d := nd.take f) (by omega)
          refine ent tabOK hmix Tryz.func43 rfl rfl fun X0 hX => ?_
          simp only [Tryz.f43, go_sem]
          repeat' (first | simp only [*, go_sem, Nat.reduceLT, Nat.reduceLeDiff, Nat.reduceEqDiff, ↓reduceIte, Nat.reduceAdd, Int.reduceLE, Int.reduceToNat, Int.reduceBEq, beq_self_eq_true, Bool.not_true] | ((with_reducible refine useN (hget) ?_ ?_ ?_); (focus exact rfl); (focus exact fun _ => rfl)) | ((with_reducible refine useF (hid) ?_ ?_ ?_); (focus exact rfl); (focus exact rfl)) | ((with_reducible refine useF (why_c) ?_ ?_ ?_); (focus exact rfl); (focus exact rfl)) | ((with_reducible refine useN (hst) ?_ ?_ ?_); (focus exact rfl); (focus exact fun _ => rfl)))
          all_goals first | exact ⟨rfl, rfl, rfl, .inr ⟨_, rfl⟩, .inr ⟨_, rfl⟩, .inr ⟨_, rfl⟩⟩ | exact ⟨.inr ⟨_, rfl⟩, .inr ⟨_, rfl⟩, .inr ⟨_, rfl⟩⟩
        ·
          refine ent tabOK hmix Tryz.func43 rfl rfl fun X0 hX => ?_
          simp only [Tryz.f43, go_sem]
          repeat' (first | simp only [*, go_sem, Nat.reduceLT, Nat.reduceLeDiff, Nat.reduceEqDiff, ↓reduceIte, Nat.reduceAdd, Int.reduceBEq, beq_self_eq_true, Bool.not_true] | ((with_reducible refine useN (hget) ?_ ?_ ?_); (focus exact rfl); (focus exact fun _ => rfl)) | ((with_reducible refine useF (hid) ?_ ?_ ?_); (focus exact rfl); (focus exact rfl)) | ((with_reducible refine useF (why_c) ?_ ?_ ?_); (focus exact rfl); (focus exact rfl)))
          all_goals first | exact ⟨rfl, rfl, rfl, .inr ⟨_, rfl⟩, .inr ⟨_, rfl⟩, .inr ⟨_, rfl⟩⟩ | exact ⟨.inr ⟨_, rfl⟩, .inr ⟨_, rfl⟩, .inr ⟨_, rfl⟩⟩
      ·
        refine ent tabOK hmix Tryz.func43 rfl rfl fun X0 hX => ?_
        simp only [Tryz.f43, go_sem]
        repeat' (first | simp only [*, go_sem, Nat.reduceLT, Nat.reduceLeDiff, Nat.reduceEqDiff, ↓reduceIte, Nat.reduceAdd, Int.reduceBEq, beq_self_eq_true, Bool.not_true] | ((with_reducible refine useN (hget) ?_ ?_ ?_); (focus exact rfl); (focus exact fun _ => rfl)) | ((with_reducible refine useF (hid) ?_ ?_ ?_); (focus exact rfl); (focus exact rfl)) | ((with_reducible refine useF (why_c) ?_ ?_ ?_); (focus exact rfl); (focus exact rfl)))
        all_goals first | exact ⟨rfl, rfl, rfl, .inr ⟨_, rfl⟩, .inr ⟨_, rfl⟩, .inr ⟨_, rfl⟩⟩ | exact ⟨.inr ⟨_, rfl⟩, .inr ⟨_, rfl⟩, .inr ⟨_, rfl⟩⟩
    ·
      refine ent tabOK hmix Tryz.func43 rfl rfl fun X0 hX => ?_
      simp only [Tryz.f43, go_sem]
      repeat' (first | simp only [*, go_sem, Nat.reduceLT, Nat.reduceLeDiff, Nat.reduceEqDiff, ↓reduceIte, Nat.reduceAdd, Int.reduceBEq, beq_self_eq_true, Bool.not_true] | ((with_reducible refine useN (hget) ?_ ?_ ?_); (focus exact rfl); (focus exact fun _ => rfl)) | ((with_reducible refine useF (hid) ?_ ?_ ?_); (focus exact rfl); (focus exact rfl)) | ((with_reducible refine useF (why_c) ?_ ?_ ?_); (focus exact rfl); (focus exact rfl)))
      all_goals first | exact ⟨rfl, rfl, rfl, .inr ⟨_, rfl⟩, .inr ⟨_, rfl⟩, .inr ⟨_, rfl⟩⟩ | exact ⟨.inr ⟨_, rfl⟩, .inr ⟨_, rfl⟩, .inr ⟨_, rfl⟩⟩
end
end Go.Proofs.YtnbgaphhhjnjlaaGreatDoor

end
