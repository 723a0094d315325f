import Derived.Test.YtjpmajeekikdhaaGreatDoorN12
import Derived.Test.YtjpmajeekikdhaaGreatDoorG0
import Derived.Test.YtjpmajeekikdhaaGreatDoorLA
import Derived.Test.YtjpmajeekikdhaaGreatDoorG1

section
/-
  Contract: may a list of entries be a layer, as the document asks it.
-/

set_option linter.unusedSimpArgs false
set_option linter.unusedVariables false
namespace Go.Proofs.YtjpmajeekikdhaaGreatDoor
open Go Go.Dm Go.Proofs
set_option maxRecDepth 100000
set_option maxHeartbeats 8000000

theorem openR_step {l : List En} {k j : Nat} {z : En} {p : List UInt8} (h : (l.take k)[j]? = some z) : ((l.take k).drop j).all (fun y => !(shutE y && belowR y.p p)) = (!(shutE z && belowR z.p p) && ((l.take k).drop (j + 1)).all (fun y => !(shutE y && belowR y.p p))) := by
  obtain ⟨hj, rfl⟩ := List.getElem?_eq_some_iff.1 h
  rw [List.drop_eq_getElem_cons hj, List.all_cons]
/-- What an entry's kind asks of it. -/
def kindMay (x : En) : Bool := if x.k == 2 then !x.o && sameNd x.n nd0 else (x.k == 1 && rightNodeR x.n) && (!x.o || x.n.k == 2)
theorem mayE_kind (x : En) : mayE x = (!(x.p == []) && (isPathR x.p && kindMay x)) := by
  unfold mayE kindMay
  rw [same_zero]

theorem refRightG_c {l : List En} (hll : l.length ≤ 1000000) (hp : ∀ x ∈ l, x.p.length ≤ 1000000) (hd : ∀ x ∈ l, x.n.d.length ≤ 1000000000) :
    DCalls Tryz.prog 13 [.c (.p (.sl 7 (encE l)))] [] fun r h => r = .c (.p (.b (rightE l))) ∧ h = [] := by
  obtain ⟨R, hR⟩ : ∃ R, rightE l = R := ⟨_, rfl⟩
  rw [hR]
  have hR0 : rightGE (l.take 0) (l.drop 0) = R := hR
  clear hR
  refine entS tabOK Tryz.func13 rfl rfl fun X0 hX => ?_
  simp only [Tryz.f13, go_sem]
  refine swp_first tabOK hmix ?_
  repeat' (simp only [*, go_sem, Nat.reduceLT, ])
  refine swp_join tabOK hmix (α := Unit) (fun _ => ⟨99, [], []⟩) (fun _ => R = true) ?_ ?_
  · repeat' (simp only [*, go_sem, Nat.reduceLT, ])
    refine loop_renS (α := Nat) (fun k => ⟨99, [(0, .c (.p (.sl 7 (encE l)))), (3, .c (.p (.i .i64 k)))], []⟩)
      (fun k => k ≤ l.length ∧ rightGE (l.take k) (l.drop k) = R) (fun k => l.length - k) 0 ⟨Nat.zero_le _, hR0⟩ (.inl (weak_mk (by rw [hX]; rfl) rfl rfl (by simp [wk_cons, wk_nil, look_cons, closedD, closedC, ]))) ?_
    clear hR0
    rintro k ⟨hk, hs⟩
    by_cases hlt : k < l.length
    · have hx : l[k]? = some l[k] := List.getElem?_eq_getElem hlt
      have hg := encE_at hx
      rw [rightE_drop hx] at hs
      have h1 : decide ((k : Int) < (l.length : Int)) = true := decide_eq_true (by omega)
      have w1 : IntKind.i64.wrap ((k : Int) + 1) = k + 1 := wrap_i64 (by omega) (by omega)
      have hk0 : (0 : Int) ≤ k := by omega
      have hkl : (k : Int) < l.length := by omega
      have prev : (k = 0 ∧ aheadE (l.take k) l[k].p = true) ∨ ∃ m : Nat, ∃ y : En, decide ((0 : Int) < k) = true ∧ IntKind.i64.wrap ((k : Int) - 1) = (m : Int) ∧ m < l.length ∧ l[m]? = some y ∧ (bltL l[k].p y.p || l[k].p == y.p) = !aheadE (l.take k) l[k].p := by
        by_cases h0 : 0 < k
        · have hmk : k - 1 < l.length := by omega
          refine .inr ⟨k - 1, l[k - 1], decide_eq_true (by omega), ?_, hmk, List.getElem?_eq_getElem hmk, ?_⟩
          · rw [wrap_i64 (by omega) (by omega)]; omega
          · unfold aheadE
            rw [getLast_takeE h0 hk, List.getElem?_eq_getElem hmk]
            exact le_not_lt _ _
        · have : k = 0 := by omega
          subst this
          exact .inl ⟨rfl, rfl⟩
      have p1 := hp _ (List.getElem_mem hlt)
      have p2 := hd _ (List.getElem_mem hlt)
      clear hd
      generalize l[k] = x at hx hg prev p1 p2 hs
      unfold stepE at hs
      rw [mayE_kind] at hs
      have hip := isPathR_c (p := x.p) (by omega)
      have hrn := rightNodeR_c (k := x.n.k) (m := x.n.m) (t := x.n.t) (d := x.n.d) (by omega)
      have hs0 := sameNode00_c (k := x.n.k) (m := x.n.m) (t := x.n.t) (d := x.n.d)
      rw [show (⟨x.n.k, x.n.m, x.n.t, x.n.d⟩ : Nd) = x.n from rfl] at hrn hs0
      have hoe : openE (l.take k) x.p = ((l.take k).drop 0).all (fun y => !(shutE y && belowR y.p x.p)) := rfl
      obtain ⟨a1, ha1⟩ : ∃ a, (x.p == []) = a := ⟨_, rfl⟩
      obtain ⟨mk, hmk⟩ : ∃ a, kindMay x = a := ⟨_, rfl⟩
      rw [ha1, hmk] at hs
      unfold kindMay at hmk
      generalize isPathR x.p = a2 at hip hs
      generalize aheadE (l.take k) x.p = ah at prev hs
      generalize openE (l.take k) x.p = oe at hs hoe
      generalize hnx : rightGE (l.take (k + 1)) (l.drop (k + 1)) = nx at hs
      have hN := PLift.up hnx
      have hO := PLift.up hoe
      have hM := PLift.up hmk
      clear hx hnx hoe hmk
      refine swp_first tabOK hmix ?_
      repeat' (simp only [*, go_sem, Nat.reduceLT, Nat.reduceEqDiff, ↓reduceIte, ])
      refine swp_seq_block ?_
      refine swp_first tabOK hmix ?_
      repeat' (simp only [*, go_sem, Nat.reduceLT, Nat.reduceLeDiff, Nat.reduceEqDiff, ↓reduceIte, Nat.reduceAdd, ])
      refine swp_join tabOK hmix (α := Unit) (fun _ => ⟨99, [(0, .c (.p (.sl 7 (encE l)))), (3, .c (.p (.i .i64 k))), (4, .c (.ptr 0 0))], [.box [.p (.s x.p), .p (.i .i64 x.k), .p (.b x.o), .p (.i .i64 x.n.k), .p (.i .i64 x.n.m), .p (.f x.n.t), .p (.sl 1 (encB x.n.d))]]⟩) (fun _ => a1 = false ∧ a2 = true ∧ ah = true) ?_ ?_
      · cases a1
        · cases a2
          · have hRf : R = false := by rw [← hs]; simp
            subst hRf
            clear hs
            rcases prev with ⟨h0, b1⟩ | ⟨m, y, b1, b2, b3, b4, b5⟩
            · have b2 : decide ((0 : Int) < (k : Int)) = false := decide_eq_false (by omega)
              clear h0
              repeat' (first | simp only [*, go_sem, Nat.reduceLT, ↓reduceIte, ] | ((refine vc_drawn (id := 5) tabOK hmix [] [0,1,2,3,4,5,6,7,8,9,10,11,12,13,14,15,16,17,18,19,20,21,22,23] (by decide +kernel) ?_); (repeat' (first | (refine ds_nil ?_) | ((refine ds_one ?_ rfl rfl ?_ ?_); (rotate_left 1); (focus ((repeat' (first | simp only [*, go_sem, Nat.reduceLT, Nat.reduceEqDiff, ↓reduceIte, Bool.not_false] | ((with_reducible refine useF (hip) ?_ ?_ ?_); (focus exact rfl); (focus exact rfl)))); exact rfl)); (simp only [putF_some]))))))
            · have hgy := encE_at b4
              have b6 : (m : Int) < l.length := by omega
              repeat' (first | simp only [*, go_sem, Nat.reduceLT, ↓reduceIte, ] | ((refine vc_drawn (id := 5) tabOK hmix [] [0,1,2,3,4,5,6,7,8,9,10,11,12,13,14,15,16,17,18,19,20,21,22,23] (by decide +kernel) ?_); (repeat' (first | (refine ds_nil ?_) | ((refine ds_one ?_ rfl rfl ?_ ?_); (rotate_left 1); (focus ((repeat' (first | simp only [*, go_sem, Nat.reduceLT, Nat.reduceEqDiff, ↓reduceIte, Bool.not_false] | ((with_reducible refine useF (hip) ?_ ?_ ?_); (focus exact rfl); (focus exact rfl)))); exact rfl)); (simp only [putF_some]))))))
          · rcases prev with ⟨h0, b1⟩ | ⟨m, y, b1, b2, b3, b4, b5⟩
            · have b2 : decide ((0 : Int) < (k : Int)) = false := decide_eq_false (by omega)
              clear h0 hs
              repeat' (first | simp only [*, go_sem, ↓reduceIte, ] | ((refine vc_drawn (id := 5) tabOK hmix [] [0,1,2,3,4,5,6,7,8,9,10,11,12,13,14,15,16,17,18,19,20,21,22,23] (by decide +kernel) ?_); (repeat' (first | (refine ds_nil ?_) | ((refine ds_one ?_ rfl rfl ?_ ?_); (rotate_left 1); (focus ((repeat' (first | simp only [*, go_sem, Nat.reduceLT, Nat.reduceEqDiff, ↓reduceIte, Bool.not_true] | ((with_reducible refine useF (hip) ?_ ?_ ?_); (focus exact rfl); (focus exact rfl)))); exact rfl)); (simp only [putF_some]))))))
              exact qj_n () (by first | exact ⟨rfl, rfl, b1⟩ | trivial) (weak_mk (by first | rfl | (rw [hX]; rfl)) rfl rfl (by simp [wk_cons, wk_nil, look_cons, closedD, closedC, ]))
            · have hgy := encE_at b4
              have b6 : (m : Int) < l.length := by omega
              cases ah
              · have hRf : R = false := by rw [← hs]; simp
                subst hRf
                clear hs
                rw [Bool.not_false] at b5
                repeat' (first | simp only [*, go_sem, Nat.reduceLT, ↓reduceIte, ] | ((refine vc_drawn (id := 5) tabOK hmix [] [0,1,2,3,4,5,6,7,8,9,10,11,12,13,14,15,16,17,18,19,20,21,22,23] (by decide +kernel) ?_); (repeat' (first | (refine ds_nil ?_) | ((refine ds_one ?_ rfl rfl ?_ ?_); (rotate_left 1); (focus ((repeat' (first | simp only [*, go_sem, Nat.reduceLT, Nat.reduceEqDiff, ↓reduceIte, Bool.not_true] | ((with_reducible refine useF (hip) ?_ ?_ ?_); (focus exact rfl); (focus exact rfl)) | ((with_reducible refine And.intro ?_ ?_); (focus (omega))))); exact rfl)); (simp only [putF_some]))))))
              · rw [Bool.not_true] at b5
                clear hs
                repeat' (first | simp only [*, go_sem, ↓reduceIte, ] | ((refine vc_drawn (id := 5) tabOK hmix [] [0,1,2,3,4,5,6,7,8,9,10,11,12,13,14,15,16,17,18,19,20,21,22,23] (by decide +kernel) ?_); (repeat' (first | (refine ds_nil ?_) | ((refine ds_one ?_ rfl rfl ?_ ?_); (rotate_left 1); (focus ((repeat' (first | simp only [*, go_sem, Nat.reduceLT, Nat.reduceEqDiff, ↓reduceIte, Bool.not_true] | ((with_reducible refine useF (hip) ?_ ?_ ?_); (focus exact rfl); (focus exact rfl)) | ((with_reducible refine And.intro ?_ ?_); (focus (omega))))); exact rfl)); (simp only [putF_some]))))))
                exact qj_n () (by first | exact ⟨rfl, rfl, rfl⟩ | trivial) (weak_mk (by first | rfl | (rw [hX]; rfl)) rfl rfl (by simp [wk_cons, wk_nil, look_cons, closedD, closedC, ]))
        · have hRf : R = false := by rw [← hs]; simp
          subst hRf
          clear hs
          rcases prev with ⟨h0, b1⟩ | ⟨m, y, b1, b2, b3, b4, b5⟩
          · have b2 : decide ((0 : Int) < (k : Int)) = false := decide_eq_false (by omega)
            clear h0
            repeat' (first | simp only [*, go_sem, Nat.reduceLT, ↓reduceIte, ] | ((refine vc_drawn (id := 5) tabOK hmix [] [0,1,2,3,4,5,6,7,8,9,10,11,12,13,14,15,16,17,18,19,20,21,22,23] (by decide +kernel) ?_); (repeat' (first | (refine ds_nil ?_) | ((refine ds_one ?_ rfl rfl ?_ ?_); (rotate_left 1); (focus ((repeat' (simp only [*, go_sem, Nat.reduceLT, Nat.reduceEqDiff, ↓reduceIte, ])); exact rfl)); (simp only [putF_some]))))))
          · have hgy := encE_at b4
            have b6 : (m : Int) < l.length := by omega
            repeat' (first | simp only [*, go_sem, Nat.reduceLT, ↓reduceIte, ] | ((refine vc_drawn (id := 5) tabOK hmix [] [0,1,2,3,4,5,6,7,8,9,10,11,12,13,14,15,16,17,18,19,20,21,22,23] (by decide +kernel) ?_); (repeat' (first | (refine ds_nil ?_) | ((refine ds_one ?_ rfl rfl ?_ ?_); (rotate_left 1); (focus ((repeat' (simp only [*, go_sem, Nat.reduceLT, Nat.reduceEqDiff, ↓reduceIte, ])); exact rfl)); (simp only [putF_some]))))))
      rintro - ⟨m1, m2, m3⟩
      subst m1; subst m2; subst m3
      simp only [Bool.not_false, Bool.true_and] at hs
      clear prev hip ha1
      refine swp_join tabOK hmix (α := Unit) (fun _ => ⟨99, [(0, .c (.p (.sl 7 (encE l)))), (3, .c (.p (.i .i64 k))), (4, .c (.ptr 0 0))], [.box [.p (.s x.p), .p (.i .i64 x.k), .p (.b x.o), .p (.i .i64 x.n.k), .p (.i .i64 x.n.m), .p (.f x.n.t), .p (.sl 1 (encB x.n.d))]]⟩) (fun _ => mk = true) ?_ ?_
      · have hmk := hM.down
        clear hM
        by_cases c4 : (x.k == 2) = true
        · rw [if_pos c4] at hmk
          have c5 : (x.k == 1) = false := by rw [eq_of_beq c4]; rfl
          generalize sameNd x.n nd0 = z at hs0 hmk
          cases ho : x.o <;> cases z
          case false.true =>
            rw [ho] at hmk
            have hmt : mk = true := hmk.symm
            clear hs hmk
            repeat' (first | simp only [*, go_sem, Nat.reduceLT, Nat.reduceLeDiff, Nat.reduceEqDiff, ↓reduceIte, Nat.reduceAdd, Bool.not_true] | ((with_reducible refine useF (hs0) ?_ ?_ ?_); (focus exact rfl); (focus exact rfl)))
            exact qj_n () (by first | exact hmt | trivial) (weak_mk (by first | rfl | (rw [hX]; rfl)) rfl rfl (by simp [wk_cons, wk_nil, look_cons, closedD, closedC, ]))
          all_goals rw [ho] at hmk
          all_goals simp only [Bool.not_true, Bool.not_false, Bool.and_false, Bool.false_and] at hmk
          all_goals rw [← hmk, Bool.false_and] at hs
          all_goals subst hs
          all_goals clear hmk
          all_goals repeat' (first | simp only [*, go_sem, Nat.reduceLT, Nat.reduceLeDiff, Nat.reduceEqDiff, ↓reduceIte, Nat.reduceAdd, Bool.not_false] | ((with_reducible refine useF (hs0) ?_ ?_ ?_); (focus exact rfl); (focus exact rfl)))
        · rw [if_neg c4] at hmk
          have c4 : (x.k == 2) = false := by simpa using c4
          cases c5 : (x.k == 1)
          · rw [c5] at hmk
            simp only [Bool.false_and] at hmk
            rw [← hmk, Bool.false_and] at hs
            subst hs
            clear hmk
            repeat' (simp only [*, go_sem, Nat.reduceLT, Nat.reduceEqDiff, ↓reduceIte, ])
          · rw [c5, Bool.true_and] at hmk
            generalize rightNodeR x.n = rn at hrn hmk
            have c6 : (x.n.k != 2) = !(x.n.k == 2) := rfl
            cases ho : x.o <;> cases rn <;> cases hk2 : (x.n.k == 2)
            all_goals rw [hk2] at c6
            all_goals rw [ho, hk2] at hmk
            all_goals simp only [Bool.not_true, Bool.not_false, Bool.and_false, Bool.or_true, Bool.or_false, Bool.and_true] at hmk c6
            case false.true.false | false.true.true | true.true.true =>
              have hmt : mk = true := hmk.symm
              clear hs hmk
              repeat' (first | simp only [*, go_sem, Nat.reduceLT, Nat.reduceLeDiff, Nat.reduceEqDiff, ↓reduceIte, Nat.reduceAdd, Bool.not_true] | ((with_reducible refine useF (hrn) ?_ ?_ ?_); (focus exact rfl); (focus exact rfl)))
              exact qj_n () (by first | exact hmt | trivial) (weak_mk (by first | rfl | (rw [hX]; rfl)) rfl rfl (by simp [wk_cons, wk_nil, look_cons, closedD, closedC, ]))
            all_goals rw [← hmk, Bool.false_and] at hs
            all_goals subst hs
            all_goals clear hmk
            all_goals repeat' (first | simp only [*, go_sem, Nat.reduceLT, Nat.reduceLeDiff, Nat.reduceEqDiff, ↓reduceIte, Nat.reduceAdd, Bool.not_true, Bool.not_false] | ((with_reducible refine useF (hrn) ?_ ?_ ?_); (focus exact rfl); (focus exact rfl)))
      rintro - hmt
      subst hmt
      rw [Bool.true_and] at hs
      clear hrn hs0 hM
      refine swp_first tabOK hmix ?_
      repeat' (simp only [*, go_sem, Nat.reduceLT, ])
      refine swp_vc tabOK hmix ?_
      repeat' (simp only [*, go_sem, ])
      refine loop_ren tabOK hmix (α := Nat) (fun j => ⟨99, [(0, .c (.p (.sl 7 (encE l)))), (3, .c (.p (.i .i64 k))), (4, .c (.ptr 0 0)), (5, .c (.p (.i .i64 j)))], [.box [.p (.s x.p), .p (.i .i64 x.k), .p (.b x.o), .p (.i .i64 x.n.k), .p (.i .i64 x.n.m), .p (.f x.n.t), .p (.sl 1 (encB x.n.d))]]⟩)
        (fun j => j ≤ k ∧ ((l.take k).drop j).all (fun y => !(shutE y && belowR y.p x.p)) = oe) (fun j => k - j) 0 ⟨Nat.zero_le _, hO.down.symm⟩ (.inl (weak_mk (by first | rfl | (rw [hX]; rfl)) rfl rfl (by simp [wk_cons, wk_nil, look_cons, closedD, closedC, ]))) ?_
      rintro j ⟨hj, ha⟩
      by_cases hjk : j < k
      · have hjl : j < l.length := by omega
        have hz : (l.take k)[j]? = some l[j] := by rw [List.getElem?_take, if_pos hjk]; exact List.getElem?_eq_getElem hjl
        have hgz := encE_at (List.getElem?_eq_getElem hjl)
        rw [openR_step hz] at ha
        have hzp := hp _ (List.getElem_mem hjl)
        have h2 : decide ((j : Int) < (k : Int)) = true := decide_eq_true (by omega)
        have w2 : IntKind.i64.wrap ((j : Int) + 1) = j + 1 := wrap_i64 (by omega) (by omega)
        have hjl2 : (j : Int) < (l.length : Int) := by omega
        have hj0 : (0 : Int) ≤ j := by omega
        generalize l[j] = z at hz hgz hzp ha
        have hbl := belowR_c (p := z.p) (q := x.p) (by omega) (by omega)
        clear hp hz
        cases hb : belowR z.p x.p
        · rw [hb] at hbl
          rw [hb, Bool.and_false, Bool.not_false, Bool.true_and] at ha
          have hA := PLift.up ha
          clear ha
          repeat' (first | simp only [*, go_sem, Nat.reduceLT, Nat.reduceEqDiff, ↓reduceIte, ] | ((refine vc_drawn (id := 18) tabOK hmix [] [0,1,2,3,4,5,6,7,8,9,10,11,12,13,14,15,16,17,18,19,20,21,22,23,24] (by decide +kernel) ?_); (repeat' (first | (refine ds_nil ?_) | ((refine ds_one ?_ rfl rfl ?_ ?_); (rotate_left 1); (focus ((repeat' (first | simp only [*, go_sem, Nat.reduceLT, Nat.reduceEqDiff, ↓reduceIte, ] | ((with_reducible refine useF (hbl) ?_ ?_ ?_); (focus exact rfl); (focus exact rfl)))); exact rfl)); (simp only [putF_some]))))))
          exact qr_n (j + 1) ⟨by omega, hA.down⟩ (by omega) (weak_mk rfl rfl rfl (by simp [wk_cons, wk_nil, look_cons, closedD, closedC, ]))
        · rw [hb] at hbl
          rw [hb, Bool.and_true] at ha
          unfold shutE at ha
          have z3 : (z.n.k != 2) = !(z.n.k == 2) := rfl
          cases z1 : (z.k == 2) <;> cases z2 : (z.n.k == 2)
          all_goals rw [z2] at z3
          all_goals rw [z1, z3] at ha
          all_goals simp only [Bool.not_true, Bool.not_false, Bool.or_true, Bool.or_false, Bool.true_and, Bool.false_and] at ha z3
          case false.true =>
            have hA := PLift.up ha
            clear ha
            repeat' (first | simp only [*, go_sem, Nat.reduceLT, Nat.reduceEqDiff, ↓reduceIte, ] | ((refine vc_drawn (id := 18) tabOK hmix [] [0,1,2,3,4,5,6,7,8,9,10,11,12,13,14,15,16,17,18,19,20,21,22,23,24] (by decide +kernel) ?_); (repeat' (first | (refine ds_nil ?_) | ((refine ds_one ?_ rfl rfl ?_ ?_); (rotate_left 1); (focus ((repeat' (first | simp only [*, go_sem, Nat.reduceLT, Nat.reduceEqDiff, ↓reduceIte, ] | ((with_reducible refine useF (hbl) ?_ ?_ ?_); (focus exact rfl); (focus exact rfl)))); exact rfl)); (simp only [putF_some]))))))
            exact qr_n (j + 1) ⟨by omega, hA.down⟩ (by omega) (weak_mk rfl rfl rfl (by simp [wk_cons, wk_nil, look_cons, closedD, closedC, ]))
          all_goals rw [← ha, Bool.false_and] at hs
          all_goals subst hs
          all_goals clear ha
          all_goals repeat' (first | simp only [*, go_sem, Nat.reduceLT, Nat.reduceEqDiff, ↓reduceIte, ] | ((refine vc_drawn (id := 18) tabOK hmix [] [0,1,2,3,4,5,6,7,8,9,10,11,12,13,14,15,16,17,18,19,20,21,22,23,24] (by decide +kernel) ?_); (repeat' (first | (refine ds_nil ?_) | ((refine ds_one ?_ rfl rfl ?_ ?_); (rotate_left 1); (focus ((repeat' (first | simp only [*, go_sem, Nat.reduceLT, Nat.reduceEqDiff, ↓reduceIte, ] | ((with_reducible refine useF (hbl) ?_ ?_ ?_); (focus exact rfl); (focus exact rfl)))); exact rfl)); (simp only [putF_some]))))))
      · have h2 : decide ((j : Int) < (k : Int)) = false := decide_eq_false (by omega)
        rw [List.drop_of_length_le (by rw [List.length_take]; omega), List.all_nil] at ha
        subst ha
        rw [Bool.true_and] at hs
        have hS := PLift.up hs
        clear hp hs
        repeat' (simp only [*, go_sem, Nat.reduceLT, Nat.reduceEqDiff, ↓reduceIte, ])
        refine swp_vc tabOK hmix ?_
        repeat' (simp only [*, go_sem, Nat.reduceLT, Nat.reduceEqDiff, ↓reduceIte, ])
        exact qr_n (k + 1) ⟨by omega, by rw [hN.down]; exact hS.down⟩ (by omega) (weak_mk rfl rfl rfl (by simp [wk_cons, wk_nil, look_cons, closedD, closedC, ]))
    · have h1 : decide ((k : Int) < (l.length : Int)) = false := decide_eq_false (by omega)
      rw [List.take_of_length_le (by omega), List.drop_of_length_le (by omega)] at hs
      have hS : R = true := hs.symm
      clear hp hd hs
      refine swp_first tabOK hmix ?_
      repeat' (simp only [*, go_sem, Nat.reduceLT, Nat.reduceEqDiff, ↓reduceIte, ])
      exact qj_n () (by first | exact hS | trivial) (weak_mk (by rw [hX]; rfl) rfl rfl (by simp [wk_nil, ]))
  rintro - hS
  subst hS
  refine swp_vc tabOK hmix ?_
  repeat' (simp only [*, go_sem, Nat.reduceLT, ↓reduceIte, ])
end Go.Proofs.YtjpmajeekikdhaaGreatDoor

end

section
/-
  Contracts: a layer's bytes, by the document. Printed by wip/tools/gen36.py.
-/

set_option linter.unusedSimpArgs false
set_option linter.unusedVariables false
namespace Go.Proofs.YtjpmajeekikdhaaGreatDoor
open Go Go.Dm Go.Proofs
set_option maxRecDepth 100000
set_option maxHeartbeats 8000000

theorem refLayEN_c {l : List En} (hl : l.length ≤ 1000000) (hp : ∀ x ∈ l, x.p.length ≤ 1000000) (hd : ∀ x ∈ l, x.n.d.length ≤ 1000000000) (hr : rightE l = false) :
    DCalls Tryz.prog 10 [.c (.p (.sl 7 (encE l)))] [] fun r h => r = .tup [.c (.p (.sl 1 (encB []))), .c (.p (.i .i64 1))] ∧ h = [] := by
  have hc := refRightG_c hl hp hd
  rw [hr] at hc
  refine dcalls_wk ?_
  refine ent tabOK hmix Tryz.func10 rfl rfl fun X0 hX => ?_
  simp only [Tryz.f10, go_sem]
  repeat' (first | simp only [*, go_sem, Nat.reduceLT, Nat.reduceEqDiff, ↓reduceIte, Bool.not_false] | ((with_reducible refine useF (hc) ?_ ?_ ?_); (focus exact rfl); (focus exact rfl)))
  all_goals first | (simp [encB]; done) | trace_state

theorem refLayE_c {l : List En} (hl : l.length ≤ 65535) (hp : ∀ x ∈ l, x.p.length ≤ 1000000) (hd : ∀ x ∈ l, x.n.d.length ≤ 1000000000) (hr : rightE l = true) :
    DCalls Tryz.prog 10 [.c (.p (.sl 7 (encE l)))] [] fun r h => r = .tup [.c (.p (.sl 1 (encB (layEs l)))), .c (.p (.i .i64 0))] ∧ h = [] := by
  have hc := refRightG_c (by omega) hp hd
  rw [hr] at hc
  have hmay := (rightE_ok hr).1
  have hle := layEs_len (t := l) fun x hx => by
    obtain ⟨g1, g2, _, g4⟩ := mayE_nodes (hmay x hx)
    refine ⟨by have := isPathR_len g4; omega, ?_⟩
    cases hk : (!(x.k == 1))
    · have := rightNodeR_len (g2 hk); omega
    · rw [g1 hk]; decide
  clear hr hp hd
  refine entS tabOK Tryz.func10 rfl rfl fun X0 hX => ?_
  simp only [Tryz.f10, go_sem]
  refine swp_first tabOK hmix ?_
  repeat' (simp only [*, go_sem, Nat.reduceLT, ])
  refine swp_first tabOK hmix ?_
  repeat' (first | simp only [*, go_sem, Nat.reduceLT, Nat.reduceEqDiff, ↓reduceIte, Bool.not_true] | ((with_reducible refine useF (hc) ?_ ?_ ?_); (focus exact rfl); (focus exact rfl)))
  clear hc
  refine swp_first tabOK hmix ?_
  repeat' (simp only [*, go_sem, Nat.reduceLT, Nat.reduceEqDiff, ↓reduceIte, ])
  refine swp_join tabOK hmix (α := Unit) (fun _ => ⟨69, [(0, .c (.p (.sl 7 (encE l)))), (4, .c (.ptr 0 0))], [.box [.own 1 0 (u16F l.length).length], .arr 1 (encB (u16F l.length)) false]⟩) (fun _ => True) ?_ ?_
  · skip
    repeat' (first | simp only [*, go_sem, Nat.reduceLT, Nat.reduceEqDiff, ↓reduceIte, Nat.reduceAdd, Int.reduceSub, wrap_i64_lit, ] | ((with_reducible refine entK tabOK hmix Tryz.func46 rfl rfl fun _ _ => ?_); simp only [Tryz.f46, go_sem]) | ((with_reducible refine entK tabOK hmix Tryz.func88 rfl rfl fun _ _ => ?_); simp only [Tryz.f88, go_sem]))
    refine loop_rounds tabOK hmix 3 ?_
    repeat' (first | simp only [*, go_sem, Nat.reduceLT, Nat.reduceLeDiff, Nat.reduceEqDiff, ↓reduceIte, Nat.reduceAdd, Int.reduceLE, Int.reduceSub, Int.reduceMul, Int.reduceNeg, Int.reduceToNat, Nat.reduceBEq, wrap_i64_lit, wrap_u64_lit, wrap_i64_m1, Nat.min_def, decide_true, decide_false, encB_one1, encB_app] | ((with_reducible refine And.intro ?_ ?_); (focus (decide))))
    first | exact qj_ren () 1 4 trivial (by first | rfl | (rw [hX]; rfl)) rfl (weak_mk (by first | rfl | (rw [hX]; rfl)) rfl rfl (by simp [wk_cons, wk_nil, look_cons, closedD, closedC, renT, renD, renC])) | exact qj_ren () 1 3 trivial (by first | rfl | (rw [hX]; rfl)) rfl (weak_mk (by first | rfl | (rw [hX]; rfl)) rfl rfl (by simp [wk_cons, wk_nil, look_cons, closedD, closedC, closedK, closedB, renT, renD, renC])) | exact qj_ren () 1 5 trivial (by first | rfl | (rw [hX]; rfl)) rfl (weak_mk (by first | rfl | (rw [hX]; rfl)) rfl rfl (by simp [wk_cons, wk_nil, look_cons, closedD, closedC, closedK, closedB, renT, renD, renC])) | exact qj_ren () 1 2 trivial (by first | rfl | (rw [hX]; rfl)) rfl (weak_mk (by first | rfl | (rw [hX]; rfl)) rfl rfl (by simp [wk_cons, wk_nil, look_cons, closedD, closedC, closedK, closedB, renT, renD, renC])) | exact qj_ren () 1 6 trivial (by first | rfl | (rw [hX]; rfl)) rfl (weak_mk (by first | rfl | (rw [hX]; rfl)) rfl rfl (by simp [wk_cons, wk_nil, look_cons, closedD, closedC, closedK, closedB, renT, renD, renC]))
  rintro - -
  refine swp_join tabOK hmix (α := Unit) (fun _ => ⟨69, [(4, .c (.ptr 0 0))], [.box [.own 1 0 (layEs l).length], .arr 1 (encB (layEs l)) false]⟩) (fun _ => True) ?_ ?_
  · repeat' (simp only [*, go_sem, Nat.reduceLT, ])
    refine loop_renS (α := Nat × List UInt8) (fun x => ⟨69, [(0, .c (.p (.sl 7 (encE l)))), (4, .c (.ptr 0 0)), (5, .c (.p (.i .i64 x.1)))], [.box [.own 1 0 x.2.length], .arr 1 (encB x.2) false]⟩)
      (fun x => x.1 ≤ l.length ∧ x.2.length ≤ 2 + 10000 * x.1 ∧ u16F l.length ++ ((l.take x.1).map layEn).flatten = x.2) (fun x => l.length - x.1) (0, u16F l.length) ⟨Nat.zero_le _, by show 2 ≤ _; omega, by simp⟩ (.inl (weak_mk (by rw [hX]; rfl) rfl rfl (by simp [wk_cons, wk_nil, look_cons, closedD, closedC, ]))) ?_
    rintro ⟨k, B⟩ ⟨hk, hB, hJ⟩
    simp only at hk hB hJ
    by_cases hlt : k < l.length
    · have hx : l[k]? = some l[k] := List.getElem?_eq_getElem hlt
      have hg := encE_at hx
      have h1 : decide ((k : Int) < (l.length : Int)) = true := decide_eq_true (by omega)
      have hki : (k : Int) < (l.length : Int) := by omega
      have hk0 : (0 : Int) ≤ k := by omega
      have w1 : IntKind.i64.wrap ((k : Int) + 1) = k + 1 := wrap_i64 (by omega) (by omega)
      obtain ⟨_, m2, m5, m6⟩ := mayE_nodes (hmay _ (List.getElem_mem hlt))
      have hpl := isPathR_len m6
      have hd1 : decide ((65535 : Int) < (l[k].p.length : Int)) = false := decide_eq_false (by omega)
      have hlay := fun h => refLayNode_c (k := l[k].n.k) (m := l[k].n.m) (t := l[k].n.t) (d := l[k].n.d) (m2 h)
      have hdl := fun h => rightNodeR_len (m2 h)
      have hll := layNode_len l[k].n
      have hit : l.take (k + 1) = l.take k ++ [l[k]] := by rw [List.take_add_one, hx]; rfl
      have hJ1 : u16F l.length ++ ((l.take (k + 1)).map layEn).flatten = B ++ layEn l[k] := by rw [hit, List.map_append, List.flatten_append, ← List.append_assoc, hJ]; simp
      have hlE := layEn_len l[k]
      have hQ := PLift.up hJ1
      clear hJ hit hx hmay m2 m6 hJ1
      simp only [it_nd_eta] at hlay
      generalize hxx : l[k] = x at *
      clear hxx
      have hn1 : x.k == 1 ∨ (x.k == 1) = false := by cases x.k == 1 <;> simp
      obtain ⟨oi, hoi⟩ : ∃ oi : Int, (if x.o then (1 : Int) else 0) = oi := ⟨_, rfl⟩
      refine swp_first tabOK hmix ?_
      repeat' (simp only [*, go_sem, Nat.reduceLT, Nat.reduceEqDiff, ↓reduceIte, ])
      refine swp_seq_block ?_
      obtain ⟨B1, hB1⟩ : ∃ B1, B ++ textF x.p = B1 := ⟨_, rfl⟩
      have hl1 : B1.length = B.length + 2 + x.p.length := by rw [← hB1, List.length_append, textF, List.length_append, u16F_len]; omega
      refine swp_join tabOK hmix (α := Unit) (fun _ => ⟨69, [(0, .c (.p (.sl 7 (encE l)))), (4, .c (.ptr 0 0)), (5, .c (.p (.i .i64 k)))], [.box [.own 1 0 (B1).length], .arr 1 (encB (B1)) false]⟩) (fun _ => True) ?_ ?_
      · clear hlay hdl hll hlE hoi hQ hn1
        have hP := PLift.up hB1
        have hP1 := PLift.up hl1
        clear hB1 hl1
        repeat' (first | simp only [*, go_sem, Nat.reduceLT, Nat.reduceEqDiff, ↓reduceIte, Nat.reduceAdd, Int.reduceSub, wrap_i64_lit, ] | ((with_reducible refine entK tabOK hmix Tryz.func46 rfl rfl fun _ _ => ?_); simp only [Tryz.f46, go_sem]) | ((with_reducible refine entK tabOK hmix Tryz.func88 rfl rfl fun _ _ => ?_); simp only [Tryz.f88, go_sem]) | ((with_reducible refine entR tabOK hmix Tryz.func47 rfl rfl fun _ _ => ?_); simp only [Tryz.f47, go_sem]) | ((with_reducible refine And.intro ?_ ?_); (focus (omega))))
        refine loop_rounds tabOK hmix 3 ?_
        repeat' (first | simp only [*, go_sem, Nat.reduceLT, Nat.reduceLeDiff, Nat.reduceEqDiff, ↓reduceIte, Nat.reduceAdd, Int.reduceLE, Int.reduceSub, Int.reduceMul, Int.reduceNeg, Int.reduceToNat, Nat.reduceBEq, wrap_i64_lit, wrap_u64_lit, wrap_i64_m1, Nat.min_def, decide_true, decide_false, encB_one1, encB_app] | ((with_reducible refine entK tabOK hmix Tryz.func50 rfl rfl fun _ _ => ?_); simp only [Tryz.f50, go_sem]) | ((with_reducible refine And.intro ?_ ?_); (focus (first | omega | decide))))
        have e1 : B ++ [UInt8.ofNat (IntKind.u8.wrap ((IntKind.u64.wrap ↑x.p.length).fdiv (2 ^ 8))).toNat] ++ [UInt8.ofNat (IntKind.u8.wrap ((IntKind.u64.wrap ↑x.p.length).fdiv (2 ^ 0))).toNat] ++ x.p = B1 := by rw [← hP.down]; simp [textF, u16F, byteI]
        have e2 : B.length + 1 + 1 + x.p.length = B1.length := by have := hP1.down; omega
        first | rw [e1, e2] | rw [e2]
        first | exact qj_ren () 1 8 trivial (by first | rfl | (rw [hX]; rfl)) rfl (weak_mk (by first | rfl | (rw [hX]; rfl)) rfl rfl (by simp [wk_cons, wk_nil, look_cons, closedD, closedC, renT, renD, renC])) | exact qj_ren () 1 7 trivial (by first | rfl | (rw [hX]; rfl)) rfl (weak_mk (by first | rfl | (rw [hX]; rfl)) rfl rfl (by simp [wk_cons, wk_nil, look_cons, closedD, closedC, renT, renD, renC])) | exact qj_ren () 1 9 trivial (by first | rfl | (rw [hX]; rfl)) rfl (weak_mk (by first | rfl | (rw [hX]; rfl)) rfl rfl (by simp [wk_cons, wk_nil, look_cons, closedD, closedC, closedK, closedB, renT, renD, renC])) | exact qj_ren () 1 6 trivial (by first | rfl | (rw [hX]; rfl)) rfl (weak_mk (by first | rfl | (rw [hX]; rfl)) rfl rfl (by simp [wk_cons, wk_nil, look_cons, closedD, closedC, closedK, closedB, renT, renD, renC])) | exact qj_ren () 1 10 trivial (by first | rfl | (rw [hX]; rfl)) rfl (weak_mk (by first | rfl | (rw [hX]; rfl)) rfl rfl (by simp [wk_cons, wk_nil, look_cons, closedD, closedC, closedK, closedB, renT, renD, renC])) | exact qj_ren () 1 5 trivial (by first | rfl | (rw [hX]; rfl)) rfl (weak_mk (by first | rfl | (rw [hX]; rfl)) rfl rfl (by simp [wk_cons, wk_nil, look_cons, closedD, closedC, closedK, closedB, renT, renD, renC]))
      rintro - -
      obtain ⟨B2, hB2⟩ : ∃ B2, B1 ++ [byteI x.k 0] = B2 := ⟨_, rfl⟩
      have hl2 : B2.length = B1.length + 1 := by rw [← hB2]; simp
      have hl1b : B1.length ≤ 1000000000 := by omega
      refine swp_join tabOK hmix (α := Unit) (fun _ => ⟨69, [(0, .c (.p (.sl 7 (encE l)))), (4, .c (.ptr 0 0)), (5, .c (.p (.i .i64 k)))], [.box [.own 1 0 (B2).length], .arr 1 (encB (B2)) false]⟩) (fun _ => True) ?_ ?_
      · clear hlay hdl hll hlE hoi hQ hn1 hB1
        have hP := PLift.up hB2
        have hP1 := PLift.up hl2
        clear hB2 hl2 hl1
        repeat' (first | simp only [*, go_sem, Nat.reduceLT, Nat.reduceEqDiff, ↓reduceIte, Nat.reduceAdd, Int.reduceSub, wrap_i64_lit, ] | ((with_reducible refine entK tabOK hmix Tryz.func48 rfl rfl fun _ _ => ?_); simp only [Tryz.f48, go_sem]) | ((with_reducible refine entK tabOK hmix Tryz.func88 rfl rfl fun _ _ => ?_); simp only [Tryz.f88, go_sem]))
        refine loop_rounds tabOK hmix 2 ?_
        repeat' (first | simp only [*, go_sem, Nat.reduceLT, Nat.reduceLeDiff, Nat.reduceEqDiff, ↓reduceIte, Nat.reduceAdd, Int.reduceLE, Int.reduceSub, Int.reduceMul, Int.reduceNeg, Int.reduceToNat, Nat.reduceBEq, wrap_i64_lit, wrap_u64_lit, wrap_i64_m1, Nat.min_def, decide_true, decide_false, encB_one1, encB_app] | ((with_reducible refine And.intro ?_ ?_); (focus (first | omega | decide))))
        have e1 : B1 ++ [UInt8.ofNat (IntKind.u8.wrap ((IntKind.u64.wrap x.k).fdiv (2 ^ 0))).toNat] = B2 := hP.down
        have e2 : B1.length + 1 = B2.length := hP1.down.symm
        first | rw [e1, e2] | rw [e2]
        first | exact qj_ren () 1 4 trivial (by first | rfl | (rw [hX]; rfl)) rfl (weak_mk (by first | rfl | (rw [hX]; rfl)) rfl rfl (by simp [wk_cons, wk_nil, look_cons, closedD, closedC, renT, renD, renC])) | exact qj_ren () 1 5 trivial (by first | rfl | (rw [hX]; rfl)) rfl (weak_mk (by first | rfl | (rw [hX]; rfl)) rfl rfl (by simp [wk_cons, wk_nil, look_cons, closedD, closedC, renT, renD, renC])) | exact qj_ren () 1 3 trivial (by first | rfl | (rw [hX]; rfl)) rfl (weak_mk (by first | rfl | (rw [hX]; rfl)) rfl rfl (by simp [wk_cons, wk_nil, look_cons, closedD, closedC, renT, renD, renC])) | exact qj_ren () 1 6 trivial (by first | rfl | (rw [hX]; rfl)) rfl (weak_mk (by first | rfl | (rw [hX]; rfl)) rfl rfl (by simp [wk_cons, wk_nil, look_cons, closedD, closedC, closedK, closedB, renT, renD, renC])) | exact qj_ren () 1 7 trivial (by first | rfl | (rw [hX]; rfl)) rfl (weak_mk (by first | rfl | (rw [hX]; rfl)) rfl rfl (by simp [wk_cons, wk_nil, look_cons, closedD, closedC, closedK, closedB, renT, renD, renC]))
      rintro - -
      obtain ⟨B3, hB3⟩ : ∃ B3, B2 ++ [byteI oi 0] = B3 := ⟨_, rfl⟩
      have hl3 : B3.length = B2.length + 1 := by rw [← hB3]; simp
      have hl2b : B2.length ≤ 1000000000 := by omega
      refine swp_join tabOK hmix (α := Unit) (fun _ => ⟨69, [(0, .c (.p (.sl 7 (encE l)))), (4, .c (.ptr 0 0)), (5, .c (.p (.i .i64 k)))], [.box [.own 1 0 (B3).length], .arr 1 (encB (B3)) false]⟩) (fun _ => True) ?_ ?_
      · clear hlay hdl hll hlE hQ hn1 hB1 hB2
        have hP := PLift.up hB3
        have hP1 := PLift.up hl3
        clear hB3 hl3 hl1 hl2
        cases ho : x.o
        · rw [ho] at hoi
          have hoi2 : oi = 0 := hoi.symm
          subst hoi2
          repeat' (first | simp only [*, go_sem, Nat.reduceLT, Nat.reduceEqDiff, ↓reduceIte, Nat.reduceAdd, Int.reduceSub, wrap_i64_lit, wrap_u64_lit, ] | ((with_reducible refine entK tabOK hmix Tryz.func48 rfl rfl fun _ _ => ?_); simp only [Tryz.f48, go_sem]) | ((with_reducible refine entK tabOK hmix Tryz.func88 rfl rfl fun _ _ => ?_); simp only [Tryz.f88, go_sem]))
          refine loop_rounds tabOK hmix 2 ?_
          repeat' (first | simp only [*, go_sem, Nat.reduceLT, Nat.reduceLeDiff, Nat.reduceEqDiff, ↓reduceIte, Nat.reduceAdd, Int.reduceLE, Int.reduceSub, Int.reduceMul, Int.reduceNeg, Int.reduceToNat, Nat.reduceBEq, wrap_i64_lit, wrap_u64_lit, wrap_i64_m1, Nat.min_def, decide_true, decide_false, encB_one1, encB_app] | ((with_reducible refine And.intro ?_ ?_); (focus (first | omega | decide))))
          have e1 : B2 ++ [UInt8.ofNat (IntKind.u8.wrap (Int.fdiv 0 (2 ^ 0))).toNat] = B3 := hP.down
          have e2 : B2.length + 1 = B3.length := hP1.down.symm
          have e3 : B2 ++ [0] = B3 := hP.down
          first | rw [e1, e2] | rw [e3, e2] | rw [e2]
          first | exact qj_ren () 1 4 trivial (by first | rfl | (rw [hX]; rfl)) rfl (weak_mk (by first | rfl | (rw [hX]; rfl)) rfl rfl (by simp [wk_cons, wk_nil, look_cons, closedD, closedC, renT, renD, renC])) | exact qj_ren () 1 5 trivial (by first | rfl | (rw [hX]; rfl)) rfl (weak_mk (by first | rfl | (rw [hX]; rfl)) rfl rfl (by simp [wk_cons, wk_nil, look_cons, closedD, closedC, renT, renD, renC])) | exact qj_ren () 1 3 trivial (by first | rfl | (rw [hX]; rfl)) rfl (weak_mk (by first | rfl | (rw [hX]; rfl)) rfl rfl (by simp [wk_cons, wk_nil, look_cons, closedD, closedC, renT, renD, renC])) | exact qj_ren () 1 6 trivial (by first | rfl | (rw [hX]; rfl)) rfl (weak_mk (by first | rfl | (rw [hX]; rfl)) rfl rfl (by simp [wk_cons, wk_nil, look_cons, closedD, closedC, closedK, closedB, renT, renD, renC])) | exact qj_ren () 1 7 trivial (by first | rfl | (rw [hX]; rfl)) rfl (weak_mk (by first | rfl | (rw [hX]; rfl)) rfl rfl (by simp [wk_cons, wk_nil, look_cons, closedD, closedC, closedK, closedB, renT, renD, renC]))
        · rw [ho] at hoi
          have hoi2 : oi = 1 := hoi.symm
          subst hoi2
          repeat' (first | simp only [*, go_sem, Nat.reduceLT, Nat.reduceEqDiff, ↓reduceIte, Nat.reduceAdd, Int.reduceSub, wrap_i64_lit, wrap_u64_lit, ] | ((with_reducible refine entK tabOK hmix Tryz.func48 rfl rfl fun _ _ => ?_); simp only [Tryz.f48, go_sem]) | ((with_reducible refine entK tabOK hmix Tryz.func88 rfl rfl fun _ _ => ?_); simp only [Tryz.f88, go_sem]))
          refine loop_rounds tabOK hmix 2 ?_
          repeat' (first | simp only [*, go_sem, Nat.reduceLT, Nat.reduceLeDiff, Nat.reduceEqDiff, ↓reduceIte, Nat.reduceAdd, Int.reduceLE, Int.reduceSub, Int.reduceMul, Int.reduceNeg, Int.reduceToNat, Nat.reduceBEq, wrap_i64_lit, wrap_u64_lit, wrap_i64_m1, Nat.min_def, decide_true, decide_false, encB_one1, encB_app] | ((with_reducible refine And.intro ?_ ?_); (focus (first | omega | decide))))
          have e1 : B2 ++ [UInt8.ofNat (IntKind.u8.wrap (Int.fdiv 1 (2 ^ 0))).toNat] = B3 := hP.down
          have e2 : B2.length + 1 = B3.length := hP1.down.symm
          have e3 : B2 ++ [1] = B3 := hP.down
          first | rw [e1, e2] | rw [e3, e2] | rw [e2]
          first | exact qj_ren () 1 4 trivial (by first | rfl | (rw [hX]; rfl)) rfl (weak_mk (by first | rfl | (rw [hX]; rfl)) rfl rfl (by simp [wk_cons, wk_nil, look_cons, closedD, closedC, renT, renD, renC])) | exact qj_ren () 1 5 trivial (by first | rfl | (rw [hX]; rfl)) rfl (weak_mk (by first | rfl | (rw [hX]; rfl)) rfl rfl (by simp [wk_cons, wk_nil, look_cons, closedD, closedC, renT, renD, renC])) | exact qj_ren () 1 3 trivial (by first | rfl | (rw [hX]; rfl)) rfl (weak_mk (by first | rfl | (rw [hX]; rfl)) rfl rfl (by simp [wk_cons, wk_nil, look_cons, closedD, closedC, renT, renD, renC])) | exact qj_ren () 1 6 trivial (by first | rfl | (rw [hX]; rfl)) rfl (weak_mk (by first | rfl | (rw [hX]; rfl)) rfl rfl (by simp [wk_cons, wk_nil, look_cons, closedD, closedC, closedK, closedB, renT, renD, renC])) | exact qj_ren () 1 7 trivial (by first | rfl | (rw [hX]; rfl)) rfl (weak_mk (by first | rfl | (rw [hX]; rfl)) rfl rfl (by simp [wk_cons, wk_nil, look_cons, closedD, closedC, closedK, closedB, renT, renD, renC]))
      rintro - -
      have hl3b : B3.length ≤ 1000000000 := by omega
      have hfin : B ++ layEn x = B3 ++ (if !(x.k == 1) then [] else layNode x.n) := by
        rw [← hB3, ← hB2, ← hB1, ← hoi]
        simp only [layEn, List.append_assoc, List.cons_append, List.nil_append]
      rw [hfin] at hQ
      cases hk1 : (x.k == 1)
      · have hf2 : B3 ++ (if !(x.k == 1) then [] else layNode x.n) = B3 := by rw [hk1]; simp
        rw [hf2] at hQ
        have hJ2 : k + 1 ≤ l.length ∧ B3.length ≤ 2 + 10000 * (k + 1) := ⟨by omega, by omega⟩
        clear hlay hdl hll hlE hoi hn1 hB1 hB2 hB3 hfin hf2 hl1 hl2 hl3
        refine swp_vc tabOK hmix ?_
        repeat' (simp only [*, go_sem, Nat.reduceLT, Nat.reduceEqDiff, ↓reduceIte, ])
        refine swp_vc tabOK hmix ?_
        repeat' (simp only [*, go_sem, Nat.reduceLT, Nat.reduceEqDiff, ↓reduceIte, ])
        exact qr_n (k + 1, B3) ⟨hJ2.1, hJ2.2, hQ.down⟩ (by simp only; omega) (weak_mk (by first | rfl | (rw [hX]; rfl)) rfl rfl (by simp [wk_cons, wk_nil, look_cons, closedD, closedC, ]))
      · have hf2 : B3 ++ (if !(x.k == 1) then [] else layNode x.n) = B3 ++ layNode x.n := by rw [hk1]; simp
        rw [hf2] at hQ
        have hlay := hlay (by rw [hk1]; rfl)
        have hdl := hdl (by rw [hk1]; rfl)
        have hJ2 : k + 1 ≤ l.length ∧ (B3 ++ layNode x.n).length ≤ 2 + 10000 * (k + 1) := ⟨by omega, by rw [List.length_append]; omega⟩
        have hll2 : (layNode x.n).length ≤ 1000000 := by omega
        have e2 : B3.length + (13 + x.n.d.length) = (B3 ++ layNode x.n).length := by rw [List.length_append]; omega
        have hE := PLift.up e2
        clear hlE hoi hn1 hB1 hB2 hB3 hfin hf2 hl1 hl2 hl3 e2
        refine swp_vc tabOK hmix ?_
        repeat' (first | simp only [*, go_sem, Nat.reduceLT, Nat.reduceLeDiff, Nat.reduceEqDiff, ↓reduceIte, Nat.reduceAdd, encB_app] | ((with_reducible refine entK tabOK hmix Tryz.func50 rfl rfl fun _ _ => ?_); simp only [Tryz.f50, go_sem]) | ((with_reducible refine useN (hlay) ?_ ?_ ?_); (focus exact rfl); (focus exact fun _ => rfl)) | ((with_reducible refine And.intro ?_ ?_); (focus (omega))))
        refine swp_vc tabOK hmix ?_
        repeat' (simp only [*, go_sem, Nat.reduceLT, Nat.reduceEqDiff, ↓reduceIte, ])
        rw [hE.down]
        first | exact qr_ren (k + 1, B3 ++ layNode x.n) 1 2 ⟨hJ2.1, hJ2.2, hQ.down⟩ (by simp only; omega) (by first | rfl | (rw [hX]; rfl)) rfl (weak_mk (by first | rfl | (rw [hX]; rfl)) rfl rfl (by simp [wk_cons, wk_nil, look_cons, closedD, closedC, renT, renD, renC])) | exact qr_ren (k + 1, B3 ++ layNode x.n) 1 3 ⟨hJ2.1, hJ2.2, hQ.down⟩ (by simp only; omega) (by first | rfl | (rw [hX]; rfl)) rfl (weak_mk (by first | rfl | (rw [hX]; rfl)) rfl rfl (by simp [wk_cons, wk_nil, look_cons, closedD, closedC, closedK, closedB, renT, renD, renC])) | exact qr_ren (k + 1, B3 ++ layNode x.n) 1 4 ⟨hJ2.1, hJ2.2, hQ.down⟩ (by simp only; omega) (by first | rfl | (rw [hX]; rfl)) rfl (weak_mk (by first | rfl | (rw [hX]; rfl)) rfl rfl (by simp [wk_cons, wk_nil, look_cons, closedD, closedC, closedK, closedB, renT, renD, renC])) | exact qr_ren (k + 1, B3 ++ layNode x.n) 1 5 ⟨hJ2.1, hJ2.2, hQ.down⟩ (by simp only; omega) (by first | rfl | (rw [hX]; rfl)) rfl (weak_mk (by first | rfl | (rw [hX]; rfl)) rfl rfl (by simp [wk_cons, wk_nil, look_cons, closedD, closedC, closedK, closedB, renT, renD, renC])) | exact qr_ren (k + 1, B3 ++ layNode x.n) 1 6 ⟨hJ2.1, hJ2.2, hQ.down⟩ (by simp only; omega) (by first | rfl | (rw [hX]; rfl)) rfl (weak_mk (by first | rfl | (rw [hX]; rfl)) rfl rfl (by simp [wk_cons, wk_nil, look_cons, closedD, closedC, closedK, closedB, renT, renD, renC])) | exact qr_ren (k + 1, B3 ++ layNode x.n) 1 7 ⟨hJ2.1, hJ2.2, hQ.down⟩ (by simp only; omega) (by first | rfl | (rw [hX]; rfl)) rfl (weak_mk (by first | rfl | (rw [hX]; rfl)) rfl rfl (by simp [wk_cons, wk_nil, look_cons, closedD, closedC, closedK, closedB, renT, renD, renC]))
    · have h1 : decide ((k : Int) < (l.length : Int)) = false := decide_eq_false (by omega)
      rw [List.take_of_length_le (by omega)] at hJ
      have hf : B = layEs l := hJ.symm
      have hF := PLift.up hf
      clear hJ hf hmay
      refine swp_first tabOK hmix ?_
      repeat' (simp only [*, go_sem, Nat.reduceLT, Nat.reduceEqDiff, ↓reduceIte, ])
      exact qj_n () trivial (weak_mk (by rw [hX]; rfl) (by rw [hF.down]; rfl) rfl (by simp [wk_cons, wk_nil, look_cons, closedD, closedC, ]))
  rintro - -
  clear hmay
  have hle2 : (layEs l).length ≤ 140737488355328 := by omega
  refine swp_vc tabOK hmix ?_
  repeat' (simp only [*, go_sem, Nat.reduceLT, Nat.reduceEqDiff, ↓reduceIte, ])
  all_goals first | (refine ⟨?_, ?_, rfl, rfl⟩ <;> omega) | exact ⟨rfl, rfl⟩ | omega | (rw [List.take_of_length_le (by rw [encB_len]; exact Nat.le_refl _)]) | trace_state
end Go.Proofs.YtjpmajeekikdhaaGreatDoor

end

section
/-
  Contract: a layer out of bytes, by the document.
-/

set_option linter.unusedSimpArgs false
set_option linter.unusedVariables false
namespace Go.Proofs.YtjpmajeekikdhaaGreatDoor
open Go Go.Dm Go.Proofs
set_option maxRecDepth 100000
set_option maxHeartbeats 8000000

/-- What the document says of what it has read. -/
def resE (z : List UInt8) (G : Option (List En × Rd)) : List En × Int := match G with
  | none => ([], 2)
  | some (t, q) => if !rightE t || (q.l || !(layEs t == z)) then ([], 2) else (t, 0)
theorem resE_none (z : List UInt8) : resE z none = ([], 2) := rfl
theorem resE_some (z : List UInt8) (t : List En) (q : Rd) : resE z (some (t, q)) = if !rightE t || (q.l || !(layEs t == z)) then ([], 2) else (t, 0) := rfl

theorem refReadE_c {z : List UInt8} (hz : z.length ≤ 140737488355328) :
    DCalls Tryz.prog 17 [.c (.p (.sl 1 (encB z)))] [] fun r h => r = .tup [.c (.p (.sl 7 (encE (refReadE z).1))), .c (.p (.i .i64 (refReadE z).2))] ∧ h = [] := by
  have c0 := rfU16_c (r := ⟨z, false⟩) hz
  have b0 := (Rd.mk z false).len_num 2
  have n0 := (Rd.mk z false).num_lt2
  have hP : refReadE z = resE z (Rd.ensR ((Rd.mk z false).num 2).1 ((Rd.mk z false).num 2).2) := rfl
  rw [hP]
  clear hP
  simp only at b0 c0
  generalize (Rd.mk z false).num 2 = c at c0 b0 n0 ⊢
  obtain ⟨m, r0⟩ := c
  simp only at c0 b0 n0 ⊢
  generalize hG : Rd.ensR m r0 = G
  have hr0 : r0.b.length ≤ 140737488355328 := Nat.le_trans b0 hz
  clear b0
  refine dcalls_wk ?_
  refine ent tabOK hmix Tryz.func17 rfl rfl fun X0 hX => ?_
  simp only [Tryz.f17, go_sem]
  repeat' (first | simp only [*, go_sem, Nat.reduceLT, Nat.reduceLeDiff, Nat.reduceEqDiff, ↓reduceIte, Nat.reduceAdd, ] | ((with_reducible refine useB (c0) ?_ ?_ ?_); (focus exact rfl); (focus exact rfl)))
  refine vc_virt tabOK hmix 5 7 rfl ?_
  refine loop_renS (α := Nat × Rd × List En) (fun x => ⟨76, [(0, .c (.p (.sl 1 (encB z)))), (4, .c (.ptr 0 0)), (6, .c (.p (.i .i64 x.1))), (5, .c (.own 1 0 x.2.2.length))], [.box [.p (.sl 1 (encB x.2.1.b)), .p (.b x.2.1.l)], .arr 7 (encE x.2.2) false]⟩)
    (fun x => x.2.2.length + x.1 ≤ 65535 ∧ x.2.1.b.length ≤ 140737488355328 ∧ (∀ y ∈ x.2.2, y.p.length ≤ 65535 ∧ y.n.d.length ≤ 65535) ∧ (Rd.ensR x.1 x.2.1).map (fun y => (x.2.2 ++ y.1, y.2)) = G) (fun x => x.1) (m, r0, []) ⟨by simp only [List.length_nil]; omega, hr0, (by intro y hy; cases hy), by simp only [hG, List.nil_append]; cases G <;> rfl⟩ (.inl (weak_mk (by rw [hX]; rfl) rfl rfl (by simp [wk_cons, wk_nil, look_cons, closedD, closedC, ]))) ?_
  clear c0 hG n0 hr0
  rintro ⟨n, ⟨rb, rl⟩, out⟩ ⟨hn, hb, ho, hJ⟩
  simp only at hn hb ho hJ
  by_cases hgo : n ≠ 0 ∧ rl = false
  · obtain ⟨g1, rfl⟩ := hgo
    obtain ⟨n, rfl⟩ := Nat.exists_eq_succ_of_ne_zero g1
    have h1 : decide ((0 : Int) < ((n + 1 : Nat) : Int)) = true := decide_eq_true (by omega)
    have w1 : IntKind.i64.wrap (((n + 1 : Nat) : Int) - 1) = n := by rw [wrap_i64 (by omega) (by omega)]; omega
    have ct := rfText_c (r := ⟨rb, false⟩) hb
    have bt := Nat.le_trans (Rd.mk rb false).len_text hb
    have tl := (Rd.mk rb false).text_le
    have cu := rfU8_c (r := (Rd.mk rb false).text.2) bt
    have bu := Nat.le_trans ((Rd.mk rb false).text.2.len_num 1) bt
    have cv := rfU8_c (r := ((Rd.mk rb false).text.2.num 1).2) bu
    have bv := Nat.le_trans (((Rd.mk rb false).text.2.num 1).2.len_num 1) bu
    have ck := rfTake_c (r := (((Rd.mk rb false).text.2.num 1).2.num 1).2) bv
    have bk := Nat.le_trans (((Rd.mk rb false).text.2.num 1).2.num 1).2.len_node bv
    rw [Rd.ensR, if_neg (by intro h; cases h)] at hJ
    unfold Rd.enOk Rd.enG Rd.opt Rd.optOk opR at hJ
    generalize (Rd.mk rb false).text = x1 at ct cu bt bu cv bv ck bk hJ tl
    obtain ⟨p, r1⟩ := x1
    simp only at ct cu bt bu cv bv ck bk hJ tl
    generalize r1.num 1 = x2 at cu bu cv bv ck bk hJ
    obtain ⟨kn, r2⟩ := x2
    simp only at cu bu cv bv ck bk hJ
    generalize r2.num 1 = x3 at cv bv ck bk hJ
    obtain ⟨on, r3⟩ := x3
    simp only at cv bv ck bk hJ
    clear g1
    obtain ⟨ob, hob⟩ : ∃ ob, ((on : Int) == 1) = ob := ⟨_, rfl⟩
    rw [hob] at hJ
    obtain ⟨e0, he0⟩ : ∃ e : List UInt8, e = [] := ⟨[], rfl⟩
    have he0l : e0.length ≤ 65535 := by rw [he0]; decide
    have hz0 : nd0 = ⟨0, 0, 0, e0⟩ := by rw [he0]; rfl
    rw [hz0] at hJ
    clear hz0
    have hPJ : PLift _ := ⟨hJ⟩
    have hPE := PLift.up he0
    have hPo := PLift.up ho
    have hol : out.length ≤ 65535 := by omega
    clear hJ he0 ho
    refine swp_first tabOK hmix ?_
    repeat' (simp only [*, go_sem, Nat.reduceLT, Nat.reduceEqDiff, ↓reduceIte, ])
    refine swp_seq_block ?_
    refine swp_first tabOK hmix ?_
    repeat' (first | simp only [*, go_sem, Nat.reduceLT, Nat.reduceLeDiff, Nat.reduceEqDiff, ↓reduceIte, Nat.reduceAdd, ] | ((with_reducible refine useB (ct) ?_ ?_ ?_); (focus exact rfl); (focus exact rfl)))
    refine swp_box 2 [.p (.s p), .p (.i .i64 0), .p (.b false), .p (.i .i64 0), .p (.i .i64 0), .p (.f 0), .p .nil] [.p (.s p), .p (.i .i64 0), .p (.b false), .p (.i .i64 0), .p (.i .i64 0), .p (.f 0), .p (.sl 1 (encB e0))] rfl rfl ⟨.inl rfl, .inl rfl, .inl rfl, .inl rfl, .inl rfl, .inl rfl, .inr ⟨rfl, 1, by rw [hPE.down]; rfl⟩, trivial⟩ ?_
    refine swp_vc tabOK hmix ?_
    have hJ := hPJ.down
    clear hPJ
    cases k1 : ((kn : Int) == 1)
    · simp only [k1, Bool.not_false, Bool.true_or, if_true] at hJ
      clear ck bk
      have hJ2 : (out ++ [(⟨p, kn, ob, ⟨0, 0, 0, e0⟩⟩ : En)]).length + n ≤ 65535 ∧ r3.b.length ≤ 140737488355328 ∧ (∀ y ∈ out ++ [(⟨p, kn, ob, ⟨0, 0, 0, e0⟩⟩ : En)], y.p.length ≤ 65535 ∧ y.n.d.length ≤ 65535) ∧ (Rd.ensR n r3).map (fun y => ((out ++ [(⟨p, kn, ob, ⟨0, 0, 0, e0⟩⟩ : En)]) ++ y.1, y.2)) = G := by
        refine ⟨by simp; omega, bv, fun y hy => ?_, ?_⟩
        · rcases List.mem_append.1 hy with hy | hy
          · exact hPo.down y hy
          · have : y = ⟨p, kn, ob, ⟨0, 0, 0, e0⟩⟩ := by simpa using hy
            subst this; exact ⟨tl, he0l⟩
        · rw [← hJ]
          cases Rd.ensR n r3 with
          | none => rfl
          | some y => simp
      have hP2 := PLift.up hJ2
      clear hJ hJ2
      repeat' (first | simp only [*, go_sem, Nat.reduceLT, Nat.reduceLeDiff, Nat.reduceEqDiff, ↓reduceIte, Nat.reduceAdd, Nat.reduceMul, Nat.reduceBEq, ] | ((with_reducible refine useB (cu) ?_ ?_ ?_); (focus exact rfl); (focus exact rfl)) | ((with_reducible refine useB (cv) ?_ ?_ ?_); (focus exact rfl); (focus exact rfl)) | ((with_reducible refine And.intro ?_ ?_); (focus (first | omega | decide))))
      refine swp_vc tabOK hmix ?_
      repeat' (simp only [*, go_sem, Nat.reduceLT, Nat.reduceEqDiff, ↓reduceIte, ])
      first
        | exact qr_ren (n, r3, out ++ [⟨p, kn, ob, ⟨0, 0, 0, e0⟩⟩]) 1 4 hP2.down (by simp only; omega) rfl rfl (weak_mk rfl rfl rfl (by simp [wk_cons, wk_nil, look_cons, closedD, closedC, renT, renD, renC, ]))
        | trace_state
    · simp only [k1, Bool.not_true, Bool.false_or, Bool.false_eq_true, if_false] at hJ
      have td := r3.take_d
      generalize r3.take = tk at ck hJ td
      generalize r3.node.2 = r4 at ck bk hJ
      obtain ⟨⟨k, md, tt, d⟩, ok⟩ := tk
      simp only at ck hJ td
      cases ok
      · rw [if_neg (by decide)] at hJ
        have hJ2 : none = G := hJ
        subst hJ2
        clear hJ
        repeat' (first | simp only [*, go_sem, Nat.reduceLT, Nat.reduceLeDiff, Nat.reduceEqDiff, ↓reduceIte, Nat.reduceAdd, resE_none, Bool.not_false] | ((with_reducible refine useB (cu) ?_ ?_ ?_); (focus exact rfl); (focus exact rfl)) | ((with_reducible refine useB (cv) ?_ ?_ ?_); (focus exact rfl); (focus exact rfl)) | ((with_reducible refine useB (ck) ?_ ?_ ?_); (focus exact rfl); (focus exact rfl)))
        all_goals exact .inr ⟨_, rfl⟩
      · rw [if_pos rfl] at hJ
        have hJ2 : (out ++ [(⟨p, kn, ob, ⟨k, md, tt, d⟩⟩ : En)]).length + n ≤ 65535 ∧ r4.b.length ≤ 140737488355328 ∧ (∀ y ∈ out ++ [(⟨p, kn, ob, ⟨k, md, tt, d⟩⟩ : En)], y.p.length ≤ 65535 ∧ y.n.d.length ≤ 65535) ∧ (Rd.ensR n r4).map (fun y => ((out ++ [(⟨p, kn, ob, ⟨k, md, tt, d⟩⟩ : En)]) ++ y.1, y.2)) = G := by
          refine ⟨by simp; omega, bk, fun y hy => ?_, ?_⟩
          · rcases List.mem_append.1 hy with hy | hy
            · exact hPo.down y hy
            · have : y = ⟨p, kn, ob, ⟨k, md, tt, d⟩⟩ := by simpa using hy
              subst this; exact ⟨tl, td⟩
          · rw [← hJ]
            cases Rd.ensR n r4 with
            | none => rfl
            | some y => simp
        have hP2 := PLift.up hJ2
        clear hJ hJ2
        repeat' (first | simp only [*, go_sem, Nat.reduceLT, Nat.reduceLeDiff, Nat.reduceEqDiff, ↓reduceIte, Nat.reduceAdd, Nat.reduceMul, Nat.reduceBEq, Bool.not_true] | ((with_reducible refine useB (cu) ?_ ?_ ?_); (focus exact rfl); (focus exact rfl)) | ((with_reducible refine useB (cv) ?_ ?_ ?_); (focus exact rfl); (focus exact rfl)) | ((with_reducible refine useB (ck) ?_ ?_ ?_); (focus exact rfl); (focus exact rfl)) | ((with_reducible refine And.intro ?_ ?_); (focus (first | omega | decide))))
        refine swp_vc tabOK hmix ?_
        repeat' (simp only [*, go_sem, Nat.reduceLT, Nat.reduceEqDiff, ↓reduceIte, ])
        first
          | exact qr_ren (n, r4, out ++ [⟨p, kn, ob, ⟨k, md, tt, d⟩⟩]) 1 5 hP2.down (by simp only; omega) rfl rfl (weak_mk rfl rfl rfl (by simp [wk_cons, wk_nil, look_cons, closedD, closedC, renT, renD, renC, ]))
          | trace_state
  · have hout : some (out, Rd.mk rb rl) = G := by
      rw [← hJ]
      cases n with
      | zero => simp [Rd.ensR]
      | succ n =>
        have : rl = true := by simpa using hgo
        simp [Rd.ensR, this]
    clear hJ
    subst hout
    have hpp : ∀ x ∈ out, x.p.length ≤ 1000000 := fun x hx => Nat.le_trans (ho x hx).1 (by decide)
    have hdd : ∀ x ∈ out, x.n.d.length ≤ 1000000000 := fun x hx => Nat.le_trans (ho x hx).2 (by decide)
    have hll := refLayEN_c (l := out) (by omega) hpp hdd
    have hly := refLayE_c (l := out) (by omega) hpp hdd
    have hsp : n = 0 ∨ (decide ((0 : Int) < (n : Int)) = true ∧ rl = true) := by
      by_cases h0 : n = 0
      · exact .inl h0
      · exact .inr ⟨decide_eq_true (by omega), by simpa [h0] using hgo⟩
    rw [resE_some]
    simp only
    clear ho hgo hpp hdd
    refine swp_vc tabOK hmix ?_
    cases hrt : rightE out
    · have hl := hll hrt
      clear hll hly
      simp only [Bool.not_false, Bool.true_or, if_true]
      rcases hsp with rfl | ⟨h0, rfl⟩
      · cases rl
        all_goals repeat' (first | simp only [*, go_sem, Nat.reduceLT, Nat.reduceEqDiff, ↓reduceIte, Int.reduceLT, Int.reduceBNe, ] | ((with_reducible refine useN (hl) ?_ ?_ ?_); (focus exact rfl); (focus exact fun _ => rfl)) | ((with_reducible apply DCalls.frz); (focus exact rfl); (focus exact rfl)))
        all_goals first | exact .inr ⟨_, rfl⟩ | trace_state
      · skip
        repeat' (first | simp only [*, go_sem, Nat.reduceLT, Nat.reduceEqDiff, ↓reduceIte, Int.reduceBNe, Bool.not_true] | ((with_reducible refine useN (hl) ?_ ?_ ?_); (focus exact rfl); (focus exact fun _ => rfl)) | ((with_reducible apply DCalls.frz); (focus exact rfl); (focus exact rfl)))
        all_goals first | exact .inr ⟨_, rfl⟩ | trace_state
    · have hl := hly hrt
      clear hll hly
      simp only [Bool.not_true, Bool.false_or]
      have hne : (layEs out != z) = !(layEs out == z) := rfl
      cases hq : (layEs out == z)
      all_goals rw [hq] at hne
      all_goals rcases hsp with rfl | ⟨h0, rfl⟩
      all_goals try cases rl
      all_goals simp only [Bool.not_true, Bool.not_false, Bool.or_true, Bool.or_false, if_true, Bool.false_eq_true, if_false] at hne ⊢
      all_goals repeat' (first | simp only [*, go_sem, Nat.reduceLT, Nat.reduceEqDiff, ↓reduceIte, Int.reduceLT, bne_self_eq_false, Bool.not_true, Bool.not_false] | ((with_reducible refine useN (hl) ?_ ?_ ?_); (focus exact rfl); (focus exact fun _ => rfl)) | ((with_reducible apply DCalls.frz); (focus exact rfl); (focus exact rfl)))
      all_goals first | exact .inr ⟨_, rfl⟩ | trace_state
end Go.Proofs.YtjpmajeekikdhaaGreatDoor

end
