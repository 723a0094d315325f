import Derived.Test.YtjpmajeekikdhaaGreatDoorN8
import Derived.Test.YtjpmajeekikdhaaGreatDoorG0
import Derived.Test.YtjpmajeekikdhaaGreatDoorLA
import Derived.Test.YtjpmajeekikdhaaGreatDoorVE
import Derived.Test.YtjpmajeekikdhaaGreatDoorG1

section
/-
  Contract: may a list of entries be a layer, as the program asks it.
-/

set_option linter.unusedSimpArgs false
set_option linter.unusedVariables false
namespace Go.Proofs.YtjpmajeekikdhaaGreatDoor
open Go Go.Dm Go.Proofs
set_option maxRecDepth 100000
set_option maxHeartbeats 8000000

theorem openE_step {l : List En} {k j : Nat} {z : En} {p : List UInt8} (h : (l.take k)[j]? = some z) : ((l.take k).drop j).all (fun y => !(shutE y && belowR y.p p)) = (!(shutE z && belowR z.p p) && ((l.take k).drop (j + 1)).all (fun y => !(shutE y && belowR y.p p))) := by
  obtain ⟨hj, rfl⟩ := List.getElem?_eq_some_iff.1 h
  rw [List.drop_eq_getElem_cons hj, List.all_cons]

theorem layerRightG_c {l : List En} (hll : l.length ≤ 1000000) (hp : ∀ x ∈ l, x.p.length ≤ 1000000) (ht : ∀ x ∈ l, x.n.t < 18446744073709551616) :
    DCalls Tryz.prog 12 [.c (.p (.sl 7 (encE l)))] [] fun r h => r = .c (.p (.b (rightE l))) ∧ h = [] := by
  obtain ⟨R, hR⟩ : ∃ R, rightE l = R := ⟨_, rfl⟩
  rw [hR]
  have hR0 : rightGE (l.take 0) (l.drop 0) = R := hR
  clear hR
  refine entS tabOK Tryz.func12 rfl rfl fun X0 hX => ?_
  simp only [Tryz.f12, go_sem]
  refine swp_first tabOK hmix ?_
  repeat' (simp only [*, go_sem, Nat.reduceLT, ])
  refine swp_join tabOK hmix (α := Unit) (fun _ => ⟨51, [], []⟩) (fun _ => R = true) ?_ ?_
  · repeat' (simp only [*, go_sem, Nat.reduceLT, Nat.reduceEqDiff, ↓reduceIte, ])
    refine loop_renS (α := Nat) (fun k => ⟨51, [(0, .c (.p (.sl 7 (encE l)))), (7, .c (.p (.sl 7 (encE l)))), (8, .c (.p (.i .i64 l.length))), (9, .c (.p (.i .i64 k)))], []⟩)
      (fun k => k ≤ l.length ∧ rightGE (l.take k) (l.drop k) = R) (fun k => l.length - k) 0 ⟨Nat.zero_le _, hR0⟩ (.inl (weak_mk (by rw [hX]; rfl) rfl rfl (by simp [wk_cons, wk_nil, look_cons, closedD, closedC, ]))) ?_
    clear hR0
    rintro k ⟨hk, hs⟩
    by_cases hlt : k < l.length
    · have hx : l[k]? = some l[k] := List.getElem?_eq_getElem hlt
      have hg := encE_at hx
      have hdr := rightE_drop hx
      rw [hdr] at hs
      have h1 : decide ((k : Int) < (l.length : Int)) = true := decide_eq_true (by omega)
      have w1 : IntKind.i64.wrap ((k : Int) + 1) = k + 1 := wrap_i64 (by omega) (by omega)
      have hk0 : (0 : Int) ≤ k := by omega
      have hkl : (k : Int) ≤ l.length := by omega
      have prev : (k = 0 ∧ aheadE (l.take k) l[k].p = true) ∨ ∃ m : Nat, ∃ y : En, decide ((0 : Int) < k) = true ∧ IntKind.i64.wrap ((k : Int) - 1) = (m : Int) ∧ m < l.length ∧ l[m]? = some y ∧ (bltL l[k].p y.p || l[k].p == y.p) = !aheadE (l.take k) l[k].p := by
        by_cases h0 : 0 < k
        · have hmk : k - 1 < l.length := by omega
          refine .inr ⟨k - 1, l[k - 1], decide_eq_true (by omega), ?_, hmk, List.getElem?_eq_getElem hmk, ?_⟩
          · rw [wrap_i64 (by omega) (by omega)]; omega
          · unfold aheadE
            rw [getLast_takeE h0 hk, List.getElem?_eq_getElem hmk]
            exact le_not_lt _ _
        · have : k = 0 := by omega
          subst this
          exact .inl ⟨rfl, rfl⟩
      have p1 := hp _ (List.getElem_mem hlt)
      have p2 := ht _ (List.getElem_mem hlt)
      clear hdr ht
      generalize l[k] = x at hx hg prev p1 p2 hs
      unfold stepE at hs
      have hc := mayE_c (p := x.p) (k := x.k) (o := x.o) (nk := x.n.k) (nm := x.n.m) (nt := x.n.t) (nd := x.n.d) (by omega) p2
      rw [show (⟨x.p, x.k, x.o, ⟨x.n.k, x.n.m, x.n.t, x.n.d⟩⟩ : En) = x from rfl] at hc
      have htk : (l.take k).length = k := by rw [List.length_take]; omega
      have hoe : openE (l.take k) x.p = ((l.take k).drop 0).all (fun y => !(shutE y && belowR y.p x.p)) := rfl
      generalize mayE x = me at hc hs
      generalize aheadE (l.take k) x.p = ah at prev hs
      generalize openE (l.take k) x.p = oe at hs hoe
      generalize hnx : rightGE (l.take (k + 1)) (l.drop (k + 1)) = nx at hs
      have hN := PLift.up hnx
      have hO := PLift.up hoe
      clear hx hnx hoe
      refine swp_first tabOK hmix ?_
      repeat' (simp only [*, go_sem, Nat.reduceLT, Nat.reduceEqDiff, ↓reduceIte, ])
      refine swp_first tabOK hmix ?_
      repeat' (simp only [*, go_sem, ↓reduceIte, ])
      refine swp_seq_block ?_
      refine swp_first tabOK hmix ?_
      repeat' (first | simp only [*, go_sem, Nat.reduceLT, Nat.reduceLeDiff, Nat.reduceEqDiff, ↓reduceIte, Nat.reduceAdd, ] | ((with_reducible refine And.intro ?_ ?_); (focus (omega))))
      refine swp_join tabOK hmix (α := Unit) (fun _ => ⟨51, [(0, .c (.p (.sl 7 (encE l)))), (7, .c (.p (.sl 7 (encE l)))), (8, .c (.p (.i .i64 l.length))), (9, .c (.p (.i .i64 k))), (3, .c (.p (.i .i64 k))), (4, .c (.ptr 0 0))], [.box (ecv x.p x.k x.o x.n.k x.n.m x.n.t x.n.d)]⟩) (fun _ => me = true ∧ ah = true) ?_ ?_
      · cases me
        · rw [Bool.false_and, Bool.false_and] at hs
          subst hs
          rcases prev with ⟨h0, b1⟩ | ⟨m, y, b1, b2, b3, b4, b5⟩
          · have b2 : decide ((0 : Int) < (k : Int)) = false := decide_eq_false (by omega)
            clear h0
            repeat' (first | simp only [*, go_sem, Nat.reduceLT, ↓reduceIte, ] | ((refine vc_drawn (id := 4) tabOK hmix [] [0,1,2,3,4,5,6,7,8,9,10,11,12,13,14,15,16,17] (by decide +kernel) ?_); (repeat' (first | (refine ds_nil ?_) | ((refine ds_one ?_ rfl rfl ?_ ?_); (rotate_left 1); (focus ((repeat' (first | simp only [*, go_sem, Nat.reduceLT, Nat.reduceLeDiff, Nat.reduceEqDiff, ↓reduceIte, Nat.reduceAdd, Bool.not_false] | ((with_reducible refine useF (hc) ?_ ?_ ?_); (focus exact rfl); (focus exact rfl)))); exact rfl)); (simp only [putF_some]))))))
          · have hgy := encE_at b4
            have b6 : (m : Int) < l.length := by omega
            repeat' (first | simp only [*, go_sem, Nat.reduceLT, ↓reduceIte, ] | ((refine vc_drawn (id := 4) tabOK hmix [] [0,1,2,3,4,5,6,7,8,9,10,11,12,13,14,15,16,17] (by decide +kernel) ?_); (repeat' (first | (refine ds_nil ?_) | ((refine ds_one ?_ rfl rfl ?_ ?_); (rotate_left 1); (focus ((repeat' (first | simp only [*, go_sem, Nat.reduceLT, Nat.reduceLeDiff, Nat.reduceEqDiff, ↓reduceIte, Nat.reduceAdd, Bool.not_false] | ((with_reducible refine useF (hc) ?_ ?_ ?_); (focus exact rfl); (focus exact rfl)))); exact rfl)); (simp only [putF_some]))))))
        · rcases prev with ⟨h0, b1⟩ | ⟨m, y, b1, b2, b3, b4, b5⟩
          · have b2 : decide ((0 : Int) < (k : Int)) = false := decide_eq_false (by omega)
            clear h0 hs
            repeat' (first | simp only [*, go_sem, ↓reduceIte, ] | ((refine vc_drawn (id := 4) tabOK hmix [] [0,1,2,3,4,5,6,7,8,9,10,11,12,13,14,15,16,17] (by decide +kernel) ?_); (repeat' (first | (refine ds_nil ?_) | ((refine ds_one ?_ rfl rfl ?_ ?_); (rotate_left 1); (focus ((repeat' (first | simp only [*, go_sem, Nat.reduceLT, Nat.reduceLeDiff, Nat.reduceEqDiff, ↓reduceIte, Nat.reduceAdd, Bool.not_true] | ((with_reducible refine useF (hc) ?_ ?_ ?_); (focus exact rfl); (focus exact rfl)))); exact rfl)); (simp only [putF_some]))))))
            exact qj_n () (by first | exact ⟨rfl, b1⟩ | trivial) (weak_mk (by first | rfl | (rw [hX]; rfl)) rfl rfl (by simp [wk_cons, wk_nil, look_cons, closedD, closedC, ]))
          · have hgy := encE_at b4
            have b6 : (m : Int) < l.length := by omega
            cases ah
            · rw [Bool.false_and, Bool.and_false, Bool.false_and] at hs
              subst hs
              rw [Bool.not_false] at b5
              repeat' (first | simp only [*, go_sem, Nat.reduceLT, ↓reduceIte, ] | ((refine vc_drawn (id := 4) tabOK hmix [] [0,1,2,3,4,5,6,7,8,9,10,11,12,13,14,15,16,17] (by decide +kernel) ?_); (repeat' (first | (refine ds_nil ?_) | ((refine ds_one ?_ rfl rfl ?_ ?_); (rotate_left 1); (focus ((repeat' (first | simp only [*, go_sem, Nat.reduceLT, Nat.reduceLeDiff, Nat.reduceEqDiff, ↓reduceIte, Nat.reduceAdd, Bool.not_true] | ((with_reducible refine useF (hc) ?_ ?_ ?_); (focus exact rfl); (focus exact rfl)) | ((with_reducible refine And.intro ?_ ?_); (focus (omega))))); exact rfl)); (simp only [putF_some]))))))
            · rw [Bool.not_true] at b5
              clear hs
              repeat' (first | simp only [*, go_sem, ↓reduceIte, ] | ((refine vc_drawn (id := 4) tabOK hmix [] [0,1,2,3,4,5,6,7,8,9,10,11,12,13,14,15,16,17] (by decide +kernel) ?_); (repeat' (first | (refine ds_nil ?_) | ((refine ds_one ?_ rfl rfl ?_ ?_); (rotate_left 1); (focus ((repeat' (first | simp only [*, go_sem, Nat.reduceLT, Nat.reduceLeDiff, Nat.reduceEqDiff, ↓reduceIte, Nat.reduceAdd, Bool.not_true] | ((with_reducible refine useF (hc) ?_ ?_ ?_); (focus exact rfl); (focus exact rfl)) | ((with_reducible refine And.intro ?_ ?_); (focus (omega))))); exact rfl)); (simp only [putF_some]))))))
              exact qj_n () (by first | exact ⟨rfl, rfl⟩ | trivial) (weak_mk (by first | rfl | (rw [hX]; rfl)) rfl rfl (by simp [wk_cons, wk_nil, look_cons, closedD, closedC, ]))
      rintro - ⟨m1, m2⟩
      subst m1; subst m2
      rw [Bool.true_and, Bool.true_and] at hs
      clear hc prev
      refine swp_vc tabOK hmix ?_
      repeat' (simp only [*, go_sem, Nat.reduceLT, Nat.reduceEqDiff, ↓reduceIte, Int.reduceLE, Int.reduceToNat, ])
      refine loop_renS (α := Nat) (fun j => ⟨51, [(0, .c (.p (.sl 7 (encE l)))), (7, .c (.p (.sl 7 (encE l)))), (8, .c (.p (.i .i64 l.length))), (9, .c (.p (.i .i64 k))), (4, .c (.ptr 0 0)), (34, .c (.p (.sl 7 (encE (l.take k))))), (35, .c (.p (.i .i64 k))), (36, .c (.p (.i .i64 j)))], [.box (ecv x.p x.k x.o x.n.k x.n.m x.n.t x.n.d)]⟩)
        (fun j => j ≤ k ∧ ((l.take k).drop j).all (fun y => !(shutE y && belowR y.p x.p)) = oe) (fun j => k - j) 0 ⟨Nat.zero_le _, hO.down.symm⟩ (.inl (weak_mk (by first | rfl | (rw [hX]; rfl)) rfl rfl (by simp [wk_cons, wk_nil, look_cons, closedD, closedC, ]))) ?_
      rintro j ⟨hj, ha⟩
      by_cases hjk : j < k
      · have hjl : j < l.length := by omega
        have hz : (l.take k)[j]? = some l[j] := by rw [List.getElem?_take, if_pos hjk]; exact List.getElem?_eq_getElem hjl
        have hgz := encE_at hz
        rw [openE_step hz] at ha
        have hzp := hp _ (List.getElem_mem hjl)
        have h2 : decide ((j : Int) < (k : Int)) = true := decide_eq_true (by omega)
        have w2 : IntKind.i64.wrap ((j : Int) + 1) = j + 1 := wrap_i64 (by omega) (by omega)
        have hjk2 : (j : Int) < (k : Int) := by omega
        have hjm : (j : Int) < (min k l.length : Nat) := by omega
        have hj0 : (0 : Int) ≤ j := by omega
        generalize l[j] = z at hz hgz hzp ha
        have hsh := shutE_c (p := z.p) (k := z.k) (o := z.o) (nk := z.n.k) (nm := z.n.m) (nt := z.n.t) (nd := z.n.d)
        rw [show (⟨z.p, z.k, z.o, ⟨z.n.k, z.n.m, z.n.t, z.n.d⟩⟩ : En) = z from rfl] at hsh
        clear hp hz
        generalize shutE z = sz at hsh ha
        have hbz : belowR z.p x.p = belowR z.p x.p := rfl
        clear hbz
        refine swp_vc tabOK hmix ?_
        cases sz
        · rw [Bool.false_and, Bool.not_false, Bool.true_and] at ha
          have hA := PLift.up ha
          clear ha
          repeat' (first | simp only [*, go_sem, Nat.reduceLT, Nat.reduceLeDiff, Nat.reduceEqDiff, ↓reduceIte, Nat.reduceAdd, ] | ((with_reducible refine useF (hsh) ?_ ?_ ?_); (focus exact rfl); (focus exact rfl)))
          exact qr_n (j + 1) ⟨by omega, hA.down⟩ (by omega) (weak_mk rfl rfl rfl (by simp [wk_cons, wk_nil, look_cons, closedD, closedC, ]))
        · rw [Bool.true_and] at ha
          cases hbz : belowR z.p x.p
          · rw [hbz, Bool.not_false, Bool.true_and] at ha
            have hA := PLift.up ha
            clear ha
            repeat' (first | simp only [*, go_sem, Nat.reduceLT, Nat.reduceLeDiff, Nat.reduceEqDiff, ↓reduceIte, Nat.reduceAdd, ] | ((with_reducible refine useF (hsh) ?_ ?_ ?_); (focus exact rfl); (focus exact rfl)) | ((with_reducible refine useF (nameBelow_c (p := z.p) (by omega)) ?_ ?_ ?_); (focus exact rfl); (focus exact rfl)))
            exact qr_n (j + 1) ⟨by omega, hA.down⟩ (by omega) (weak_mk rfl rfl rfl (by simp [wk_cons, wk_nil, look_cons, closedD, closedC, ]))
          · rw [hbz, Bool.not_true, Bool.false_and] at ha
            subst ha
            rw [Bool.false_and] at hs
            subst hs
            repeat' (first | simp only [*, go_sem, Nat.reduceLT, Nat.reduceLeDiff, Nat.reduceEqDiff, ↓reduceIte, Nat.reduceAdd, ] | ((with_reducible refine useF (hsh) ?_ ?_ ?_); (focus exact rfl); (focus exact rfl)) | ((with_reducible refine useF (nameBelow_c (p := z.p) (by omega)) ?_ ?_ ?_); (focus exact rfl); (focus exact rfl)))
      · have h2 : decide ((j : Int) < (k : Int)) = false := decide_eq_false (by omega)
        rw [List.drop_of_length_le (by omega), List.all_nil] at ha
        subst ha
        rw [Bool.true_and] at hs
        have hS := PLift.up hs
        clear hp hs
        refine swp_vc tabOK hmix ?_
        repeat' (simp only [*, go_sem, Nat.reduceLT, Nat.reduceEqDiff, ↓reduceIte, ])
        refine swp_vc tabOK hmix ?_
        repeat' (simp only [*, go_sem, Nat.reduceLT, Nat.reduceEqDiff, ↓reduceIte, ])
        exact qr_n (k + 1) ⟨by omega, by rw [hN.down]; exact hS.down⟩ (by omega) (weak_mk rfl rfl rfl (by simp [wk_cons, wk_nil, look_cons, closedD, closedC, ]))
    · have h1 : decide ((k : Int) < (l.length : Int)) = false := decide_eq_false (by omega)
      rw [List.take_of_length_le (by omega), List.drop_of_length_le (by omega)] at hs
      have hS : R = true := hs.symm
      clear hp ht hs
      refine swp_first tabOK hmix ?_
      repeat' (simp only [*, go_sem, Nat.reduceLT, Nat.reduceEqDiff, ↓reduceIte, ])
      refine swp_first tabOK hmix ?_
      repeat' (simp only [*, go_sem, ↓reduceIte, ])
      exact qj_n () (by first | exact hS | trivial) (weak_mk (by rw [hX]; rfl) rfl rfl (by simp [wk_nil, ]))
  rintro - hS
  subst hS
  refine swp_vc tabOK hmix ?_
  repeat' (simp only [*, go_sem, Nat.reduceLT, ↓reduceIte, ])
end Go.Proofs.YtjpmajeekikdhaaGreatDoor

end

section
/-
  Contracts: a layer's bytes, by the program. Printed by wip/tools/gen32.py.
-/

set_option linter.unusedSimpArgs false
set_option linter.unusedVariables false
namespace Go.Proofs.YtjpmajeekikdhaaGreatDoor
open Go Go.Dm Go.Proofs
set_option maxRecDepth 100000
set_option maxHeartbeats 8000000

theorem layerLayN_c {l : List En} (hl : l.length ≤ 1000000) (hp : ∀ x ∈ l, x.p.length ≤ 1000000) (ht : ∀ x ∈ l, x.n.t < 18446744073709551616) (hr : rightE l = false) :
    DCalls Tryz.prog 9 [.c (.p (.sl 7 (encE l)))] [] fun r h => r = .tup [.c (.p (.sl 1 (encB []))), .c (.p (.i .i64 1))] ∧ h = [] := by
  have hc := layerRightG_c hl hp ht
  rw [hr] at hc
  refine dcalls_wk ?_
  refine ent tabOK hmix Tryz.func9 rfl rfl fun X0 hX => ?_
  simp only [Tryz.f9, go_sem]
  repeat' (first | simp only [*, go_sem, Nat.reduceLT, Nat.reduceEqDiff, ↓reduceIte, Bool.not_false] | ((with_reducible refine useF (hc) ?_ ?_ ?_); (focus exact rfl); (focus exact rfl)))
  all_goals first | (simp [encB]; done) | trace_state

theorem layerLayO_c {l : List En} (hl : l.length ≤ 65535) (hp : ∀ x ∈ l, x.p.length ≤ 1000000) (ht : ∀ x ∈ l, x.n.t < 18446744073709551616) (hr : rightE l = true) :
    DCalls Tryz.prog 9 [.c (.p (.sl 7 (encE l)))] [] fun r h => r = .tup [.c (.own 3 0 (layEs l).length), .c (.p (.i .i64 0))] ∧ h = [.box [.own 1 0 (layEs l).length], .arr 1 (encB (layEs l)) false, .dead, .arr 1 (encB (layEs l)) false] := by
  have hc := layerRightG_c (by omega) hp ht
  rw [hr] at hc
  have hmay := (rightE_ok hr).1
  have hle := layEs_len (t := l) fun x hx => by
    obtain ⟨g1, g2, _, g4⟩ := mayE_nodes (hmay x hx)
    refine ⟨by have := isPathR_len g4; omega, ?_⟩
    cases hk : (!(x.k == 1))
    · have := rightNodeR_len (g2 hk); omega
    · rw [g1 hk]; decide
  clear hr hp
  refine entS2 tabOK Tryz.func9 rfl rfl fun X0 hX => ?_
  simp only [Tryz.f9, go_sem]
  refine swp_first tabOK hmix ?_
  repeat' (simp only [*, go_sem, Nat.reduceLT, ])
  refine swp_first tabOK hmix ?_
  repeat' (first | simp only [*, go_sem, Nat.reduceLT, Nat.reduceEqDiff, ↓reduceIte, Bool.not_true] | ((with_reducible refine useF (hc) ?_ ?_ ?_); (focus exact rfl); (focus exact rfl)))
  clear hc
  refine swp_first tabOK hmix ?_
  repeat' (first | simp only [*, go_sem, Nat.reduceLT, ↓reduceIte, ] | refine newWriter_k ?_)
  refine swp_join tabOK hmix (α := Unit) (fun _ => ⟨53, [(0, .c (.p (.sl 7 (encE l)))), (4, .c (.ptr 0 0))], [.box [.own 1 0 (u16F l.length).length], .arr 1 (encB (u16F l.length)) false]⟩) (fun _ => True) ?_ ?_
  · skip
    repeat' (first | simp only [*, go_sem, Nat.reduceLT, Nat.reduceEqDiff, ↓reduceIte, Nat.reduceAdd, Int.reduceSub, wrap_i64_lit, ] | ((with_reducible refine entK tabOK hmix Tryz.func40 rfl rfl fun _ _ => ?_); simp only [Tryz.f40, go_sem]) | ((with_reducible refine entK tabOK hmix Tryz.func86 rfl rfl fun _ _ => ?_); simp only [Tryz.f86, go_sem]))
    refine loop_rounds tabOK hmix 3 ?_
    repeat' (first | simp only [*, go_sem, Nat.reduceLT, Nat.reduceEqDiff, ↓reduceIte, Int.reduceLE, Int.reduceSub, Int.reduceNeg, wrap_i64_lit, wrap_i64_m1, decide_true, decide_false, ] | ((refine vc_drawn (id := 3) tabOK hmix [10,11,14] [5,6,7,8,9,10,1,2,3,4,11,0,12,13,14] (by decide +kernel) ?_); (repeat' (first | (refine ds_nil ?_) | ((refine ds_chg ?_ ?_ rfl rfl rfl ?_ ?_); (rotate_left 2); (focus ((repeat' (first | simp only [*, go_sem, Nat.reduceLT, Nat.reduceLeDiff, Nat.reduceEqDiff, ↓reduceIte, Nat.reduceAdd, Nat.reduceBEq, encB_one1, encB_app] | ((with_reducible refine And.intro ?_ ?_); (focus (decide))))); ((refine And.intro ?_ ?_ <;> exact rfl)))); (simp only [putF_some, putF_none])) | ((refine ds_all ?_ rfl rfl rfl ?_ ?_); (rotate_left 1); (focus ((repeat' (first | exact allH_nil | refine allH_cons ?_ ?_)); (all_goals ((repeat' (simp only [*, go_sem, Nat.reduceLT, Nat.reduceLeDiff, Nat.reduceEqDiff, ↓reduceIte, Int.reduceLE, Int.reduceMul, Int.reduceToNat, wrap_i64_lit, Nat.min_def, ])); (try (exact rfl)))))); (simp only [putF_some]))))))
    first | exact qj_ren () 1 4 trivial (by first | rfl | (rw [hX]; rfl)) rfl (weak_mk (by first | rfl | (rw [hX]; rfl)) rfl rfl (by simp [wk_cons, wk_nil, look_cons, closedD, closedC, renT, renD, renC])) | exact qj_ren () 1 3 trivial (by first | rfl | (rw [hX]; rfl)) rfl (weak_mk (by first | rfl | (rw [hX]; rfl)) rfl rfl (by simp [wk_cons, wk_nil, look_cons, closedD, closedC, closedK, closedB, renT, renD, renC])) | exact qj_ren () 1 5 trivial (by first | rfl | (rw [hX]; rfl)) rfl (weak_mk (by first | rfl | (rw [hX]; rfl)) rfl rfl (by simp [wk_cons, wk_nil, look_cons, closedD, closedC, closedK, closedB, renT, renD, renC])) | exact qj_ren () 1 2 trivial (by first | rfl | (rw [hX]; rfl)) rfl (weak_mk (by first | rfl | (rw [hX]; rfl)) rfl rfl (by simp [wk_cons, wk_nil, look_cons, closedD, closedC, closedK, closedB, renT, renD, renC])) | exact qj_ren () 1 6 trivial (by first | rfl | (rw [hX]; rfl)) rfl (weak_mk (by first | rfl | (rw [hX]; rfl)) rfl rfl (by simp [wk_cons, wk_nil, look_cons, closedD, closedC, closedK, closedB, renT, renD, renC]))
  rintro - -
  refine swp_join tabOK hmix (α := Unit) (fun _ => ⟨53, [(4, .c (.ptr 0 0))], [.box [.own 1 0 (layEs l).length], .arr 1 (encB (layEs l)) false]⟩) (fun _ => True) ?_ ?_
  · repeat' (simp only [*, go_sem, Nat.reduceLT, ↓reduceIte, ])
    refine loop_renS (α := Nat × List UInt8) (fun x => ⟨53, [(0, .c (.p (.sl 7 (encE l)))), (4, .c (.ptr 0 0)), (18, .c (.p (.sl 7 (encE l)))), (19, .c (.p (.i .i64 l.length))), (20, .c (.p (.i .i64 x.1)))], [.box [.own 1 0 x.2.length], .arr 1 (encB x.2) false]⟩)
      (fun x => x.1 ≤ l.length ∧ x.2.length ≤ 2 + 10000 * x.1 ∧ u16F l.length ++ ((l.take x.1).map layEn).flatten = x.2) (fun x => l.length - x.1) (0, u16F l.length) ⟨Nat.zero_le _, by show 2 ≤ _; omega, by simp⟩ (.inl (weak_mk (by rw [hX]; rfl) rfl rfl (by simp [wk_cons, wk_nil, look_cons, closedD, closedC, ]))) ?_
    rintro ⟨k, B⟩ ⟨hk, hB, hJ⟩
    simp only at hk hB hJ
    by_cases hlt : k < l.length
    · have hx : l[k]? = some l[k] := List.getElem?_eq_getElem hlt
      have hg := encE_at hx
      have h1 : decide ((k : Int) < (l.length : Int)) = true := decide_eq_true (by omega)
      have hki : (k : Int) < (l.length : Int) := by omega
      have hk0 : (0 : Int) ≤ k := by omega
      have w1 : IntKind.i64.wrap ((k : Int) + 1) = k + 1 := wrap_i64 (by omega) (by omega)
      obtain ⟨_, m2, m5, m6⟩ := mayE_nodes (hmay _ (List.getElem_mem hlt))
      have ht1 := ht _ (List.getElem_mem hlt)
      have hpl := isPathR_len m6
      have hd1 : decide ((65535 : Int) < (l[k].p.length : Int)) = false := decide_eq_false (by omega)
      have hlay := fun h => layNode_c (k := l[k].n.k) (m := l[k].n.m) (d := l[k].n.d) ht1 (m2 h)
      have hdl := fun h => rightNodeR_len (m2 h)
      have hll := layNode_len l[k].n
      have hit : l.take (k + 1) = l.take k ++ [l[k]] := by rw [List.take_add_one, hx]; rfl
      have hJ1 : u16F l.length ++ ((l.take (k + 1)).map layEn).flatten = B ++ layEn l[k] := by rw [hit, List.map_append, List.flatten_append, ← List.append_assoc, hJ]; simp
      have hlE := layEn_len l[k]
      have hQ := PLift.up hJ1
      clear hJ hit hx hmay ht m2 m6 hJ1
      simp only [it_nd_eta] at hlay
      generalize hxx : l[k] = x at *
      clear hxx
      have hn1 : x.k == 1 ∨ (x.k == 1) = false := by cases x.k == 1 <;> simp
      obtain ⟨oi, hoi⟩ : ∃ oi : Int, (if x.o then (1 : Int) else 0) = oi := ⟨_, rfl⟩
      refine swp_first tabOK hmix ?_
      repeat' (simp only [*, go_sem, Nat.reduceLT, Nat.reduceEqDiff, ↓reduceIte, ])
      refine swp_first tabOK hmix ?_
      repeat' (simp only [*, go_sem, ↓reduceIte, ])
      refine swp_seq_block ?_
      refine swp_first tabOK hmix ?_
      repeat' (simp only [*, go_sem, Nat.reduceLT, Nat.reduceLeDiff, Nat.reduceEqDiff, ↓reduceIte, Nat.reduceAdd, ])
      obtain ⟨B1, hB1⟩ : ∃ B1, B ++ textF x.p = B1 := ⟨_, rfl⟩
      have hl1 : B1.length = B.length + 2 + x.p.length := by rw [← hB1, List.length_append, textF, List.length_append, u16F_len]; omega
      refine swp_join tabOK hmix (α := Unit) (fun _ => ⟨53, [(0, .c (.p (.sl 7 (encE l)))), (4, .c (.ptr 0 0)), (18, .c (.p (.sl 7 (encE l)))), (19, .c (.p (.i .i64 l.length))), (20, .c (.p (.i .i64 k))), (6, .c (.ptr 2 0))], [.box [.own 1 0 (B1).length], .arr 1 (encB (B1)) false, .box (ecv x.p x.k x.o x.n.k x.n.m x.n.t x.n.d)]⟩) (fun _ => True) ?_ ?_
      · clear hlay hdl hll hlE hoi hQ hn1
        have hP := PLift.up hB1
        have hP1 := PLift.up hl1
        clear hB1 hl1
        repeat' (first | simp only [*, go_sem, Nat.reduceLT, Nat.reduceEqDiff, ↓reduceIte, Nat.reduceAdd, Int.reduceSub, wrap_i64_lit, ] | ((with_reducible refine entK tabOK hmix Tryz.func40 rfl rfl fun _ _ => ?_); simp only [Tryz.f40, go_sem]) | ((with_reducible refine entK tabOK hmix Tryz.func86 rfl rfl fun _ _ => ?_); simp only [Tryz.f86, go_sem]) | ((with_reducible refine entR tabOK hmix Tryz.func41 rfl rfl fun _ _ => ?_); simp only [Tryz.f41, go_sem]) | ((with_reducible refine And.intro ?_ ?_); (focus (omega))))
        refine loop_rounds tabOK hmix 3 ?_
        repeat' (first | simp only [*, go_sem, Nat.reduceLT, Nat.reduceLeDiff, Nat.reduceEqDiff, ↓reduceIte, Nat.reduceAdd, Int.reduceLE, Int.reduceSub, Int.reduceNeg, Nat.reduceBEq, wrap_i64_lit, wrap_i64_m1, decide_true, decide_false, encB_app] | ((refine vc_drawn (id := 3) tabOK hmix [10,11,14] [5,6,7,8,9,10,1,2,3,4,11,0,12,13,14] (by decide +kernel) ?_); (repeat' (first | (refine ds_nil ?_) | ((refine ds_chg ?_ ?_ rfl rfl rfl ?_ ?_); (rotate_left 2); (focus ((repeat' (first | simp only [*, go_sem, Nat.reduceLT, Nat.reduceLeDiff, Nat.reduceEqDiff, ↓reduceIte, Nat.reduceAdd, Nat.reduceBEq, encB_one1, encB_app] | ((with_reducible refine And.intro ?_ ?_); (focus (first | omega | decide))))); ((refine And.intro ?_ ?_ <;> exact rfl)))); (simp only [putF_some, putF_none])) | ((refine ds_all ?_ rfl rfl rfl ?_ ?_); (rotate_left 1); (focus ((repeat' (first | exact allH_nil | refine allH_cons ?_ ?_)); (all_goals ((repeat' (simp only [*, go_sem, Nat.reduceLT, Nat.reduceLeDiff, Nat.reduceEqDiff, ↓reduceIte, Int.reduceLE, Int.reduceMul, Int.reduceToNat, wrap_i64_lit, Nat.min_def, ])); (try (exact rfl)))))); (simp only [putF_some]))))) | ((with_reducible refine entK tabOK hmix Tryz.func44 rfl rfl fun _ _ => ?_); simp only [Tryz.f44, go_sem]) | ((with_reducible refine And.intro ?_ ?_); (focus (omega))))
        have e1 : B ++ [UInt8.ofNat (IntKind.u8.wrap ((IntKind.u64.wrap ↑x.p.length).fdiv (2 ^ 8))).toNat] ++ [UInt8.ofNat (IntKind.u8.wrap ((IntKind.u64.wrap ↑x.p.length).fdiv (2 ^ 0))).toNat] ++ x.p = B1 := by rw [← hP.down]; simp [textF, u16F, byteI]
        have e2 : B.length + 1 + 1 + x.p.length = B1.length := by have := hP1.down; omega
        first | rw [e1, e2] | rw [e2]
        first | exact qj_ren () 1 8 trivial (by first | rfl | (rw [hX]; rfl)) rfl (weak_mk (by first | rfl | (rw [hX]; rfl)) rfl rfl (by simp [wk_cons, wk_nil, look_cons, closedD, closedC, renT, renD, renC])) | exact qj_ren () 1 7 trivial (by first | rfl | (rw [hX]; rfl)) rfl (weak_mk (by first | rfl | (rw [hX]; rfl)) rfl rfl (by simp [wk_cons, wk_nil, look_cons, closedD, closedC, closedK, closedB, renT, renD, renC])) | exact qj_ren () 1 9 trivial (by first | rfl | (rw [hX]; rfl)) rfl (weak_mk (by first | rfl | (rw [hX]; rfl)) rfl rfl (by simp [wk_cons, wk_nil, look_cons, closedD, closedC, closedK, closedB, renT, renD, renC])) | exact qj_ren () 1 6 trivial (by first | rfl | (rw [hX]; rfl)) rfl (weak_mk (by first | rfl | (rw [hX]; rfl)) rfl rfl (by simp [wk_cons, wk_nil, look_cons, closedD, closedC, closedK, closedB, renT, renD, renC])) | exact qj_ren () 1 10 trivial (by first | rfl | (rw [hX]; rfl)) rfl (weak_mk (by first | rfl | (rw [hX]; rfl)) rfl rfl (by simp [wk_cons, wk_nil, look_cons, closedD, closedC, closedK, closedB, renT, renD, renC])) | exact qj_ren () 1 5 trivial (by first | rfl | (rw [hX]; rfl)) rfl (weak_mk (by first | rfl | (rw [hX]; rfl)) rfl rfl (by simp [wk_cons, wk_nil, look_cons, closedD, closedC, closedK, closedB, renT, renD, renC]))
      rintro - -
      obtain ⟨B2, hB2⟩ : ∃ B2, B1 ++ [byteI x.k 0] = B2 := ⟨_, rfl⟩
      have hl2 : B2.length = B1.length + 1 := by rw [← hB2]; simp
      have hl1b : B1.length ≤ 1000000000 := by omega
      refine swp_join tabOK hmix (α := Unit) (fun _ => ⟨53, [(0, .c (.p (.sl 7 (encE l)))), (4, .c (.ptr 0 0)), (18, .c (.p (.sl 7 (encE l)))), (19, .c (.p (.i .i64 l.length))), (20, .c (.p (.i .i64 k))), (6, .c (.ptr 2 0))], [.box [.own 1 0 (B2).length], .arr 1 (encB (B2)) false, .box (ecv x.p x.k x.o x.n.k x.n.m x.n.t x.n.d)]⟩) (fun _ => True) ?_ ?_
      · clear hlay hdl hll hlE hoi hQ hn1 hB1
        have hP := PLift.up hB2
        have hP1 := PLift.up hl2
        clear hB2 hl2 hl1
        repeat' (first | simp only [*, go_sem, Nat.reduceLT, Nat.reduceEqDiff, ↓reduceIte, Nat.reduceAdd, Int.reduceSub, wrap_i64_lit, ] | ((with_reducible refine entK tabOK hmix Tryz.func42 rfl rfl fun _ _ => ?_); simp only [Tryz.f42, go_sem]) | ((with_reducible refine entK tabOK hmix Tryz.func86 rfl rfl fun _ _ => ?_); simp only [Tryz.f86, go_sem]))
        refine loop_rounds tabOK hmix 2 ?_
        repeat' (first | simp only [*, go_sem, Nat.reduceLT, Nat.reduceEqDiff, ↓reduceIte, Int.reduceLE, Int.reduceSub, Int.reduceNeg, wrap_i64_m1, decide_true, decide_false, ] | ((refine vc_drawn (id := 3) tabOK hmix [10,11,14] [5,6,7,8,9,10,1,2,3,4,11,0,12,13,14] (by decide +kernel) ?_); (repeat' (first | (refine ds_nil ?_) | ((refine ds_chg ?_ ?_ rfl rfl rfl ?_ ?_); (rotate_left 2); (focus ((repeat' (first | simp only [*, go_sem, Nat.reduceLT, Nat.reduceLeDiff, Nat.reduceEqDiff, ↓reduceIte, Nat.reduceAdd, Nat.reduceBEq, encB_one1, encB_app] | ((with_reducible refine And.intro ?_ ?_); (focus (first | omega | decide))))); ((refine And.intro ?_ ?_ <;> exact rfl)))); (simp only [putF_some, putF_none])) | ((refine ds_all ?_ rfl rfl rfl ?_ ?_); (rotate_left 1); (focus ((repeat' (first | exact allH_nil | refine allH_cons ?_ ?_)); (all_goals ((repeat' (simp only [*, go_sem, Nat.reduceLT, Nat.reduceLeDiff, Nat.reduceEqDiff, ↓reduceIte, Int.reduceLE, Int.reduceMul, Int.reduceToNat, wrap_i64_lit, Nat.min_def, ])); (try (exact rfl)))))); (simp only [putF_some]))))))
        have e1 : B1 ++ [UInt8.ofNat (IntKind.u8.wrap ((IntKind.u64.wrap x.k).fdiv (2 ^ 0))).toNat] = B2 := hP.down
        have e2 : B1.length + 1 = B2.length := hP1.down.symm
        first | rw [e1, e2] | rw [e2]
        first | exact qj_ren () 1 4 trivial (by first | rfl | (rw [hX]; rfl)) rfl (weak_mk (by first | rfl | (rw [hX]; rfl)) rfl rfl (by simp [wk_cons, wk_nil, look_cons, closedD, closedC, renT, renD, renC])) | exact qj_ren () 1 5 trivial (by first | rfl | (rw [hX]; rfl)) rfl (weak_mk (by first | rfl | (rw [hX]; rfl)) rfl rfl (by simp [wk_cons, wk_nil, look_cons, closedD, closedC, closedK, closedB, renT, renD, renC])) | exact qj_ren () 1 3 trivial (by first | rfl | (rw [hX]; rfl)) rfl (weak_mk (by first | rfl | (rw [hX]; rfl)) rfl rfl (by simp [wk_cons, wk_nil, look_cons, closedD, closedC, closedK, closedB, renT, renD, renC])) | exact qj_ren () 1 6 trivial (by first | rfl | (rw [hX]; rfl)) rfl (weak_mk (by first | rfl | (rw [hX]; rfl)) rfl rfl (by simp [wk_cons, wk_nil, look_cons, closedD, closedC, closedK, closedB, renT, renD, renC])) | exact qj_ren () 1 7 trivial (by first | rfl | (rw [hX]; rfl)) rfl (weak_mk (by first | rfl | (rw [hX]; rfl)) rfl rfl (by simp [wk_cons, wk_nil, look_cons, closedD, closedC, closedK, closedB, renT, renD, renC]))
      rintro - -
      refine swp_first tabOK hmix ?_
      repeat' (simp only [*, go_sem, Nat.reduceLT, ])
      refine swp_join tabOK hmix (α := Unit) (fun _ => ⟨53, [(0, .c (.p (.sl 7 (encE l)))), (4, .c (.ptr 0 0)), (18, .c (.p (.sl 7 (encE l)))), (19, .c (.p (.i .i64 l.length))), (20, .c (.p (.i .i64 k))), (6, .c (.ptr 2 0)), (7, .c (.p (.i .i64 oi)))], [.box [.own 1 0 (B2).length], .arr 1 (encB (B2)) false, .box (ecv x.p x.k x.o x.n.k x.n.m x.n.t x.n.d)]⟩) (fun _ => True) ?_ ?_
      · clear hlay hdl hll hlE hQ hn1 hB1 hB2
        cases ho : x.o
        · rw [ho] at hoi
          have hoi2 : oi = 0 := hoi.symm
          subst hoi2
          repeat' (simp only [*, go_sem, Nat.reduceLT, Nat.reduceEqDiff, ↓reduceIte, ])
          exact qj_n () trivial (weak_mk (by first | rfl | (rw [hX]; rfl)) rfl rfl (by simp [wk_cons, wk_nil, look_cons, closedD, closedC, ]))
        · rw [ho] at hoi
          have hoi2 : oi = 1 := hoi.symm
          subst hoi2
          repeat' (simp only [*, go_sem, Nat.reduceLT, Nat.reduceEqDiff, ↓reduceIte, ])
          exact qj_n () trivial (weak_mk (by first | rfl | (rw [hX]; rfl)) rfl rfl (by simp [wk_cons, wk_nil, look_cons, closedD, closedC, ]))
      rintro - -
      obtain ⟨B3, hB3⟩ : ∃ B3, B2 ++ [byteI oi 0] = B3 := ⟨_, rfl⟩
      have hl3 : B3.length = B2.length + 1 := by rw [← hB3]; simp
      have hl2b : B2.length ≤ 1000000000 := by omega
      refine swp_join tabOK hmix (α := Unit) (fun _ => ⟨53, [(0, .c (.p (.sl 7 (encE l)))), (4, .c (.ptr 0 0)), (18, .c (.p (.sl 7 (encE l)))), (19, .c (.p (.i .i64 l.length))), (20, .c (.p (.i .i64 k))), (6, .c (.ptr 2 0))], [.box [.own 1 0 (B3).length], .arr 1 (encB (B3)) false, .box (ecv x.p x.k x.o x.n.k x.n.m x.n.t x.n.d)]⟩) (fun _ => True) ?_ ?_
      · clear hlay hdl hll hlE hoi hQ hn1 hB1 hB2
        have hP := PLift.up hB3
        have hP1 := PLift.up hl3
        clear hB3 hl3 hl1 hl2
        repeat' (first | simp only [*, go_sem, Nat.reduceLT, Nat.reduceEqDiff, ↓reduceIte, Nat.reduceAdd, Int.reduceSub, wrap_i64_lit, ] | ((with_reducible refine entK tabOK hmix Tryz.func42 rfl rfl fun _ _ => ?_); simp only [Tryz.f42, go_sem]) | ((with_reducible refine entK tabOK hmix Tryz.func86 rfl rfl fun _ _ => ?_); simp only [Tryz.f86, go_sem]))
        refine loop_rounds tabOK hmix 2 ?_
        repeat' (first | simp only [*, go_sem, Nat.reduceLT, Nat.reduceEqDiff, ↓reduceIte, Int.reduceLE, Int.reduceSub, Int.reduceNeg, wrap_i64_m1, decide_true, decide_false, ] | ((refine vc_drawn (id := 3) tabOK hmix [10,11,14] [5,6,7,8,9,10,1,2,3,4,11,0,12,13,14] (by decide +kernel) ?_); (repeat' (first | (refine ds_nil ?_) | ((refine ds_chg ?_ ?_ rfl rfl rfl ?_ ?_); (rotate_left 2); (focus ((repeat' (first | simp only [*, go_sem, Nat.reduceLT, Nat.reduceLeDiff, Nat.reduceEqDiff, ↓reduceIte, Nat.reduceAdd, Nat.reduceBEq, encB_one1, encB_app] | ((with_reducible refine And.intro ?_ ?_); (focus (first | omega | decide))))); ((refine And.intro ?_ ?_ <;> exact rfl)))); (simp only [putF_some, putF_none])) | ((refine ds_all ?_ rfl rfl rfl ?_ ?_); (rotate_left 1); (focus ((repeat' (first | exact allH_nil | refine allH_cons ?_ ?_)); (all_goals ((repeat' (simp only [*, go_sem, Nat.reduceLT, Nat.reduceLeDiff, Nat.reduceEqDiff, ↓reduceIte, Int.reduceLE, Int.reduceMul, Int.reduceToNat, wrap_i64_lit, Nat.min_def, ])); (try (exact rfl)))))); (simp only [putF_some]))))))
        have e1 : B2 ++ [UInt8.ofNat (IntKind.u8.wrap ((IntKind.u64.wrap oi).fdiv (2 ^ 0))).toNat] = B3 := hP.down
        have e2 : B2.length + 1 = B3.length := hP1.down.symm
        first | rw [e1, e2] | rw [e2]
        first | exact qj_ren () 1 4 trivial (by first | rfl | (rw [hX]; rfl)) rfl (weak_mk (by first | rfl | (rw [hX]; rfl)) rfl rfl (by simp [wk_cons, wk_nil, look_cons, closedD, closedC, renT, renD, renC])) | exact qj_ren () 1 5 trivial (by first | rfl | (rw [hX]; rfl)) rfl (weak_mk (by first | rfl | (rw [hX]; rfl)) rfl rfl (by simp [wk_cons, wk_nil, look_cons, closedD, closedC, closedK, closedB, renT, renD, renC])) | exact qj_ren () 1 3 trivial (by first | rfl | (rw [hX]; rfl)) rfl (weak_mk (by first | rfl | (rw [hX]; rfl)) rfl rfl (by simp [wk_cons, wk_nil, look_cons, closedD, closedC, closedK, closedB, renT, renD, renC])) | exact qj_ren () 1 6 trivial (by first | rfl | (rw [hX]; rfl)) rfl (weak_mk (by first | rfl | (rw [hX]; rfl)) rfl rfl (by simp [wk_cons, wk_nil, look_cons, closedD, closedC, closedK, closedB, renT, renD, renC])) | exact qj_ren () 1 7 trivial (by first | rfl | (rw [hX]; rfl)) rfl (weak_mk (by first | rfl | (rw [hX]; rfl)) rfl rfl (by simp [wk_cons, wk_nil, look_cons, closedD, closedC, closedK, closedB, renT, renD, renC]))
      rintro - -
      have hl3b : B3.length ≤ 1000000000 := by omega
      have hfin : B ++ layEn x = B3 ++ (if !(x.k == 1) then [] else layNode x.n) := by
        rw [← hB3, ← hB2, ← hB1, ← hoi]
        simp only [layEn, List.append_assoc, List.cons_append, List.nil_append]
      rw [hfin] at hQ
      cases hk1 : (x.k == 1)
      · have hf2 : B3 ++ (if !(x.k == 1) then [] else layNode x.n) = B3 := by rw [hk1]; simp
        rw [hf2] at hQ
        have hJ2 : k + 1 ≤ l.length ∧ B3.length ≤ 2 + 10000 * (k + 1) := ⟨by omega, by omega⟩
        clear hlay hdl hll hlE hoi hn1 hB1 hB2 hB3 hfin hf2 hl1 hl2 hl3
        refine swp_vc tabOK hmix ?_
        repeat' (simp only [*, go_sem, Nat.reduceLT, Nat.reduceEqDiff, ↓reduceIte, ])
        refine swp_vc tabOK hmix ?_
        repeat' (simp only [*, go_sem, Nat.reduceLT, Nat.reduceEqDiff, ↓reduceIte, ])
        exact qr_n (k + 1, B3) ⟨hJ2.1, hJ2.2, hQ.down⟩ (by simp only; omega) (weak_mk (by first | rfl | (rw [hX]; rfl)) rfl rfl (by simp [wk_cons, wk_nil, look_cons, closedD, closedC, ]))
      · have hf2 : B3 ++ (if !(x.k == 1) then [] else layNode x.n) = B3 ++ layNode x.n := by rw [hk1]; simp
        rw [hf2] at hQ
        have hlay := hlay (by rw [hk1]; rfl)
        have hdl := hdl (by rw [hk1]; rfl)
        have hJ2 : k + 1 ≤ l.length ∧ (B3 ++ layNode x.n).length ≤ 2 + 10000 * (k + 1) := ⟨by omega, by rw [List.length_append]; omega⟩
        have hll2 : (layNode x.n).length ≤ 1000000 := by omega
        have e2 : B3.length + (13 + x.n.d.length) = (B3 ++ layNode x.n).length := by rw [List.length_append]; omega
        have hE := PLift.up e2
        clear hlE hoi hn1 hB1 hB2 hB3 hfin hf2 hl1 hl2 hl3 e2
        refine swp_vc tabOK hmix ?_
        repeat' (first | simp only [*, go_sem, Nat.reduceLT, Nat.reduceLeDiff, Nat.reduceEqDiff, ↓reduceIte, Nat.reduceAdd, encB_app] | ((with_reducible refine entK tabOK hmix Tryz.func44 rfl rfl fun _ _ => ?_); simp only [Tryz.f44, go_sem]) | ((with_reducible refine useN (hlay) ?_ ?_ ?_); (focus exact rfl); (focus exact fun _ => rfl)) | ((with_reducible refine And.intro ?_ ?_); (focus (omega))))
        refine swp_vc tabOK hmix ?_
        repeat' (simp only [*, go_sem, Nat.reduceLT, Nat.reduceEqDiff, ↓reduceIte, ])
        rw [hE.down]
        first | exact qr_ren (k + 1, B3 ++ layNode x.n) 1 3 ⟨hJ2.1, hJ2.2, hQ.down⟩ (by simp only; omega) (by first | rfl | (rw [hX]; rfl)) rfl (weak_mk (by first | rfl | (rw [hX]; rfl)) rfl rfl (by simp [wk_cons, wk_nil, look_cons, closedD, closedC, renT, renD, renC])) | exact qr_ren (k + 1, B3 ++ layNode x.n) 1 4 ⟨hJ2.1, hJ2.2, hQ.down⟩ (by simp only; omega) (by first | rfl | (rw [hX]; rfl)) rfl (weak_mk (by first | rfl | (rw [hX]; rfl)) rfl rfl (by simp [wk_cons, wk_nil, look_cons, closedD, closedC, closedK, closedB, renT, renD, renC])) | exact qr_ren (k + 1, B3 ++ layNode x.n) 1 5 ⟨hJ2.1, hJ2.2, hQ.down⟩ (by simp only; omega) (by first | rfl | (rw [hX]; rfl)) rfl (weak_mk (by first | rfl | (rw [hX]; rfl)) rfl rfl (by simp [wk_cons, wk_nil, look_cons, closedD, closedC, closedK, closedB, renT, renD, renC])) | exact qr_ren (k + 1, B3 ++ layNode x.n) 1 6 ⟨hJ2.1, hJ2.2, hQ.down⟩ (by simp only; omega) (by first | rfl | (rw [hX]; rfl)) rfl (weak_mk (by first | rfl | (rw [hX]; rfl)) rfl rfl (by simp [wk_cons, wk_nil, look_cons, closedD, closedC, closedK, closedB, renT, renD, renC])) | exact qr_ren (k + 1, B3 ++ layNode x.n) 1 7 ⟨hJ2.1, hJ2.2, hQ.down⟩ (by simp only; omega) (by first | rfl | (rw [hX]; rfl)) rfl (weak_mk (by first | rfl | (rw [hX]; rfl)) rfl rfl (by simp [wk_cons, wk_nil, look_cons, closedD, closedC, closedK, closedB, renT, renD, renC]))
    · have h1 : decide ((k : Int) < (l.length : Int)) = false := decide_eq_false (by omega)
      rw [List.take_of_length_le (by omega)] at hJ
      have hf : B = layEs l := hJ.symm
      have hF := PLift.up hf
      clear hJ hf hmay ht
      refine swp_first tabOK hmix ?_
      repeat' (simp only [*, go_sem, Nat.reduceLT, Nat.reduceEqDiff, ↓reduceIte, ])
      refine swp_first tabOK hmix ?_
      repeat' (simp only [*, go_sem, ↓reduceIte, ])
      exact qj_n () trivial (weak_mk (by rw [hX]; rfl) (by rw [hF.down]; rfl) rfl (by simp [wk_cons, wk_nil, look_cons, closedD, closedC, ]))
  rintro - -
  clear hmay ht
  have hle2 : (layEs l).length ≤ 140737488355328 := by omega
  refine swp_vc tabOK hmix ?_
  repeat' (first | simp only [*, go_sem, Nat.reduceLT, Nat.reduceLeDiff, Nat.reduceEqDiff, ↓reduceIte, Nat.reduceAdd, Nat.reduceBEq, ] | ((with_reducible refine entR tabOK hmix Tryz.func45 rfl rfl fun _ _ => ?_); simp only [Tryz.f45, go_sem]) | ((with_reducible refine And.intro ?_ ?_); (focus (decide))))
  all_goals first | (refine ⟨?_, ?_, rfl, rfl⟩ <;> omega) | exact ⟨rfl, rfl⟩ | omega | (rw [List.take_of_length_le (by rw [encB_len]; exact Nat.le_refl _)]) | trace_state

theorem layerLay_c {l : List En} (hl : l.length ≤ 65535) (hp : ∀ x ∈ l, x.p.length ≤ 1000000) (ht : ∀ x ∈ l, x.n.t < 18446744073709551616) (hr : rightE l = true) :
    DCalls Tryz.prog 9 [.c (.p (.sl 7 (encE l)))] [] fun r h => r = .tup [.c (.p (.sl 1 (encB (layEs l)))), .c (.p (.i .i64 0))] ∧ h = [] :=
  DCalls.froz2 (layerLayO_c hl hp ht hr) rfl (encB_len _)
end Go.Proofs.YtjpmajeekikdhaaGreatDoor

end
