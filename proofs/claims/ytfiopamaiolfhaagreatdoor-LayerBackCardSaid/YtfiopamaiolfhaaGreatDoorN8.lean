import Derived.Test.YtfiopamaiolfhaaGreatDoorN0
import Derived.Test.YtfiopamaiolfhaaGreatDoorLA
import Derived.Test.YtfiopamaiolfhaaGreatDoorVE
import Derived.Test.YtfiopamaiolfhaaGreatDoorG0
import Derived.Test.YtfiopamaiolfhaaGreatDoorN2

section
/-
  Contracts of the program's layers: what goes before an entry is laid over.
-/

set_option linter.unusedSimpArgs false
set_option linter.unusedVariables false
namespace Go.Proofs.YtfiopamaiolfhaaGreatDoor
open Go Go.Dm Go.Proofs
set_option maxRecDepth 100000
set_option maxHeartbeats 8000000

end Go.Proofs.YtfiopamaiolfhaaGreatDoor

end

section
/-
  Contracts of the program's layers: which entries may be, which layers are right.
-/

set_option linter.unusedSimpArgs false
set_option linter.unusedVariables false
namespace Go.Proofs.YtfiopamaiolfhaaGreatDoor
open Go Go.Dm Go.Proofs
set_option maxRecDepth 100000
set_option maxHeartbeats 8000000

abbrev ecv (p : List UInt8) (k : Int) (o : Bool) (nk nm : Int) (nt : Nat) (nd : List UInt8) : List CV := [.p (.s p), .p (.i .i64 k), .p (.b o), .p (.i .i64 nk), .p (.i .i64 nm), .p (.f nt), .p (.sl 1 (encB nd))]

theorem shutE_c {p : List UInt8} {k nk nm : Int} {o : Bool} {nt : Nat} {nd : List UInt8} : DCalls Tryz.prog 90 [.agg (ecv p k o nk nm nt nd)] [] fun r h => r = .c (.p (.b (shutE ⟨p, k, o, ⟨nk, nm, nt, nd⟩⟩))) ∧ h = [] := by
  refine ent tabOK hmix Tryz.func90 rfl rfl fun X0 hX => ?_
  simp only [Tryz.ntmps90, Tryz.f90, go_sem]
  repeat' (first | simp (maxSteps := 1000000) only [*, go_sem, Nat.reduceLT, Nat.reduceLeDiff, Nat.reduceEqDiff, ↓reduceIte, Nat.reduceAdd, Nat.reduceSub, Nat.reduceMul, Int.reduceLT, Int.reduceLE, Int.reduceAdd, Int.reduceSub, Int.reduceMul, Int.reduceNeg, Int.reduceToNat, Int.reduceEq, Int.reduceBEq, Int.reduceBNe, Nat.reduceBEq, beq_self_eq_true, bne_self_eq_false] | with_reducible refine vcond_split (fun _ => ?_) (fun _ => ?_) | with_reducible refine vg_split (fun _ => ?_) (fun _ => ?_) | ((with_reducible apply DCalls.frz); (focus exact rfl); (focus exact rfl)) | ((with_reducible refine And.intro ?_ ?_); (focus (first | omega | decide | assumption | (simp only [decide_eq_true_eq, decide_eq_false_iff_not] at *; omega)))))
  all_goals simp_all [shutE]

theorem zeroE_c {k m : Int} {t : Nat} {d : List UInt8} : DCalls Tryz.prog 155 [.agg (ndc k m t d)] [] fun r h => r = .c (.p (.b (zeroN ⟨k, m, t, d⟩))) ∧ h = [] := by
  refine ent tabOK hmix Tryz.func155 rfl rfl fun X0 hX => ?_
  simp only [Tryz.ntmps155, Tryz.f155, go_sem]
  repeat' (first | simp (maxSteps := 1000000) only [*, go_sem, Nat.reduceLT, Nat.reduceLeDiff, Nat.reduceEqDiff, ↓reduceIte, Nat.reduceAdd, Nat.reduceSub, Nat.reduceMul, Int.reduceLT, Int.reduceLE, Int.reduceAdd, Int.reduceSub, Int.reduceMul, Int.reduceNeg, Int.reduceToNat, Int.reduceEq, Int.reduceBEq, Int.reduceBNe, Nat.reduceBEq, beq_self_eq_true, bne_self_eq_false] | ((with_reducible refine useF (bits_c _) ?_ ?_ ?_); (focus exact rfl); (focus exact rfl)) | with_reducible refine vcond_split (fun _ => ?_) (fun _ => ?_) | with_reducible refine vg_split (fun _ => ?_) (fun _ => ?_) | ((with_reducible apply DCalls.frz); (focus exact rfl); (focus exact rfl)) | ((with_reducible refine And.intro ?_ ?_); (focus (first | omega | decide | assumption | (simp only [decide_eq_true_eq, decide_eq_false_iff_not] at *; omega)))))
  all_goals first | (simp_all [zeroN]; done) | (simp_all [zeroN]; rw [Bool.eq_iff_iff]; simp)

theorem mayE_c {p : List UInt8} {k nk nm : Int} {o : Bool} {nt : Nat} {nd : List UInt8} (hp : p.length ≤ 1000000000) (ht : nt < 18446744073709551616) :
    DCalls Tryz.prog 89 [.agg (ecv p k o nk nm nt nd)] [] fun r h => r = .c (.p (.b (mayE ⟨p, k, o, ⟨nk, nm, nt, nd⟩⟩))) ∧ h = [] := by
  have hip := isPath_c hp
  have hz := zeroE_c (k := nk) (m := nm) (t := nt) (d := nd)
  have hn := nodeRight_c (k := nk) (m := nm) (d := nd) ht
  unfold mayE
  simp only
  generalize isPathR p = ip at *
  generalize zeroN ⟨nk, nm, nt, nd⟩ = z at *
  generalize rightNodeR ⟨nk, nm, nt, nd⟩ = rn at *
  cases ip <;> cases z <;> cases rn <;> cases o
  all_goals
    refine ent tabOK hmix Tryz.func89 rfl rfl fun X0 hX => ?_
    simp only [Tryz.ntmps89, Tryz.f89, go_sem]
  all_goals repeat' (first | simp (maxSteps := 1000000) only [*, go_sem, Nat.reduceLT, Nat.reduceLeDiff, Nat.reduceEqDiff, ↓reduceIte, Nat.reduceAdd, Nat.reduceSub, Nat.reduceMul, Int.reduceLT, Int.reduceLE, Int.reduceAdd, Int.reduceSub, Int.reduceMul, Int.reduceNeg, Int.reduceToNat, Int.reduceEq, Int.reduceBEq, Int.reduceBNe, Nat.reduceBEq, beq_self_eq_true, bne_self_eq_false, Bool.not_true, Bool.not_false] | ((with_reducible refine useF (hip) ?_ ?_ ?_); (focus exact rfl); (focus exact rfl)) | ((with_reducible refine useF (hz) ?_ ?_ ?_); (focus exact rfl); (focus exact rfl)) | ((with_reducible refine useF (hn) ?_ ?_ ?_); (focus exact rfl); (focus exact rfl)) | with_reducible refine vcond_split (fun _ => ?_) (fun _ => ?_) | with_reducible refine vg_split (fun _ => ?_) (fun _ => ?_) | ((with_reducible apply DCalls.frz); (focus exact rfl); (focus exact rfl)) | ((with_reducible refine And.intro ?_ ?_); (focus (first | omega | decide | assumption | (simp only [decide_eq_true_eq, decide_eq_false_iff_not] at *; omega)))))
  all_goals simp_all

theorem layerRight_c {l : List En} (h : OkE l) : DCalls Tryz.prog 35 [.c (.p (.sl 7 (encE l)))] [] fun r h => r = .c (.p (.b true)) ∧ h = [] := by
  have hll := h.len
  refine ent tabOK hmix Tryz.func35 rfl rfl fun X0 hX => ?_
  simp only [Tryz.ntmps35, Tryz.f35, go_sem]
  repeat' (first | simp (maxSteps := 1000000) only [*, go_sem, Nat.reduceLT, Nat.reduceLeDiff, Nat.reduceEqDiff, ↓reduceIte, Nat.reduceAdd, Nat.reduceSub, Nat.reduceMul, Int.reduceLT, Int.reduceLE, Int.reduceAdd, Int.reduceSub, Int.reduceMul, Int.reduceNeg, Int.reduceToNat, Int.reduceEq, Int.reduceBEq, Int.reduceBNe, Nat.reduceBEq, beq_self_eq_true, bne_self_eq_false] | with_reducible refine vcond_split (fun _ => ?_) (fun _ => ?_) | with_reducible refine vg_split (fun _ => ?_) (fun _ => ?_) | ((with_reducible apply DCalls.frz); (focus exact rfl); (focus exact rfl)) | ((with_reducible refine And.intro ?_ ?_); (focus (first | omega | decide | assumption | (simp only [decide_eq_true_eq, decide_eq_false_iff_not] at *; omega)))))
  refine loop_ren tabOK hmix (α := Nat) (fun k => ⟨51, [(0, .c (.p (.sl 7 (encE l)))), (7, .c (.p (.sl 7 (encE l)))), (8, .c (.p (.i .i64 l.length))), (9, .c (.p (.i .i64 k)))], []⟩)
    (fun k => k ≤ l.length) (fun k => l.length - k) 0 (Nat.zero_le _) (.inl (weak_mk (by rw [hX]; rfl) rfl rfl (by simp [wk_cons, wk_nil, look_cons, closedD, closedC, encT_nil, encS_nil, encC_nil]))) ?_
  intro k hk
  by_cases hlt : k < l.length
  · have hx : l[k]? = some l[k] := List.getElem?_eq_getElem hlt
    have hg := encE_at hx
    have h1 : decide ((k : Int) < (l.length : Int)) = true := decide_eq_true (by omega)
    have w1 : IntKind.i64.wrap ((k : Int) + 1) = k + 1 := wrap_i64 (by omega) (by omega)
    have hk0 : (0 : Int) ≤ k := by omega
    have hkl : (k : Int) ≤ l.length := by omega
    have prev : k = 0 ∨ ∃ m : Nat, ∃ y : En, decide ((0 : Int) < k) = true ∧ IntKind.i64.wrap ((k : Int) - 1) = (m : Int) ∧ m < l.length ∧ l[m]? = some y ∧ (bltL l[k].p y.p || l[k].p == y.p) = false := by
      by_cases h0 : 0 < k
      · have hmk : k - 1 < l.length := by omega
        have h3 := List.pairwise_iff_getElem.1 h.srt (k - 1) k hmk hlt (by omega)
        refine .inr ⟨k - 1, l[k - 1], decide_eq_true (by omega), ?_, hmk, List.getElem?_eq_getElem hmk, ?_⟩
        · rw [wrap_i64 (by omega) (by omega)]; omega
        · rw [blt_asymm h3]
          cases he : (l[k].p == l[k - 1].p)
          · rfl
          · rw [eq_of_beq he, blt_irrefl] at h3; cases h3
      · exact .inl (by omega)
    have hmx := h.may _ (List.getElem_mem hlt)
    have p1 := h.plen _ (List.getElem_mem hlt)
    have p2 := h.tlen _ (List.getElem_mem hlt)
    have hop : ∀ j y, l[j]? = some y → j < k → (shutE y && belowR y.p l[k].p) = false := fun j y hy hj => by
      obtain ⟨hj2, rfl⟩ := List.getElem?_eq_some_iff.1 hy
      exact List.pairwise_iff_getElem.1 h.open_ j k hj2 hlt hj
    have hpl := h.plen
    generalize l[k] = x at hx hg prev hmx p1 p2 hop
    have hc := mayE_c (p := x.p) (k := x.k) (o := x.o) (nk := x.n.k) (nm := x.n.m) (nt := x.n.t) (nd := x.n.d) (by omega) p2
    rw [show (⟨x.p, x.k, x.o, ⟨x.n.k, x.n.m, x.n.t, x.n.d⟩⟩ : En) = x from rfl, hmx] at hc
    have htk : (l.take k).length = k := by rw [List.length_take]; omega
    clear hmx h hx
    rcases prev with h0 | ⟨m, y, b1, b2, b3, b4, b5⟩
    · have b1 : decide ((0 : Int) < (k : Int)) = false := decide_eq_false (by omega)
      clear h0
      repeat' (first | simp (maxSteps := 1000000) only [*, go_sem, Nat.reduceLT, Nat.reduceLeDiff, Nat.reduceEqDiff, ↓reduceIte, Nat.reduceAdd, Nat.reduceSub, Nat.reduceMul, Int.reduceLT, Int.reduceLE, Int.reduceAdd, Int.reduceSub, Int.reduceMul, Int.reduceNeg, Int.reduceToNat, Int.reduceEq, Int.reduceBEq, Int.reduceBNe, Nat.reduceBEq, beq_self_eq_true, bne_self_eq_false, Bool.not_true, Bool.not_false] | ((with_reducible refine useF (hc) ?_ ?_ ?_); (focus exact rfl); (focus exact rfl)) | ((refine vc_drawn (id := 4) tabOK hmix [] [0,1,2,3,4,5,6,7,8,9,10,11,12,13,14,15,16,17] (by decide +kernel) ?_); (repeat' (first | (refine ds_nil ?_) | ((refine ds_one ?_ rfl rfl ?_ ?_); (rotate_left 1); (focus ((repeat' (first | simp (maxSteps := 1000000) only [*, go_sem, Nat.reduceLT, Nat.reduceLeDiff, Nat.reduceEqDiff, ↓reduceIte, Nat.reduceAdd, Nat.reduceSub, Nat.reduceMul, Int.reduceLT, Int.reduceLE, Int.reduceAdd, Int.reduceSub, Int.reduceMul, Int.reduceNeg, Int.reduceToNat, Int.reduceEq, Int.reduceBEq, Int.reduceBNe, Nat.reduceBEq, beq_self_eq_true, bne_self_eq_false, Bool.not_true, Bool.not_false] | ((with_reducible refine useF (hc) ?_ ?_ ?_); (focus exact rfl); (focus exact rfl)) | with_reducible refine vcond_split (fun _ => ?_) (fun _ => ?_) | with_reducible refine vg_split (fun _ => ?_) (fun _ => ?_) | ((with_reducible apply DCalls.frz); (focus exact rfl); (focus exact rfl)) | ((with_reducible refine And.intro ?_ ?_); (focus (first | omega | decide | assumption | (simp only [decide_eq_true_eq, decide_eq_false_iff_not] at *; omega)))))); exact rfl)); (simp only [putF_some, putF_none]))))) | with_reducible refine vcond_split (fun _ => ?_) (fun _ => ?_) | with_reducible refine vg_split (fun _ => ?_) (fun _ => ?_) | ((with_reducible apply DCalls.frz); (focus exact rfl); (focus exact rfl)) | ((with_reducible refine And.intro ?_ ?_); (focus (first | omega | decide | assumption | (simp only [decide_eq_true_eq, decide_eq_false_iff_not] at *; omega)))))
      refine loop_renS (α := Nat) (fun j => ⟨51, [(0, .c (.p (.sl 7 (encE l)))), (7, .c (.p (.sl 7 (encE l)))), (8, .c (.p (.i .i64 l.length))), (9, .c (.p (.i .i64 k))), (4, .c (.ptr 0 0)), (34, .c (.p (.sl 7 (encE (l.take k))))), (35, .c (.p (.i .i64 k))), (36, .c (.p (.i .i64 j)))], [.box (ecv x.p x.k x.o x.n.k x.n.m x.n.t x.n.d)]⟩)
        (fun j => j ≤ k) (fun j => k - j) 0 (Nat.zero_le _) (.inl (weak_mk (by rw [hX]; rfl) rfl rfl (by simp [wk_cons, wk_nil, look_cons, closedD, closedC, closedK, closedB, encE_take, htk]))) ?_
      intro j hj
      by_cases hjk : j < k
      · have hjl : j < l.length := by omega
        have hz : (l.take k)[j]? = some l[j] := by rw [List.getElem?_take, if_pos hjk]; exact List.getElem?_eq_getElem hjl
        have hgz := encE_at hz
        have hoz := hop j l[j] (List.getElem?_eq_getElem hjl) hjk
        have hzp := hpl _ (List.getElem_mem hjl)
        have h2 : decide ((j : Int) < (k : Int)) = true := decide_eq_true (by omega)
        have w2 : IntKind.i64.wrap ((j : Int) + 1) = j + 1 := wrap_i64 (by omega) (by omega)
        have hjk2 : (j : Int) < (k : Int) := by omega
        have hjm : (j : Int) < (min k l.length : Nat) := by omega
        have hj0 : (0 : Int) ≤ j := by omega
        generalize l[j] = z at hz hgz hoz hzp
        have hsh := shutE_c (p := z.p) (k := z.k) (o := z.o) (nk := z.n.k) (nm := z.n.m) (nt := z.n.t) (nd := z.n.d)
        rw [show (⟨z.p, z.k, z.o, ⟨z.n.k, z.n.m, z.n.t, z.n.d⟩⟩ : En) = z from rfl] at hsh
        clear hop hpl hz
        refine swp_vc tabOK hmix ?_
        cases hsz : shutE z
        · rw [hsz] at hsh
          repeat' (first | simp (maxSteps := 1000000) only [*, go_sem, Nat.reduceLT, Nat.reduceLeDiff, Nat.reduceEqDiff, ↓reduceIte, Nat.reduceAdd, Nat.reduceSub, Nat.reduceMul, Int.reduceLT, Int.reduceLE, Int.reduceAdd, Int.reduceSub, Int.reduceMul, Int.reduceNeg, Int.reduceToNat, Int.reduceEq, Int.reduceBEq, Int.reduceBNe, Nat.reduceBEq, beq_self_eq_true, bne_self_eq_false, Bool.not_true, Bool.not_false] | ((with_reducible refine useF (hsh) ?_ ?_ ?_); (focus exact rfl); (focus exact rfl)) | ((with_reducible refine useF (nameBelow_c (p := z.p) (by omega)) ?_ ?_ ?_); (focus exact rfl); (focus exact rfl)) | with_reducible refine vcond_split (fun _ => ?_) (fun _ => ?_) | with_reducible refine vg_split (fun _ => ?_) (fun _ => ?_) | ((with_reducible apply DCalls.frz); (focus exact rfl); (focus exact rfl)) | ((with_reducible refine And.intro ?_ ?_); (focus (first | omega | decide | assumption | (simp only [decide_eq_true_eq, decide_eq_false_iff_not] at *; omega)))))
          exact qr_n (j + 1) (by omega) (by omega) (weak_mk rfl rfl rfl (by simp [wk_cons, wk_nil, look_cons, closedD, closedC, closedK, closedB]))
        · rw [hsz] at hsh hoz
          rw [Bool.true_and] at hoz
          repeat' (first | simp (maxSteps := 1000000) only [*, go_sem, Nat.reduceLT, Nat.reduceLeDiff, Nat.reduceEqDiff, ↓reduceIte, Nat.reduceAdd, Nat.reduceSub, Nat.reduceMul, Int.reduceLT, Int.reduceLE, Int.reduceAdd, Int.reduceSub, Int.reduceMul, Int.reduceNeg, Int.reduceToNat, Int.reduceEq, Int.reduceBEq, Int.reduceBNe, Nat.reduceBEq, beq_self_eq_true, bne_self_eq_false, Bool.not_true, Bool.not_false] | ((with_reducible refine useF (hsh) ?_ ?_ ?_); (focus exact rfl); (focus exact rfl)) | ((with_reducible refine useF (nameBelow_c (p := z.p) (by omega)) ?_ ?_ ?_); (focus exact rfl); (focus exact rfl)) | with_reducible refine vcond_split (fun _ => ?_) (fun _ => ?_) | with_reducible refine vg_split (fun _ => ?_) (fun _ => ?_) | ((with_reducible apply DCalls.frz); (focus exact rfl); (focus exact rfl)) | ((with_reducible refine And.intro ?_ ?_); (focus (first | omega | decide | assumption | (simp only [decide_eq_true_eq, decide_eq_false_iff_not] at *; omega)))))
          exact qr_n (j + 1) (by omega) (by omega) (weak_mk rfl rfl rfl (by simp [wk_cons, wk_nil, look_cons, closedD, closedC, closedK, closedB]))
      · have h2 : decide ((j : Int) < (k : Int)) = false := decide_eq_false (by omega)
        clear hop hpl
        refine swp_vc tabOK hmix ?_
        repeat' (first | simp (maxSteps := 1000000) only [*, go_sem, Nat.reduceLT, Nat.reduceLeDiff, Nat.reduceEqDiff, ↓reduceIte, Nat.reduceAdd, Nat.reduceSub, Nat.reduceMul, Int.reduceLT, Int.reduceLE, Int.reduceAdd, Int.reduceSub, Int.reduceMul, Int.reduceNeg, Int.reduceToNat, Int.reduceEq, Int.reduceBEq, Int.reduceBNe, Nat.reduceBEq, beq_self_eq_true, bne_self_eq_false] | with_reducible refine vcond_split (fun _ => ?_) (fun _ => ?_) | with_reducible refine vg_split (fun _ => ?_) (fun _ => ?_) | ((with_reducible apply DCalls.frz); (focus exact rfl); (focus exact rfl)) | ((with_reducible refine And.intro ?_ ?_); (focus (first | omega | decide | assumption | (simp only [decide_eq_true_eq, decide_eq_false_iff_not] at *; omega)))))
        exact qr_n (k + 1) (by omega) (by omega) (weak_mk rfl rfl rfl (by simp [wk_cons, wk_nil, look_cons, closedD, closedC, renT, renD, renC, encT_nil, encS_nil, encC_nil]))
    · have hgy := encE_at b4
      have b6 : (m : Int) < l.length := by omega
      repeat' (first | simp (maxSteps := 1000000) only [*, go_sem, Nat.reduceLT, Nat.reduceLeDiff, Nat.reduceEqDiff, ↓reduceIte, Nat.reduceAdd, Nat.reduceSub, Nat.reduceMul, Int.reduceLT, Int.reduceLE, Int.reduceAdd, Int.reduceSub, Int.reduceMul, Int.reduceNeg, Int.reduceToNat, Int.reduceEq, Int.reduceBEq, Int.reduceBNe, Nat.reduceBEq, beq_self_eq_true, bne_self_eq_false, Bool.not_true, Bool.not_false] | ((with_reducible refine useF (hc) ?_ ?_ ?_); (focus exact rfl); (focus exact rfl)) | ((refine vc_drawn (id := 4) tabOK hmix [] [0,1,2,3,4,5,6,7,8,9,10,11,12,13,14,15,16,17] (by decide +kernel) ?_); (repeat' (first | (refine ds_nil ?_) | ((refine ds_one ?_ rfl rfl ?_ ?_); (rotate_left 1); (focus ((repeat' (first | simp (maxSteps := 1000000) only [*, go_sem, Nat.reduceLT, Nat.reduceLeDiff, Nat.reduceEqDiff, ↓reduceIte, Nat.reduceAdd, Nat.reduceSub, Nat.reduceMul, Int.reduceLT, Int.reduceLE, Int.reduceAdd, Int.reduceSub, Int.reduceMul, Int.reduceNeg, Int.reduceToNat, Int.reduceEq, Int.reduceBEq, Int.reduceBNe, Nat.reduceBEq, beq_self_eq_true, bne_self_eq_false, Bool.not_true, Bool.not_false] | ((with_reducible refine useF (hc) ?_ ?_ ?_); (focus exact rfl); (focus exact rfl)) | with_reducible refine vcond_split (fun _ => ?_) (fun _ => ?_) | with_reducible refine vg_split (fun _ => ?_) (fun _ => ?_) | ((with_reducible apply DCalls.frz); (focus exact rfl); (focus exact rfl)) | ((with_reducible refine And.intro ?_ ?_); (focus (first | omega | decide | assumption | (simp only [decide_eq_true_eq, decide_eq_false_iff_not] at *; omega)))))); exact rfl)); (simp only [putF_some, putF_none]))))) | with_reducible refine vcond_split (fun _ => ?_) (fun _ => ?_) | with_reducible refine vg_split (fun _ => ?_) (fun _ => ?_) | ((with_reducible apply DCalls.frz); (focus exact rfl); (focus exact rfl)) | ((with_reducible refine And.intro ?_ ?_); (focus (first | omega | decide | assumption | (simp only [decide_eq_true_eq, decide_eq_false_iff_not] at *; omega)))))
      refine loop_renS (α := Nat) (fun j => ⟨51, [(0, .c (.p (.sl 7 (encE l)))), (7, .c (.p (.sl 7 (encE l)))), (8, .c (.p (.i .i64 l.length))), (9, .c (.p (.i .i64 k))), (4, .c (.ptr 0 0)), (34, .c (.p (.sl 7 (encE (l.take k))))), (35, .c (.p (.i .i64 k))), (36, .c (.p (.i .i64 j)))], [.box (ecv x.p x.k x.o x.n.k x.n.m x.n.t x.n.d)]⟩)
        (fun j => j ≤ k) (fun j => k - j) 0 (Nat.zero_le _) (.inl (weak_mk (by rw [hX]; rfl) rfl rfl (by simp [wk_cons, wk_nil, look_cons, closedD, closedC, closedK, closedB, encE_take, htk]))) ?_
      intro j hj
      by_cases hjk : j < k
      · have hjl : j < l.length := by omega
        have hz : (l.take k)[j]? = some l[j] := by rw [List.getElem?_take, if_pos hjk]; exact List.getElem?_eq_getElem hjl
        have hgz := encE_at hz
        have hoz := hop j l[j] (List.getElem?_eq_getElem hjl) hjk
        have hzp := hpl _ (List.getElem_mem hjl)
        have h2 : decide ((j : Int) < (k : Int)) = true := decide_eq_true (by omega)
        have w2 : IntKind.i64.wrap ((j : Int) + 1) = j + 1 := wrap_i64 (by omega) (by omega)
        have hjk2 : (j : Int) < (k : Int) := by omega
        have hjm : (j : Int) < (min k l.length : Nat) := by omega
        have hj0 : (0 : Int) ≤ j := by omega
        generalize l[j] = z at hz hgz hoz hzp
        have hsh := shutE_c (p := z.p) (k := z.k) (o := z.o) (nk := z.n.k) (nm := z.n.m) (nt := z.n.t) (nd := z.n.d)
        rw [show (⟨z.p, z.k, z.o, ⟨z.n.k, z.n.m, z.n.t, z.n.d⟩⟩ : En) = z from rfl] at hsh
        clear hop hpl hz
        refine swp_vc tabOK hmix ?_
        cases hsz : shutE z
        · rw [hsz] at hsh
          repeat' (first | simp (maxSteps := 1000000) only [*, go_sem, Nat.reduceLT, Nat.reduceLeDiff, Nat.reduceEqDiff, ↓reduceIte, Nat.reduceAdd, Nat.reduceSub, Nat.reduceMul, Int.reduceLT, Int.reduceLE, Int.reduceAdd, Int.reduceSub, Int.reduceMul, Int.reduceNeg, Int.reduceToNat, Int.reduceEq, Int.reduceBEq, Int.reduceBNe, Nat.reduceBEq, beq_self_eq_true, bne_self_eq_false, Bool.not_true, Bool.not_false] | ((with_reducible refine useF (hsh) ?_ ?_ ?_); (focus exact rfl); (focus exact rfl)) | ((with_reducible refine useF (nameBelow_c (p := z.p) (by omega)) ?_ ?_ ?_); (focus exact rfl); (focus exact rfl)) | with_reducible refine vcond_split (fun _ => ?_) (fun _ => ?_) | with_reducible refine vg_split (fun _ => ?_) (fun _ => ?_) | ((with_reducible apply DCalls.frz); (focus exact rfl); (focus exact rfl)) | ((with_reducible refine And.intro ?_ ?_); (focus (first | omega | decide | assumption | (simp only [decide_eq_true_eq, decide_eq_false_iff_not] at *; omega)))))
          exact qr_n (j + 1) (by omega) (by omega) (weak_mk rfl rfl rfl (by simp [wk_cons, wk_nil, look_cons, closedD, closedC, closedK, closedB]))
        · rw [hsz] at hsh hoz
          rw [Bool.true_and] at hoz
          repeat' (first | simp (maxSteps := 1000000) only [*, go_sem, Nat.reduceLT, Nat.reduceLeDiff, Nat.reduceEqDiff, ↓reduceIte, Nat.reduceAdd, Nat.reduceSub, Nat.reduceMul, Int.reduceLT, Int.reduceLE, Int.reduceAdd, Int.reduceSub, Int.reduceMul, Int.reduceNeg, Int.reduceToNat, Int.reduceEq, Int.reduceBEq, Int.reduceBNe, Nat.reduceBEq, beq_self_eq_true, bne_self_eq_false, Bool.not_true, Bool.not_false] | ((with_reducible refine useF (hsh) ?_ ?_ ?_); (focus exact rfl); (focus exact rfl)) | ((with_reducible refine useF (nameBelow_c (p := z.p) (by omega)) ?_ ?_ ?_); (focus exact rfl); (focus exact rfl)) | with_reducible refine vcond_split (fun _ => ?_) (fun _ => ?_) | with_reducible refine vg_split (fun _ => ?_) (fun _ => ?_) | ((with_reducible apply DCalls.frz); (focus exact rfl); (focus exact rfl)) | ((with_reducible refine And.intro ?_ ?_); (focus (first | omega | decide | assumption | (simp only [decide_eq_true_eq, decide_eq_false_iff_not] at *; omega)))))
          exact qr_n (j + 1) (by omega) (by omega) (weak_mk rfl rfl rfl (by simp [wk_cons, wk_nil, look_cons, closedD, closedC, closedK, closedB]))
      · have h2 : decide ((j : Int) < (k : Int)) = false := decide_eq_false (by omega)
        clear hop hpl
        refine swp_vc tabOK hmix ?_
        repeat' (first | simp (maxSteps := 1000000) only [*, go_sem, Nat.reduceLT, Nat.reduceLeDiff, Nat.reduceEqDiff, ↓reduceIte, Nat.reduceAdd, Nat.reduceSub, Nat.reduceMul, Int.reduceLT, Int.reduceLE, Int.reduceAdd, Int.reduceSub, Int.reduceMul, Int.reduceNeg, Int.reduceToNat, Int.reduceEq, Int.reduceBEq, Int.reduceBNe, Nat.reduceBEq, beq_self_eq_true, bne_self_eq_false] | with_reducible refine vcond_split (fun _ => ?_) (fun _ => ?_) | with_reducible refine vg_split (fun _ => ?_) (fun _ => ?_) | ((with_reducible apply DCalls.frz); (focus exact rfl); (focus exact rfl)) | ((with_reducible refine And.intro ?_ ?_); (focus (first | omega | decide | assumption | (simp only [decide_eq_true_eq, decide_eq_false_iff_not] at *; omega)))))
        exact qr_n (k + 1) (by omega) (by omega) (weak_mk rfl rfl rfl (by simp [wk_cons, wk_nil, look_cons, closedD, closedC, renT, renD, renC, encT_nil, encS_nil, encC_nil]))
  · have h1 : decide ((k : Int) < (l.length : Int)) = false := decide_eq_false (by omega)
    repeat' (first | simp (maxSteps := 1000000) only [*, go_sem, Nat.reduceLT, Nat.reduceLeDiff, Nat.reduceEqDiff, ↓reduceIte, Nat.reduceAdd, Nat.reduceSub, Nat.reduceMul, Int.reduceLT, Int.reduceLE, Int.reduceAdd, Int.reduceSub, Int.reduceMul, Int.reduceNeg, Int.reduceToNat, Int.reduceEq, Int.reduceBEq, Int.reduceBNe, Nat.reduceBEq, beq_self_eq_true, bne_self_eq_false] | with_reducible refine vcond_split (fun _ => ?_) (fun _ => ?_) | with_reducible refine vg_split (fun _ => ?_) (fun _ => ?_) | ((with_reducible apply DCalls.frz); (focus exact rfl); (focus exact rfl)) | ((with_reducible refine And.intro ?_ ?_); (focus (first | omega | decide | assumption | (simp only [decide_eq_true_eq, decide_eq_false_iff_not] at *; omega)))))
end Go.Proofs.YtfiopamaiolfhaaGreatDoor

end

section
/-
  Contracts of the program's layers: a layer over a tree.
-/

set_option linter.unusedSimpArgs false
set_option linter.unusedVariables false
namespace Go.Proofs.YtfiopamaiolfhaaGreatDoor
open Go Go.Dm Go.Proofs
set_option maxRecDepth 100000
set_option maxHeartbeats 8000000

end Go.Proofs.YtfiopamaiolfhaaGreatDoor

end
