/-
  Contracts of the functions that draw calls.
-/
import Derived.Test.YtnbgaphhhjnjlaaGreatDoorW3
import Derived.Test.YtnbgaphhhjnjlaaGreatDoorC1
import Derived.Test.YtnbgaphhhjnjlaaGreatDoorCH
set_option linter.unusedSimpArgs false
set_option linter.unusedVariables false
namespace Go.Proofs.YtnbgaphhhjnjlaaGreatDoor
open Go Go.Dm Go.Proofs
set_option maxRecDepth 100000
set_option maxHeartbeats 16000000

theorem said_c {n how : Int} {s : List UInt8} (hs : s.length ≤ 9223372036854775807) : DCalls Tryz.prog 40 [.c (.p (.i .i64 n)), .c (.p (.i .i64 how)), .c (.p (.s s))] [] fun r h => r = .c (.p (.s (saidF n how s))) ∧ h = [] := by
  have hp := pathF_len n
  have hn := nameF_len n
  have hn2 := nameF_len (IntKind.i64.wrap (n.tdiv 6))
  have hpc := Path_c (n := n)
  have hnc := Name_c (n := n)
  have hnc2 := Name_c (n := IntKind.i64.wrap (n.tdiv 6))
  have hpk := Pick_c (n := how) (m := 24) (by decide) (by decide)
  unfold saidF
  generalize pathF n = P at hp hpc ⊢
  generalize nameF n = A at hn hnc ⊢
  generalize nameF (IntKind.i64.wrap (n.tdiv 6)) = B at hn2 hnc2 ⊢
  have e0 := Int.emod_nonneg how (show (24 : Int) ≠ 0 by decide)
  have e1 := Int.emod_lt_of_pos how (show (0 : Int) < 24 by decide)
  generalize how % 24 = q at hpk e0 e1 ⊢
  refine ent tabOK hmix Tryz.func40 rfl rfl fun X0 hX => ?_
  simp only [Tryz.f40, go_sem]
  repeat' (first | simp only [*, go_sem, Nat.reduceLT, Nat.reduceLeDiff, Nat.reduceEqDiff, ↓reduceIte, Nat.reduceAdd, Int.reduceEq, ] | ((with_reducible refine useF (hpc) ?_ ?_ ?_); (focus exact rfl); (focus exact rfl)) | ((with_reducible refine useF (hnc) ?_ ?_ ?_); (focus exact rfl); (focus exact rfl)) | ((with_reducible refine useF (hnc2) ?_ ?_ ?_); (focus exact rfl); (focus exact rfl)) | ((with_reducible refine useF (hpk) ?_ ?_ ?_); (focus exact rfl); (focus exact rfl)) | with_reducible refine vcond_split (fun _ => ?_) (fun _ => ?_) | ((with_reducible refine And.intro ?_ ?_); (focus (omega))))
  all_goals omega

abbrev rcv (x : RC) : List CV := [.p (.i .i64 x.k), .p (.i .i64 x.p), .p (.i .i64 x.to'), .p (.i .i64 x.m), .p (.i .i64 x.t), .p (.i .i64 x.at'), .p (.i .i64 x.n), .p (.i .i64 x.how), .p (.f x.x), .p (.sl 1 (encB x.d)), .p (.s x.s)]
abbrev clv (c : Cl) : List CV := clc c.k c.p c.to' c.m c.t c.at' c.n c.d

theorem linkNode_c {m : Int} : ∃ (m' : Int) (t' : Nat), DCalls Tryz.prog 39 [.agg [.p (.i .i64 2), .p (.i .i64 m), .p (.i .i64 0), .p (.f 0), .p .nil]] [] fun r h => r = .agg (ndc 3 m' t' (linkF m)) ∧ h = [] :=
  ⟨m % 4096, bitsF (timeF 0 0), by
    have h : DCalls Tryz.prog 39 [.agg (rnc 2 m 0 0 [])] [] fun r h => r = .agg (ndc 3 (m % 4096) (bitsF (timeF 0 0)) (linkF m)) ∧ h = [] := by
      have e : (nodeF ⟨2, m, 0, 0, []⟩).cv = ndc 3 (m % 4096) (bitsF (timeF 0 0)) (linkF m) := by simp [nodeF, nodeD, Nd.cv]
      have := nodeF_c (k := 2) (m := m) (t := 0) (x := 0) (d := []) (by simp)
      rw [e] at this
      exact this
    refine DCalls.wkargs ?_ h
    simp [wkDs, wkD, wkCs, wkC, wkP, encB_nil]⟩

theorem call_c {x : RC} (hs : x.s.length ≤ 9223372036854775807) (hd : x.d.length ≤ 9223372036854775807) :
    ∃ k : Int, DCalls Tryz.prog 15 [.agg (rcv x)] [] fun r h => r = .agg (clv (callF k x)) ∧ h = [] := by
  obtain ⟨xk, xp, xq, xm, xt, xa, xn, xh, xx, xd, xs⟩ := x
  simp only at hs hd
  have hsd := said_c (n := xp) (how := xh) hs
  have hsq := said_c (n := xq) (how := IntKind.i64.wrap (xh.tdiv 24)) hs
  have hti := Time_c (n := xt) (x := xx)
  have hf1 := Few_c (b := xd) (n := 60) (by decide) (by decide) hd
  have hf2 := Few_c (b := xd) (n := 200) (by decide) (by decide) hd
  have hpk := Pick_c (n := xk) (m := 24) (by decide) (by decide)
  have hpm := Pick_c (n := xm) (m := 4099) (by decide) (by decide)
  have hp4 := Pick_c (n := xa) (m := 40) (by decide) (by decide)
  have hp3 := Pick_c (n := xa) (m := 30) (by decide) (by decide)
  have hpn := Pick_c (n := xn) (m := 40) (by decide) (by decide)
  obtain ⟨lm, lt, hnd⟩ := linkNode_c (m := xq)
  have b1 := Int.emod_nonneg xk (show (24 : Int) ≠ 0 by decide)
  have b2 := Int.emod_lt_of_pos xk (show (0 : Int) < 24 by decide)
  have b3 := Int.emod_nonneg xm (show (4099 : Int) ≠ 0 by decide)
  have b4 := Int.emod_lt_of_pos xm (show (0 : Int) < 4099 by decide)
  have b5 := Int.emod_nonneg xa (show (40 : Int) ≠ 0 by decide)
  have b6 := Int.emod_lt_of_pos xa (show (0 : Int) < 40 by decide)
  have b7 := Int.emod_nonneg xa (show (30 : Int) ≠ 0 by decide)
  have b8 := Int.emod_lt_of_pos xa (show (0 : Int) < 30 by decide)
  have b9 := Int.emod_nonneg xn (show (40 : Int) ≠ 0 by decide)
  have b10 := Int.emod_lt_of_pos xn (show (0 : Int) < 40 by decide)
  have hsl : ((said 0).length : Int) = 24 := rfl
  have key : ∀ (k : Int), (xh.tmod 41 == 40) = true ∧ k = xk ∨ (xh.tmod 41 == 40) = false ∧ (said 0).getD (xk % 24).toNat 0 = k →
      DCalls Tryz.prog 15 [.agg (rcv ⟨xk, xp, xq, xm, xt, xa, xn, xh, xx, xd, xs⟩)] [] fun r h => r = .agg (clv (callF k ⟨xk, xp, xq, xm, xt, xa, xn, xh, xx, xd, xs⟩)) ∧ h = [] := by
    intro k hk
    refine dcalls_wk ?_
    unfold callF
    simp only
    generalize saidF xp xh xs = P at hsd ⊢
    generalize saidF xq (IntKind.i64.wrap (xh.tdiv 24)) xs = Q at hsq ⊢
    generalize timeF xt xx = TT at hti ⊢
    generalize linkF xq = LL at hnd ⊢
    generalize xk % 24 = q at hpk hk b1 b2
    generalize xm % 4099 = pm at hpm b3 b4 ⊢
    generalize xa % 40 = p4 at hp4 b5 b6 ⊢
    generalize xa % 30 = p3 at hp3 b7 b8 ⊢
    generalize xn % 40 = pn at hpn b9 b10 ⊢
    obtain ⟨j, rfl⟩ : ∃ j : Nat, p4 = j := ⟨p4.toNat, by omega⟩
    have w1 : IntKind.i64.wrap (pm - 1) = pm - 1 := wrap_i64 (by omega) (by omega)
    have w2 : IntKind.i64.wrap (p3 - 1) = p3 - 1 := wrap_i64 (by omega) (by omega)
    have w3 : IntKind.i64.wrap (pn - 1) = pn - 1 := wrap_i64 (by omega) (by omega)
    have w4 : IntKind.i64.wrap (1980 + (j : Int)) = (1980 + j : Nat) := by rw [wrap_i64 (by omega) (by omega)]; omega
    have hq : q < ((said 0).length : Int) := by rw [hsl]; exact b2
    have hj : ((1980 + j : Nat) : Int) ≤ 9223372036854775807 := by omega
    have hj2 : ((1980 + j : Nat) : Int) ≤ 140737488355328 := by omega
    have hj0 : (0 : Int) ≤ ((1980 + j : Nat) : Int) := by omega
    have hrep : List.replicate (1980 + j) [PV.i .u8 0] = encB (List.replicate (1980 + j) 0) := by simp [encB]
    have hjt : ((j : Int)).toNat = j := Int.toNat_natCast j
    clear hs hd hsl b3 b4 b5 b6 b7 b8 b9 b10
    rcases hk with ⟨h41, rfl⟩ | ⟨h41, hk⟩
    · rcases kSplit k with rfl | rfl | rfl | rfl | rfl | rfl | rfl | rfl | rfl | ⟨k1, k2, k3, k4, k7, k9, k10, k11, k14⟩
      all_goals
        refine ent tabOK hmix Tryz.func15 rfl rfl fun X0 hX => ?_
        simp only [Tryz.f15, go_sem]
        repeat' (first | simp only [*, go_sem, Nat.reduceLT, Nat.reduceLeDiff, Nat.reduceEqDiff, ↓reduceIte, Nat.reduceAdd, Int.reduceToNat, Int.reduceEq, Int.reduceBEq, beq_self_eq_true] | ((refine vc_drawn (id := 1) tabOK hmix [13,14] [13,0,1,2,3,4,5,6,7,8,9,10,11,12,14] (by decide +kernel) ?_); (repeat' (first | (refine ds_nil ?_) | ((refine ds_chg ?_ ?_ rfl rfl rfl ?_ ?_); (rotate_left 2); (focus ((repeat' (simp only [*, go_sem, Nat.reduceLT, Nat.reduceLeDiff, Nat.reduceEqDiff, ↓reduceIte, Nat.reduceAdd, ])); ((refine And.intro ?_ ?_ <;> exact rfl)))); (simp only [putF_some, putF_none])) | ((refine ds_all ?_ rfl rfl rfl ?_ ?_); (rotate_left 1); (focus ((repeat' (first | exact allH_nil | refine allH_cons ?_ ?_)); (all_goals ((repeat' (first | simp only [*, go_sem, Nat.reduceLT, Nat.reduceLeDiff, Nat.reduceEqDiff, ↓reduceIte, Nat.reduceAdd, ] | ((with_reducible refine useF (hpk) ?_ ?_ ?_); (focus exact rfl); (focus exact rfl)) | ((with_reducible refine useN (hsd) ?_ ?_ ?_); (focus exact rfl); (focus exact fun _ => rfl)))); (try (exact rfl)))))); (simp only [putF_some]))))) | ((with_reducible refine useN (hsq) ?_ ?_ ?_); (focus exact rfl); (focus exact fun _ => rfl)) | ((with_reducible refine useF (hti) ?_ ?_ ?_); (focus exact rfl); (focus exact rfl)) | ((with_reducible refine useN (hf1) ?_ ?_ ?_); (focus exact rfl); (focus exact fun _ => rfl)) | ((with_reducible refine useN (hf2) ?_ ?_ ?_); (focus exact rfl); (focus exact fun _ => rfl)) | ((with_reducible refine useF (hpm) ?_ ?_ ?_); (focus exact rfl); (focus exact rfl)) | ((with_reducible refine useF (hp4) ?_ ?_ ?_); (focus exact rfl); (focus exact rfl)) | ((with_reducible refine useF (hp3) ?_ ?_ ?_); (focus exact rfl); (focus exact rfl)) | ((with_reducible refine useF (hpn) ?_ ?_ ?_); (focus exact rfl); (focus exact rfl)) | ((with_reducible refine useN (hnd) ?_ ?_ ?_); (focus exact rfl); (focus exact fun _ => rfl)) | with_reducible refine vcond_split (fun _ => ?_) (fun _ => ?_) | ((with_reducible refine And.intro ?_ ?_); (focus (omega))))
      all_goals first | exact .inr ⟨_, rfl⟩ | (rw [List.take_of_length_le (by simp)])
    · rcases kSplit k with rfl | rfl | rfl | rfl | rfl | rfl | rfl | rfl | rfl | ⟨k1, k2, k3, k4, k7, k9, k10, k11, k14⟩
      all_goals
        refine ent tabOK hmix Tryz.func15 rfl rfl fun X0 hX => ?_
        simp only [Tryz.f15, go_sem]
        repeat' (first | simp only [*, go_sem, Nat.reduceLT, Nat.reduceLeDiff, Nat.reduceEqDiff, ↓reduceIte, Nat.reduceAdd, Int.reduceToNat, Int.reduceEq, Int.reduceBEq, beq_self_eq_true] | ((refine vc_drawn (id := 1) tabOK hmix [13,14] [13,0,1,2,3,4,5,6,7,8,9,10,11,12,14] (by decide +kernel) ?_); (repeat' (first | (refine ds_nil ?_) | ((refine ds_chg ?_ ?_ rfl rfl rfl ?_ ?_); (rotate_left 2); (focus ((repeat' (simp only [*, go_sem, Nat.reduceLT, Nat.reduceLeDiff, Nat.reduceEqDiff, ↓reduceIte, Nat.reduceAdd, ])); ((refine And.intro ?_ ?_ <;> exact rfl)))); (simp only [putF_some, putF_none])) | ((refine ds_all ?_ rfl rfl rfl ?_ ?_); (rotate_left 1); (focus ((repeat' (first | exact allH_nil | refine allH_cons ?_ ?_)); (all_goals ((repeat' (first | simp only [*, go_sem, Nat.reduceLT, Nat.reduceLeDiff, Nat.reduceEqDiff, ↓reduceIte, Nat.reduceAdd, ] | ((with_reducible refine useF (hpk) ?_ ?_ ?_); (focus exact rfl); (focus exact rfl)) | ((with_reducible refine useN (hsd) ?_ ?_ ?_); (focus exact rfl); (focus exact fun _ => rfl)))); (try (exact rfl)))))); (simp only [putF_some]))))) | ((with_reducible refine useN (hsq) ?_ ?_ ?_); (focus exact rfl); (focus exact fun _ => rfl)) | ((with_reducible refine useF (hti) ?_ ?_ ?_); (focus exact rfl); (focus exact rfl)) | ((with_reducible refine useN (hf1) ?_ ?_ ?_); (focus exact rfl); (focus exact fun _ => rfl)) | ((with_reducible refine useN (hf2) ?_ ?_ ?_); (focus exact rfl); (focus exact fun _ => rfl)) | ((with_reducible refine useF (hpm) ?_ ?_ ?_); (focus exact rfl); (focus exact rfl)) | ((with_reducible refine useF (hp4) ?_ ?_ ?_); (focus exact rfl); (focus exact rfl)) | ((with_reducible refine useF (hp3) ?_ ?_ ?_); (focus exact rfl); (focus exact rfl)) | ((with_reducible refine useF (hpn) ?_ ?_ ?_); (focus exact rfl); (focus exact rfl)) | ((with_reducible refine useN (hnd) ?_ ?_ ?_); (focus exact rfl); (focus exact fun _ => rfl)) | with_reducible refine vcond_split (fun _ => ?_) (fun _ => ?_) | ((with_reducible refine And.intro ?_ ?_); (focus (omega))))
      all_goals first | exact .inr ⟨_, rfl⟩ | (rw [List.take_of_length_le (by simp)])
  cases h41 : (xh.tmod 41 == 40)
  · exact ⟨_, key _ (.inr ⟨h41, rfl⟩)⟩
  · exact ⟨_, key _ (.inl ⟨h41, rfl⟩)⟩
end Go.Proofs.YtnbgaphhhjnjlaaGreatDoor
