/-
  The contract of the law's two trees in one.
-/
import Derived.Test.YtjanmkknbijecaaGreatDoorD8
import Derived.Test.YtjanmkknbijecaaGreatDoorSM
import Derived.Test.YtjanmkknbijecaaGreatDoorVE
set_option linter.unusedSimpArgs false
set_option linter.unusedVariables false
namespace Go.Proofs.YtjanmkknbijecaaGreatDoor
open Go Go.Dm
set_option maxRecDepth 100000
set_option maxHeartbeats 4000000

def rowH (c : UInt8) : List PV := [.s [c], .i .i64 2, .i .i64 0, .f 0, .nil]
def rowI (c : UInt8) (x : It) : List PV := [.s (c :: 47 :: x.p), .i .i64 x.n.k, .i .i64 x.n.m, .f x.n.t, .sl 1 (encB x.n.d)]
def rowsA (c : UInt8) (a : List It) (i : Nat) : List (List PV) := rowH c :: (a.take i).map (rowI c)
theorem rowsA_len (c : UInt8) (a : List It) (i : Nat) : (rowsA c a i).length ≤ i + 1 := by
  simp only [rowsA, List.length_cons, List.length_map]
  exact Nat.succ_le_succ (List.length_take_le ..)
theorem rowsA_step {c : UInt8} {a : List It} {i : Nat} {x : It} (h : a[i]? = some x) : rowsA c a (i + 1) = rowsA c a i ++ [rowI c x] := by
  simp [rowsA, List.take_add_one, h]
theorem rowsA_end {c : UInt8} {a : List It} {i : Nat} (h : a.length ≤ i ∨ 50 ≤ i) (h2 : i ≤ 50) : rowsA c a i = rowsA c a 50 := by
  unfold rowsA
  rcases h with h | h
  · rw [List.take_of_length_le h, List.take_of_length_le (Nat.le_trans h h2)]
  · rw [show i = 50 by omega]
theorem wkPs_refl : ∀ e : List PV, wkPs e e
  | [] => True.intro
  | _ :: xs => ⟨.inl rfl, wkPs_refl xs⟩
theorem wkRows_refl : ∀ e : List (List PV), wkRows e e
  | [] => True.intro
  | x :: xs => ⟨wkPs_refl x, wkRows_refl xs⟩
theorem wkRows_app : ∀ {a b c d : List (List PV)}, wkRows a b → wkRows c d → wkRows (a ++ c) (b ++ d)
  | [], [], _, _, _, h => h
  | _ :: _, _ :: _, _, _, h, g => ⟨h.1, wkRows_app h.2 g⟩
  | [], _ :: _, _, _, h, _ => h.elim
  | _ :: _, [], _, _, h, _ => h.elim
theorem rowsA_wk (c : UInt8) (a : List It) : wkRows (rowsA c a 50) (encT (halfJ c a)) := by
  have e : encT (halfJ c a) = [.s [c], .i .i64 2, .i .i64 0, .f 0, .sl 1 []] :: (a.take 50).map (rowI c) := by
    simp only [halfJ, encT, List.map_cons, List.map_map]
    rfl
  rw [e]
  exact ⟨⟨.inl rfl, .inl rfl, .inl rfl, .inl rfl, .inr ⟨rfl, 1, rfl⟩, True.intro⟩, wkRows_refl _⟩

theorem join_c {a b : List It} (ha : a.length ≤ 1000) (hb : b.length ≤ 1000) (hpa : ∀ x ∈ a, x.p.length ≤ 1000) (hpb : ∀ x ∈ b, x.p.length ≤ 1000) :
    DCalls Tryz.prog 31 [.c (.p (.sl 5 (encT a))), .c (.p (.sl 5 (encT b)))] [] fun r h => r = .c (.p (.sl 5 (encT (joinT a b)))) ∧ h = [] := by
  refine dcalls_rows (es := rowsA 120 a 50 ++ rowsA 121 b 50) ?_ ?_
  · have e : encT (joinT a b) = encT (halfJ 120 a) ++ encT (halfJ 121 b) := by simp [joinT, encT]
    rw [e]
    exact wkRows_app (rowsA_wk _ _) (rowsA_wk _ _)
  refine ent tabOK hmix Tryz.func31 rfl rfl fun X0 hX => ?_
  simp only [Tryz.ntmps31, Tryz.f31, go_sem]
  repeat' (first | simp (maxSteps := 1000000) only [*, go_sem, Nat.reduceLT, Nat.reduceLeDiff, Nat.reduceEqDiff, ↓reduceIte, Nat.reduceAdd, Nat.reduceSub, Nat.reduceMul, Int.reduceLT, Int.reduceLE, Int.reduceAdd, Int.reduceSub, Int.reduceMul, Int.reduceNeg, Int.reduceToNat, Int.reduceEq, Int.reduceBEq, Int.reduceBNe, Nat.reduceBEq, beq_self_eq_true, bne_self_eq_false] | with_reducible refine vcond_split (fun _ => ?_) (fun _ => ?_) | with_reducible refine vg_split (fun _ => ?_) (fun _ => ?_) | ((with_reducible apply DCalls.frz); (focus exact rfl); (focus exact rfl)) | ((with_reducible refine And.intro ?_ ?_); (focus (first | omega | decide | assumption | (simp only [decide_eq_true_eq, decide_eq_false_iff_not] at *; omega)))))
  refine loop_ren tabOK hmix (α := Nat × List (List PV)) (fun x => ⟨67, [(0, .c (.p (.sl 5 (encT a)))), (1, .c (.p (.sl 5 (encT b)))), (5, .c (.own 0 0 x.2.length)), (6, .c (.p (.i .i64 x.1)))], [.arr 5 x.2 false]⟩)
    (fun x => x.1 ≤ 50 ∧ x.2.length ≤ x.1 + 1 ∧ x.2 = rowsA 120 a x.1) (fun x => 50 - x.1) (0, [rowH 120]) ⟨Nat.zero_le _, Nat.le_refl _, rfl⟩ (.inl (weak_mk (by rw [hX]; rfl) rfl rfl (by simp [wk_cons, wk_nil, look_cons, closedD, closedC, encT_nil, encS_nil, encC_nil]))) ?_
  rintro ⟨i, rs⟩ ⟨hi, hrl, hr⟩
  simp only at hi hrl hr
  by_cases hlt : i < a.length ∧ i < 50
  · have hx : a[i]? = some a[i] := List.getElem?_eq_getElem hlt.1
    have hg := encT_at hx
    have hst := rowsA_step (c := 120) hx
    rw [← hr] at hst
    clear hr
    have h1 : decide ((i : Int) < (a.length : Int)) = true := decide_eq_true (by omega)
    have h2 : decide ((i : Int) < 50) = true := decide_eq_true (by omega)
    have w1 : IntKind.i64.wrap ((i : Int) + 1) = i + 1 := wrap_i64 (by omega) (by omega)
    have hxl := hpa _ (List.mem_of_getElem? hx)
    generalize a[i] = x at hx hg hst hxl
    have hJ := PLift.up hst
    clear hst
    repeat' (first | simp (maxSteps := 1000000) only [*, go_sem, Nat.reduceLT, Nat.reduceLeDiff, Nat.reduceEqDiff, ↓reduceIte, Nat.reduceAdd, Nat.reduceSub, Nat.reduceMul, Int.reduceLT, Int.reduceLE, Int.reduceAdd, Int.reduceSub, Int.reduceMul, Int.reduceNeg, Int.reduceToNat, Int.reduceEq, Int.reduceBEq, Int.reduceBNe, Nat.reduceBEq, beq_self_eq_true, bne_self_eq_false] | ((refine W9.vc_drawn (id := 5) tabOK hmix [13,14] [1,2,3,4,5,6,7,8,9,10,11,12,13,0,14,15] (by decide +kernel) ?_); (repeat' (first | (refine ds_nil ?_) | ((refine ds_chg ?_ ?_ rfl rfl rfl ?_ ?_); (rotate_left 2); (focus ((repeat' (first | simp (maxSteps := 1000000) only [*, go_sem, Nat.reduceLT, Nat.reduceLeDiff, Nat.reduceEqDiff, ↓reduceIte, Nat.reduceAdd, Nat.reduceSub, Nat.reduceMul, Int.reduceLT, Int.reduceLE, Int.reduceAdd, Int.reduceSub, Int.reduceMul, Int.reduceNeg, Int.reduceToNat, Int.reduceEq, Int.reduceBEq, Int.reduceBNe, Nat.reduceBEq, beq_self_eq_true, bne_self_eq_false] | with_reducible refine vcond_split (fun _ => ?_) (fun _ => ?_) | with_reducible refine vg_split (fun _ => ?_) (fun _ => ?_) | ((with_reducible apply DCalls.frz); (focus exact rfl); (focus exact rfl)) | ((with_reducible refine And.intro ?_ ?_); (focus (first | omega | decide | assumption | (simp only [decide_eq_true_eq, decide_eq_false_iff_not] at *; omega)))))); (first | exact rfl | (refine And.intro ?_ ?_ <;> exact rfl)))); (simp only [putF_some, putF_none])) | ((refine ds_all ?_ rfl rfl rfl ?_ ?_); (rotate_left 1); (focus ((repeat' (first | exact allH_nil | refine allH_cons ?_ ?_)); (all_goals ((repeat' (first | simp (maxSteps := 1000000) only [*, go_sem, Nat.reduceLT, Nat.reduceLeDiff, Nat.reduceEqDiff, ↓reduceIte, Nat.reduceAdd, Nat.reduceSub, Nat.reduceMul, Int.reduceLT, Int.reduceLE, Int.reduceAdd, Int.reduceSub, Int.reduceMul, Int.reduceNeg, Int.reduceToNat, Int.reduceEq, Int.reduceBEq, Int.reduceBNe, Nat.reduceBEq, beq_self_eq_true, bne_self_eq_false] | with_reducible refine vcond_split (fun _ => ?_) (fun _ => ?_) | with_reducible refine vg_split (fun _ => ?_) (fun _ => ?_) | ((with_reducible apply DCalls.frz); (focus exact rfl); (focus exact rfl)) | ((with_reducible refine And.intro ?_ ?_); (focus (first | omega | decide | assumption | (simp only [decide_eq_true_eq, decide_eq_false_iff_not] at *; omega)))))); (try (first | exact rfl | omega)))))); (simp only [putF_some, putF_none]))))) | with_reducible refine vcond_split (fun _ => ?_) (fun _ => ?_) | with_reducible refine vg_split (fun _ => ?_) (fun _ => ?_) | ((with_reducible apply DCalls.frz); (focus exact rfl); (focus exact rfl)) | ((with_reducible refine And.intro ?_ ?_); (focus (first | omega | decide | assumption | (simp only [decide_eq_true_eq, decide_eq_false_iff_not] at *; omega)))))
    exact qr_ren (i + 1, rs ++ [rowI 120 x]) 0 2 ⟨by omega, by simp; omega, hJ.down.symm⟩ (by simp only; omega) rfl rfl (weak_mk rfl rfl rfl (by simp [wk_cons, wk_nil, look_cons, closedD, closedC, renT, renD, renC, encT_nil, encS_nil, encC_nil]))
  · have hfin : rs = rowsA 120 a 50 := hr.trans (rowsA_end (by omega) hi)
    have hbl : rs ++ [rowH 121] = rs ++ rowsA 121 b 0 := rfl
    have hRl : rs.length ≤ 51 := by rw [hfin]; exact rowsA_len ..
    rw [← hfin]
    clear hr hfin
    have hQ : (decide ((i : Int) < (a.length : Int)) = false) ∨ (decide ((i : Int) < (a.length : Int)) = true ∧ decide ((i : Int) < 50) = false) := by
      by_cases h : i < a.length
      · exact .inr ⟨decide_eq_true (by omega), decide_eq_false (by omega)⟩
      · exact .inl (decide_eq_false (by omega))
    rcases hQ with h1 | ⟨h1, h2⟩
    all_goals
      repeat' (first | simp (maxSteps := 1000000) only [*, go_sem, Nat.reduceLT, Nat.reduceLeDiff, Nat.reduceEqDiff, ↓reduceIte, Nat.reduceAdd, Nat.reduceSub, Nat.reduceMul, Int.reduceLT, Int.reduceLE, Int.reduceAdd, Int.reduceSub, Int.reduceMul, Int.reduceNeg, Int.reduceToNat, Int.reduceEq, Int.reduceBEq, Int.reduceBNe, Nat.reduceBEq, beq_self_eq_true, bne_self_eq_false] | with_reducible refine vcond_split (fun _ => ?_) (fun _ => ?_) | with_reducible refine vg_split (fun _ => ?_) (fun _ => ?_) | ((with_reducible apply DCalls.frz); (focus exact rfl); (focus exact rfl)) | ((with_reducible refine And.intro ?_ ?_); (focus (first | omega | decide | assumption | (simp only [decide_eq_true_eq, decide_eq_false_iff_not] at *; omega)))))
      refine loop_ren tabOK hmix (α := Nat × List (List PV)) (fun x => ⟨67, [(1, .c (.p (.sl 5 (encT b)))), (5, .c (.own 0 0 x.2.length)), (7, .c (.p (.i .i64 x.1)))], [.arr 5 x.2 false]⟩)
        (fun x => x.1 ≤ 50 ∧ x.2.length ≤ x.1 + 52 ∧ x.2 = rs ++ rowsA 121 b x.1) (fun x => 50 - x.1) (0, rs ++ [rowH 121]) ⟨Nat.zero_le _, by simp; omega, rfl⟩
        (.inr ⟨0, 2, 5, _, by decide, by rw [hX]; exact Nat.le_refl _, by rw [hX]; exact Nat.zero_le _, Nat.zero_lt_succ _, rfl, weak_mk (by rw [hX]; rfl) rfl rfl (by simp [wk_cons, wk_nil, look_cons, closedD, closedC, renT, renD, renC, encT_nil, encS_nil, encC_nil])⟩) ?_
      clear h1
      rintro ⟨k, qs⟩ ⟨hk, hql, hq⟩
      simp only at hk hql hq
      by_cases hlt2 : k < b.length ∧ k < 50
      · have hx : b[k]? = some b[k] := List.getElem?_eq_getElem hlt2.1
        have hg := encT_at hx
        have hst := rowsA_step (c := 121) hx
        have hst2 : rs ++ rowsA 121 b (k + 1) = qs ++ [rowI 121 b[k]] := by rw [hst, hq, List.append_assoc]
        clear hq hst
        have h1 : decide ((k : Int) < (b.length : Int)) = true := decide_eq_true (by omega)
        have h2 : decide ((k : Int) < 50) = true := decide_eq_true (by omega)
        have w1 : IntKind.i64.wrap ((k : Int) + 1) = k + 1 := wrap_i64 (by omega) (by omega)
        have hxl := hpb _ (List.mem_of_getElem? hx)
        generalize b[k] = x at hx hg hst2 hxl
        have hJ := PLift.up hst2
        clear hst2
        repeat' (first | simp (maxSteps := 1000000) only [*, go_sem, Nat.reduceLT, Nat.reduceLeDiff, Nat.reduceEqDiff, ↓reduceIte, Nat.reduceAdd, Nat.reduceSub, Nat.reduceMul, Int.reduceLT, Int.reduceLE, Int.reduceAdd, Int.reduceSub, Int.reduceMul, Int.reduceNeg, Int.reduceToNat, Int.reduceEq, Int.reduceBEq, Int.reduceBNe, Nat.reduceBEq, beq_self_eq_true, bne_self_eq_false] | ((refine W9.vc_drawn (id := 10) tabOK hmix [13,14] [1,2,3,4,5,6,7,8,9,10,11,12,13,0,14,15] (by decide +kernel) ?_); (repeat' (first | (refine ds_nil ?_) | ((refine ds_chg ?_ ?_ rfl rfl rfl ?_ ?_); (rotate_left 2); (focus ((repeat' (first | simp (maxSteps := 1000000) only [*, go_sem, Nat.reduceLT, Nat.reduceLeDiff, Nat.reduceEqDiff, ↓reduceIte, Nat.reduceAdd, Nat.reduceSub, Nat.reduceMul, Int.reduceLT, Int.reduceLE, Int.reduceAdd, Int.reduceSub, Int.reduceMul, Int.reduceNeg, Int.reduceToNat, Int.reduceEq, Int.reduceBEq, Int.reduceBNe, Nat.reduceBEq, beq_self_eq_true, bne_self_eq_false] | with_reducible refine vcond_split (fun _ => ?_) (fun _ => ?_) | with_reducible refine vg_split (fun _ => ?_) (fun _ => ?_) | ((with_reducible apply DCalls.frz); (focus exact rfl); (focus exact rfl)) | ((with_reducible refine And.intro ?_ ?_); (focus (first | omega | decide | assumption | (simp only [decide_eq_true_eq, decide_eq_false_iff_not] at *; omega)))))); (first | exact rfl | (refine And.intro ?_ ?_ <;> exact rfl)))); (simp only [putF_some, putF_none])) | ((refine ds_all ?_ rfl rfl rfl ?_ ?_); (rotate_left 1); (focus ((repeat' (first | exact allH_nil | refine allH_cons ?_ ?_)); (all_goals ((repeat' (first | simp (maxSteps := 1000000) only [*, go_sem, Nat.reduceLT, Nat.reduceLeDiff, Nat.reduceEqDiff, ↓reduceIte, Nat.reduceAdd, Nat.reduceSub, Nat.reduceMul, Int.reduceLT, Int.reduceLE, Int.reduceAdd, Int.reduceSub, Int.reduceMul, Int.reduceNeg, Int.reduceToNat, Int.reduceEq, Int.reduceBEq, Int.reduceBNe, Nat.reduceBEq, beq_self_eq_true, bne_self_eq_false] | with_reducible refine vcond_split (fun _ => ?_) (fun _ => ?_) | with_reducible refine vg_split (fun _ => ?_) (fun _ => ?_) | ((with_reducible apply DCalls.frz); (focus exact rfl); (focus exact rfl)) | ((with_reducible refine And.intro ?_ ?_); (focus (first | omega | decide | assumption | (simp only [decide_eq_true_eq, decide_eq_false_iff_not] at *; omega)))))); (try (first | exact rfl | omega)))))); (simp only [putF_some, putF_none]))))) | with_reducible refine vcond_split (fun _ => ?_) (fun _ => ?_) | with_reducible refine vg_split (fun _ => ?_) (fun _ => ?_) | ((with_reducible apply DCalls.frz); (focus exact rfl); (focus exact rfl)) | ((with_reducible refine And.intro ?_ ?_); (focus (first | omega | decide | assumption | (simp only [decide_eq_true_eq, decide_eq_false_iff_not] at *; omega)))))
        exact qr_ren (k + 1, qs ++ [rowI 121 x]) 0 2 ⟨by omega, by simp; omega, hJ.down.symm⟩ (by simp only; omega) rfl rfl (weak_mk rfl rfl rfl (by simp [wk_cons, wk_nil, look_cons, closedD, closedC, renT, renD, renC, encT_nil, encS_nil, encC_nil]))
      · have hfin2 : qs = rs ++ rowsA 121 b 50 := by rw [hq, rowsA_end (by omega) hk]
        rw [← hfin2]
        clear hq hfin2
        have hQ : (decide ((k : Int) < (b.length : Int)) = false) ∨ (decide ((k : Int) < (b.length : Int)) = true ∧ decide ((k : Int) < 50) = false) := by
          by_cases h : k < b.length
          · exact .inr ⟨decide_eq_true (by omega), decide_eq_false (by omega)⟩
          · exact .inl (decide_eq_false (by omega))
        rcases hQ with h1 | ⟨h1, h2⟩
        · repeat' (first | simp (maxSteps := 1000000) only [*, go_sem, Nat.reduceLT, Nat.reduceLeDiff, Nat.reduceEqDiff, ↓reduceIte, Nat.reduceAdd, Nat.reduceSub, Nat.reduceMul, Int.reduceLT, Int.reduceLE, Int.reduceAdd, Int.reduceSub, Int.reduceMul, Int.reduceNeg, Int.reduceToNat, Int.reduceEq, Int.reduceBEq, Int.reduceBNe, Nat.reduceBEq, beq_self_eq_true, bne_self_eq_false] | with_reducible refine vcond_split (fun _ => ?_) (fun _ => ?_) | with_reducible refine vg_split (fun _ => ?_) (fun _ => ?_) | ((with_reducible apply DCalls.frz); (focus exact rfl); (focus exact rfl)) | ((with_reducible refine And.intro ?_ ?_); (focus (first | omega | decide | assumption | (simp only [decide_eq_true_eq, decide_eq_false_iff_not] at *; omega)))))
        · repeat' (first | simp (maxSteps := 1000000) only [*, go_sem, Nat.reduceLT, Nat.reduceLeDiff, Nat.reduceEqDiff, ↓reduceIte, Nat.reduceAdd, Nat.reduceSub, Nat.reduceMul, Int.reduceLT, Int.reduceLE, Int.reduceAdd, Int.reduceSub, Int.reduceMul, Int.reduceNeg, Int.reduceToNat, Int.reduceEq, Int.reduceBEq, Int.reduceBNe, Nat.reduceBEq, beq_self_eq_true, bne_self_eq_false] | with_reducible refine vcond_split (fun _ => ?_) (fun _ => ?_) | with_reducible refine vg_split (fun _ => ?_) (fun _ => ?_) | ((with_reducible apply DCalls.frz); (focus exact rfl); (focus exact rfl)) | ((with_reducible refine And.intro ?_ ?_); (focus (first | omega | decide | assumption | (simp only [decide_eq_true_eq, decide_eq_false_iff_not] at *; omega)))))

end Go.Proofs.YtjanmkknbijecaaGreatDoor
