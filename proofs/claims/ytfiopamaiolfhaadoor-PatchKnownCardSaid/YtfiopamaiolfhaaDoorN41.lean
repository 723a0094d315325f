/-
  Chapter 19's example, and more: the closed sentence, walked.
-/
import Derived.Test.YtfiopamaiolfhaaDoorU3
import Derived.Test.YtfiopamaiolfhaaDoorSX
import Derived.Test.YtfiopamaiolfhaaDoorVK
import Derived.Test.YtfiopamaiolfhaaDoorVG
set_option linter.unusedSimpArgs false
set_option linter.unusedVariables false
namespace Go.Proofs.YtfiopamaiolfhaaDoor
open Go Go.Dm Go.Proofs
set_option maxRecDepth 100000
set_option maxHeartbeats 8000000

def nilRow (p : List UInt8) (k o n : Int) : List PV := [.s p, .i .i64 k, .i .i64 o, .i .i64 0, .f 0, .nil, .i .i64 n, .i .i64 0, .f 0, .nil]

theorem nilRow_wk (p : List UInt8) (k o n : Int) : wkPs (nilRow p k o n) (Ch.cs ⟨p, k, ⟨o, 0, 0, []⟩, ⟨n, 0, 0, []⟩⟩) :=
  ⟨.inl rfl, .inl rfl, .inl rfl, .inl rfl, .inl rfl, .inr ⟨rfl, 1, rfl⟩, .inl rfl, .inl rfl, .inl rfl, .inr ⟨rfl, 1, rfl⟩, True.intro⟩

theorem applyX_c {t out : List It} {l : List Ch} {es : List (List PV)} {e : Int} (ht : OkT t) (hw : wkRows es (encC l)) (hr : applyF t l = (out, e)) (hl : l.length ≤ 1000) (hp : l.all (fun x => decide (x.p.length ≤ 1000) && (x.o.t == 0 && (x.n.t == 0 && x.n.d.isEmpty))) = true) :
    DCalls Tryd.prog 5 [.c (.p (.sl 5 (encT t))), .c (.p (.sl 10 es))] [] fun r h => r = .tup [.c (.p (.sl 5 (encT out))), .c (.p (.i .i64 e))] ∧ h = [] := by
  have hall : ∀ x ∈ l, x.p.length ≤ 1000 ∧ x.o.t = 0 ∧ x.n.t = 0 ∧ x.n.d = [] := fun x hx => by
    have := List.all_eq_true.1 hp x hx
    simpa [List.isEmpty_iff] using this
  have c := applyG_c (l := l) ht (by omega) (fun x hx => by obtain ⟨a, b, c, _⟩ := hall x hx; exact ⟨by omega, by omega, by omega⟩) (fun x hx => by obtain ⟨_, _, _, d⟩ := hall x hx; rw [d]; decide)
  rw [hr] at c
  exact DCalls.wkR2 (wkRows_refl _) hw c

def manyR (k : Nat) : List (List PV) := (List.range k).map fun i => nilRow (many1 i).p 1 0 1

theorem manyR_next (k : Nat) : manyR (k + 1) = manyR k ++ [nilRow (many1 k).p 1 0 1] := by
  unfold manyR
  rw [List.range_succ, List.map_append]
  rfl

theorem manyR_len (k : Nat) : (manyR k).length = k := by simp [manyR]

theorem manyR_take {k : Nat} (h : 120 ≤ k) : (manyR k).take 120 = manyR 120 := by
  unfold manyR
  rw [← List.map_take, List.take_range, Nat.min_eq_left h]

theorem wkRows_map {α : Type} {f g : α → List PV} (h : ∀ x, wkPs (f x) (g x)) : ∀ l : List α, wkRows (l.map f) (l.map g)
  | [] => True.intro
  | x :: l => ⟨h x, wkRows_map h l⟩

theorem manyR_wk (k : Nat) : wkRows (manyR k) (encC (manyF k)) := by
  unfold manyR manyF encC
  rw [List.map_map]
  exact wkRows_map (fun i => nilRow_wk _ _ _ _) _

theorem many_all (k : Nat) : (manyF k).all (fun x => decide (x.p.length ≤ 1000) && (x.o.t == 0 && (x.n.t == 0 && x.n.d.isEmpty))) = true := by
  rw [List.all_eq_true]
  intro c hc
  obtain ⟨i, _, rfl⟩ := List.mem_map.1 hc
  rfl

theorem patchKnown_law : DCalls Tryd.prog 3 [] [] fun r h => r = .c (.p (.b true)) ∧ h = [] := by
  have ca := applyX_c (l := [⟨[97], 2, exDir, nd0⟩]) (es := [nilRow [97] 2 2 0]) exT_ok ⟨nilRow_wk _ _ _ _, True.intro⟩ ex_a (by decide) (by decide)
  have cb := applyX_c (l := [⟨[97], 1, nd0, exDir⟩]) (es := [nilRow [97] 1 0 2]) exT_ok ⟨nilRow_wk _ _ _ _, True.intro⟩ ex_b (by decide) (by decide)
  have cc := applyX_c (l := [⟨[97, 47, 98], 2, exDir, nd0⟩]) (es := [nilRow [97, 47, 98] 2 2 0]) exT_ok ⟨nilRow_wk _ _ _ _, True.intro⟩ ex_c (by decide) (by decide)
  have ce := applyX_c (l := [⟨[120], 5, nd0, nd0⟩]) (es := [nilRow [120] 5 0 0]) exT_ok ⟨nilRow_wk _ _ _ _, True.intro⟩ ex_e (by decide) (by decide)
  have cu := applyX_c (l := [⟨[97], 4, exDir, exN⟩, ⟨[97, 47, 98], 2, exN, nd0⟩]) (es := [nilRow [97] 4 2 1, nilRow [97, 47, 98] 2 1 0]) exT_ok ⟨nilRow_wk _ _ _ _, nilRow_wk _ _ _ _, True.intro⟩ ex_u (by decide) (by decide)
  have cg := DCalls.wkA (args := [.c (.p .nil), .c (.p (.sl 10 (manyR 121)))]) (args' := [.c (.p (.sl 5 (encT []))), .c (.p (.sl 10 (manyR 121)))]) ⟨wkD_nil, wkD_rfl, trivial⟩ (applyX_c OkT.nil (manyR_wk 121) many_limit (by simp [manyF]) (many_all 121))
  have ch := DCalls.wkA (args := [.c (.p .nil), .c (.p (.sl 10 (manyR 120)))]) (args' := [.c (.p (.sl 5 (encT []))), .c (.p (.sl 10 (manyR 120)))]) ⟨wkD_nil, wkD_rfl, trivial⟩ (applyX_c OkT.nil (manyR_wk 120) many_ok (by simp [manyF]) (many_all 120))
  have cw := DCalls.wkA (args := [.c (.p (.sl 5 (encT exT))), .c (.p .nil)]) (args' := [.c (.p (.sl 5 (encT exT))), .c (.p (.sl 10 (encC [])))]) ⟨wkD_rfl, wkD_nil, trivial⟩ (applyX_c exT_ok (wkRows_refl (encC [])) ex_w (by decide) rfl)
  have hv : ((List.range 120).map fun i => (⟨(many1 i).p, exN⟩ : It)).length = 120 := by simp
  generalize ((List.range 120).map fun i => (⟨(many1 i).p, exN⟩ : It)) = tv at ch hv
  have gu : (encT [(⟨[97], exN⟩ : It)]).getD 0 [] = [.s [97], .i .i64 1, .i .i64 0, .f 0, .sl 1 (encB [])] := rfl
  have lu : ([(⟨[97], exN⟩ : It)] : List It).length = 1 := rfl
  have lt : exT.length = 2 := rfl
  generalize ([(⟨[97], exN⟩ : It)] : List It) = tu at cu gu lu
  have wt : wkRows [[.s [97], .i .i64 2, .i .i64 0, .f 0, .nil], [.s [97, 47, 98], .i .i64 1, .i .i64 0, .f 0, .nil]] (encT exT) := ⟨⟨.inl rfl, .inl rfl, .inl rfl, .inl rfl, .inr ⟨rfl, 1, rfl⟩, True.intro⟩, ⟨.inl rfl, .inl rfl, .inl rfl, .inl rfl, .inr ⟨rfl, 1, rfl⟩, True.intro⟩, True.intro⟩
  generalize exT = tt at ca cb cc ce cu cw lt wt
  unfold nilRow at ca cb cc ce cu
  refine entS tabOK Tryd.func3 rfl rfl fun X0 hX => ?_
  simp only [Tryd.ntmps3, Tryd.f3, go_sem]
  refine swp_first tabOK hmix ?_
  repeat' (first | simp (maxSteps := 1000000) only [*, go_sem, Nat.reduceLT, Nat.reduceLeDiff, Nat.reduceEqDiff, ↓reduceIte, Nat.reduceAdd, Nat.reduceSub, Nat.reduceMul, Int.reduceLT, Int.reduceLE, Int.reduceAdd, Int.reduceSub, Int.reduceMul, Int.reduceNeg, Int.reduceToNat, Int.reduceEq, Int.reduceBEq, Int.reduceBNe, Nat.reduceBEq, beq_self_eq_true, bne_self_eq_false] | with_reducible refine vcond_split (fun _ => ?_) (fun _ => ?_) | with_reducible refine vg_split (fun _ => ?_) (fun _ => ?_) | ((with_reducible apply DCalls.frz); (focus exact rfl); (focus exact rfl)) | ((with_reducible refine And.intro ?_ ?_); (focus (first | omega | decide | assumption | (simp only [decide_eq_true_eq, decide_eq_false_iff_not] at *; omega)))))
  refine swp_first tabOK hmix ?_
  repeat' (first | simp (maxSteps := 1000000) only [*, go_sem, Nat.reduceLT, Nat.reduceLeDiff, Nat.reduceEqDiff, ↓reduceIte, Nat.reduceAdd, Nat.reduceSub, Nat.reduceMul, Int.reduceLT, Int.reduceLE, Int.reduceAdd, Int.reduceSub, Int.reduceMul, Int.reduceNeg, Int.reduceToNat, Int.reduceEq, Int.reduceBEq, Int.reduceBNe, Nat.reduceBEq, beq_self_eq_true, bne_self_eq_false] | with_reducible refine vcond_split (fun _ => ?_) (fun _ => ?_) | with_reducible refine vg_split (fun _ => ?_) (fun _ => ?_) | ((with_reducible apply DCalls.frz); (focus exact rfl); (focus exact rfl)) | ((with_reducible refine And.intro ?_ ?_); (focus (first | omega | decide | assumption | (simp only [decide_eq_true_eq, decide_eq_false_iff_not] at *; omega)))))
  refine swp_first tabOK hmix ?_
  repeat' (first | simp (maxSteps := 1000000) only [*, go_sem, Nat.reduceLT, Nat.reduceLeDiff, Nat.reduceEqDiff, ↓reduceIte, Nat.reduceAdd, Nat.reduceSub, Nat.reduceMul, Int.reduceLT, Int.reduceLE, Int.reduceAdd, Int.reduceSub, Int.reduceMul, Int.reduceNeg, Int.reduceToNat, Int.reduceEq, Int.reduceBEq, Int.reduceBNe, Nat.reduceBEq, beq_self_eq_true, bne_self_eq_false] | with_reducible refine vcond_split (fun _ => ?_) (fun _ => ?_) | with_reducible refine vg_split (fun _ => ?_) (fun _ => ?_) | ((with_reducible apply DCalls.frz); (focus exact rfl); (focus exact rfl)) | ((with_reducible refine And.intro ?_ ?_); (focus (first | omega | decide | assumption | (simp only [decide_eq_true_eq, decide_eq_false_iff_not] at *; omega)))))
  refine swp_join tabOK hmix (α := Unit) (fun _ => ⟨162, [(1, .c (.ptr 0 0)), (2, .c (.ptr 1 0)), (3, .c (.p (.sl 5 (encT tt))))], [.box [.p (.i .i64 1), .p (.i .i64 0), .p (.f 0), .p .nil], .box [.p (.i .i64 2), .p (.i .i64 0), .p (.f 0), .p .nil]]⟩) (fun _ => True) ?_ ?_
  · clear ca cb cc ce cu cg ch cw
    repeat' (first | simp (maxSteps := 1000000) only [*, go_sem, Nat.reduceLT, Nat.reduceLeDiff, Nat.reduceEqDiff, ↓reduceIte, Nat.reduceAdd, Nat.reduceSub, Nat.reduceMul, Int.reduceLT, Int.reduceLE, Int.reduceAdd, Int.reduceSub, Int.reduceMul, Int.reduceNeg, Int.reduceToNat, Int.reduceEq, Int.reduceBEq, Int.reduceBNe, Nat.reduceBEq, beq_self_eq_true, bne_self_eq_false] | with_reducible refine vcond_split (fun _ => ?_) (fun _ => ?_) | with_reducible refine vg_split (fun _ => ?_) (fun _ => ?_) | ((with_reducible apply DCalls.frz); (focus exact rfl); (focus exact rfl)) | ((with_reducible refine And.intro ?_ ?_); (focus (first | omega | decide | assumption | (simp only [decide_eq_true_eq, decide_eq_false_iff_not] at *; omega)))))
    exact qj_dataW (es' := encT tt) () 3 2 0 2 5 trivial rfl rfl wt (weak_mk (by rw [hX]; rfl) rfl rfl (by simp [wk_cons, wk_nil, look_cons, closedD, closedC, renT, renD, renC, encT_nil, encS_nil, encC_nil]))
  rintro - -
  refine swp_join tabOK hmix (α := Unit) (fun _ => ⟨162, [(1, .c (.ptr 0 0)), (2, .c (.ptr 1 0)), (3, .c (.p (.sl 5 (encT tt)))), (5, .c (.p (.i .i64 17)))], [.box [.p (.i .i64 1), .p (.i .i64 0), .p (.f 0), .p .nil], .box [.p (.i .i64 2), .p (.i .i64 0), .p (.f 0), .p .nil]]⟩) (fun _ => True) ?_ ?_
  · skip
    repeat' (first | simp (maxSteps := 1000000) only [*, go_sem, Nat.reduceLT, Nat.reduceLeDiff, Nat.reduceEqDiff, ↓reduceIte, Nat.reduceAdd, Nat.reduceSub, Nat.reduceMul, Int.reduceLT, Int.reduceLE, Int.reduceAdd, Int.reduceSub, Int.reduceMul, Int.reduceNeg, Int.reduceToNat, Int.reduceEq, Int.reduceBEq, Int.reduceBNe, Nat.reduceBEq, beq_self_eq_true, bne_self_eq_false] | ((with_reducible refine useN (ca) ?_ ?_ ?_); (focus exact rfl); (focus exact fun _ => rfl)) | with_reducible refine vcond_split (fun _ => ?_) (fun _ => ?_) | with_reducible refine vg_split (fun _ => ?_) (fun _ => ?_) | ((with_reducible apply DCalls.frz); (focus exact rfl); (focus exact rfl)) | ((with_reducible refine And.intro ?_ ?_); (focus (first | omega | decide | assumption | (simp only [decide_eq_true_eq, decide_eq_false_iff_not] at *; omega)))))
    exact qj_n () trivial (weak_mk (by rw [hX]; rfl) rfl rfl (by simp [wk_cons, wk_nil, look_cons, closedD, closedC, renT, renD, renC, encT_nil, encS_nil, encC_nil]))
  rintro - -
  refine swp_join tabOK hmix (α := Unit) (fun _ => ⟨162, [(1, .c (.ptr 0 0)), (2, .c (.ptr 1 0)), (3, .c (.p (.sl 5 (encT tt)))), (5, .c (.p (.i .i64 17))), (7, .c (.p (.i .i64 17)))], [.box [.p (.i .i64 1), .p (.i .i64 0), .p (.f 0), .p .nil], .box [.p (.i .i64 2), .p (.i .i64 0), .p (.f 0), .p .nil]]⟩) (fun _ => True) ?_ ?_
  · skip
    repeat' (first | simp (maxSteps := 1000000) only [*, go_sem, Nat.reduceLT, Nat.reduceLeDiff, Nat.reduceEqDiff, ↓reduceIte, Nat.reduceAdd, Nat.reduceSub, Nat.reduceMul, Int.reduceLT, Int.reduceLE, Int.reduceAdd, Int.reduceSub, Int.reduceMul, Int.reduceNeg, Int.reduceToNat, Int.reduceEq, Int.reduceBEq, Int.reduceBNe, Nat.reduceBEq, beq_self_eq_true, bne_self_eq_false] | ((with_reducible refine useN (cb) ?_ ?_ ?_); (focus exact rfl); (focus exact fun _ => rfl)) | with_reducible refine vcond_split (fun _ => ?_) (fun _ => ?_) | with_reducible refine vg_split (fun _ => ?_) (fun _ => ?_) | ((with_reducible apply DCalls.frz); (focus exact rfl); (focus exact rfl)) | ((with_reducible refine And.intro ?_ ?_); (focus (first | omega | decide | assumption | (simp only [decide_eq_true_eq, decide_eq_false_iff_not] at *; omega)))))
    exact qj_n () trivial (weak_mk (by rw [hX]; rfl) rfl rfl (by simp [wk_cons, wk_nil, look_cons, closedD, closedC, renT, renD, renC, encT_nil, encS_nil, encC_nil]))
  rintro - -
  refine swp_join tabOK hmix (α := Unit) (fun _ => ⟨162, [(1, .c (.ptr 0 0)), (2, .c (.ptr 1 0)), (3, .c (.p (.sl 5 (encT tt)))), (5, .c (.p (.i .i64 17))), (7, .c (.p (.i .i64 17))), (9, .c (.p (.i .i64 17)))], [.box [.p (.i .i64 1), .p (.i .i64 0), .p (.f 0), .p .nil], .box [.p (.i .i64 2), .p (.i .i64 0), .p (.f 0), .p .nil]]⟩) (fun _ => True) ?_ ?_
  · skip
    repeat' (first | simp (maxSteps := 1000000) only [*, go_sem, Nat.reduceLT, Nat.reduceLeDiff, Nat.reduceEqDiff, ↓reduceIte, Nat.reduceAdd, Nat.reduceSub, Nat.reduceMul, Int.reduceLT, Int.reduceLE, Int.reduceAdd, Int.reduceSub, Int.reduceMul, Int.reduceNeg, Int.reduceToNat, Int.reduceEq, Int.reduceBEq, Int.reduceBNe, Nat.reduceBEq, beq_self_eq_true, bne_self_eq_false] | ((with_reducible refine useN (cc) ?_ ?_ ?_); (focus exact rfl); (focus exact fun _ => rfl)) | with_reducible refine vcond_split (fun _ => ?_) (fun _ => ?_) | with_reducible refine vg_split (fun _ => ?_) (fun _ => ?_) | ((with_reducible apply DCalls.frz); (focus exact rfl); (focus exact rfl)) | ((with_reducible refine And.intro ?_ ?_); (focus (first | omega | decide | assumption | (simp only [decide_eq_true_eq, decide_eq_false_iff_not] at *; omega)))))
    exact qj_n () trivial (weak_mk (by rw [hX]; rfl) rfl rfl (by simp [wk_cons, wk_nil, look_cons, closedD, closedC, renT, renD, renC, encT_nil, encS_nil, encC_nil]))
  rintro - -
  refine swp_join tabOK hmix (α := Unit) (fun _ => ⟨162, [(1, .c (.ptr 0 0)), (2, .c (.ptr 1 0)), (3, .c (.p (.sl 5 (encT tt)))), (5, .c (.p (.i .i64 17))), (7, .c (.p (.i .i64 17))), (9, .c (.p (.i .i64 17))), (11, .c (.p (.i .i64 1)))], [.box [.p (.i .i64 1), .p (.i .i64 0), .p (.f 0), .p .nil], .box [.p (.i .i64 2), .p (.i .i64 0), .p (.f 0), .p .nil]]⟩) (fun _ => True) ?_ ?_
  · skip
    repeat' (first | simp (maxSteps := 1000000) only [*, go_sem, Nat.reduceLT, Nat.reduceLeDiff, Nat.reduceEqDiff, ↓reduceIte, Nat.reduceAdd, Nat.reduceSub, Nat.reduceMul, Int.reduceLT, Int.reduceLE, Int.reduceAdd, Int.reduceSub, Int.reduceMul, Int.reduceNeg, Int.reduceToNat, Int.reduceEq, Int.reduceBEq, Int.reduceBNe, Nat.reduceBEq, beq_self_eq_true, bne_self_eq_false] | ((with_reducible refine useN (ce) ?_ ?_ ?_); (focus exact rfl); (focus exact fun _ => rfl)) | with_reducible refine vcond_split (fun _ => ?_) (fun _ => ?_) | with_reducible refine vg_split (fun _ => ?_) (fun _ => ?_) | ((with_reducible apply DCalls.frz); (focus exact rfl); (focus exact rfl)) | ((with_reducible refine And.intro ?_ ?_); (focus (first | omega | decide | assumption | (simp only [decide_eq_true_eq, decide_eq_false_iff_not] at *; omega)))))
    exact qj_n () trivial (weak_mk (by rw [hX]; rfl) rfl rfl (by simp [wk_cons, wk_nil, look_cons, closedD, closedC, renT, renD, renC, encT_nil, encS_nil, encC_nil]))
  rintro - -
  refine swp_join tabOK hmix (α := Unit) (fun _ => ⟨162, [(1, .c (.ptr 0 0)), (2, .c (.ptr 1 0)), (3, .c (.p (.sl 5 (encT tt)))), (5, .c (.p (.i .i64 17))), (7, .c (.p (.i .i64 17))), (9, .c (.p (.i .i64 17))), (11, .c (.p (.i .i64 1))), (12, .c (.p (.sl 5 (encT tu)))), (13, .c (.p (.i .i64 0)))], [.box [.p (.i .i64 1), .p (.i .i64 0), .p (.f 0), .p .nil], .box [.p (.i .i64 2), .p (.i .i64 0), .p (.f 0), .p .nil]]⟩) (fun _ => True) ?_ ?_
  · skip
    repeat' (first | simp (maxSteps := 1000000) only [*, go_sem, Nat.reduceLT, Nat.reduceLeDiff, Nat.reduceEqDiff, ↓reduceIte, Nat.reduceAdd, Nat.reduceSub, Nat.reduceMul, Int.reduceLT, Int.reduceLE, Int.reduceAdd, Int.reduceSub, Int.reduceMul, Int.reduceNeg, Int.reduceToNat, Int.reduceEq, Int.reduceBEq, Int.reduceBNe, Nat.reduceBEq, beq_self_eq_true, bne_self_eq_false] | ((with_reducible refine useN (cu) ?_ ?_ ?_); (focus exact rfl); (focus exact fun _ => rfl)) | with_reducible refine vcond_split (fun _ => ?_) (fun _ => ?_) | with_reducible refine vg_split (fun _ => ?_) (fun _ => ?_) | ((with_reducible apply DCalls.frz); (focus exact rfl); (focus exact rfl)) | ((with_reducible refine And.intro ?_ ?_); (focus (first | omega | decide | assumption | (simp only [decide_eq_true_eq, decide_eq_false_iff_not] at *; omega)))))
    exact qj_n () trivial (weak_mk (by rw [hX]; rfl) rfl rfl (by simp [wk_cons, wk_nil, look_cons, closedD, closedC, renT, renD, renC, encT_nil, encS_nil, encC_nil]))
  rintro - -
  clear ca cb cc ce cu wt
  refine swp_first tabOK hmix ?_
  repeat' (first | simp (maxSteps := 1000000) only [*, go_sem, Nat.reduceLT, Nat.reduceLeDiff, Nat.reduceEqDiff, ↓reduceIte, Nat.reduceAdd, Nat.reduceSub, Nat.reduceMul, Int.reduceLT, Int.reduceLE, Int.reduceAdd, Int.reduceSub, Int.reduceMul, Int.reduceNeg, Int.reduceToNat, Int.reduceEq, Int.reduceBEq, Int.reduceBNe, Nat.reduceBEq, beq_self_eq_true, bne_self_eq_false] | with_reducible refine vcond_split (fun _ => ?_) (fun _ => ?_) | with_reducible refine vg_split (fun _ => ?_) (fun _ => ?_) | ((with_reducible apply DCalls.frz); (focus exact rfl); (focus exact rfl)) | ((with_reducible refine And.intro ?_ ?_); (focus (first | omega | decide | assumption | (simp only [decide_eq_true_eq, decide_eq_false_iff_not] at *; omega)))))
  refine swp_first tabOK hmix ?_
  repeat' (first | simp (maxSteps := 1000000) only [*, go_sem, Nat.reduceLT, Nat.reduceLeDiff, Nat.reduceEqDiff, ↓reduceIte, Nat.reduceAdd, Nat.reduceSub, Nat.reduceMul, Int.reduceLT, Int.reduceLE, Int.reduceAdd, Int.reduceSub, Int.reduceMul, Int.reduceNeg, Int.reduceToNat, Int.reduceEq, Int.reduceBEq, Int.reduceBNe, Nat.reduceBEq, beq_self_eq_true, bne_self_eq_false] | with_reducible refine vcond_split (fun _ => ?_) (fun _ => ?_) | with_reducible refine vg_split (fun _ => ?_) (fun _ => ?_) | ((with_reducible apply DCalls.frz); (focus exact rfl); (focus exact rfl)) | ((with_reducible refine And.intro ?_ ?_); (focus (first | omega | decide | assumption | (simp only [decide_eq_true_eq, decide_eq_false_iff_not] at *; omega)))))
  refine swp_vc tabOK hmix ?_
  repeat' (first | simp (maxSteps := 1000000) only [*, go_sem, Nat.reduceLT, Nat.reduceLeDiff, Nat.reduceEqDiff, ↓reduceIte, Nat.reduceAdd, Nat.reduceSub, Nat.reduceMul, Int.reduceLT, Int.reduceLE, Int.reduceAdd, Int.reduceSub, Int.reduceMul, Int.reduceNeg, Int.reduceToNat, Int.reduceEq, Int.reduceBEq, Int.reduceBNe, Nat.reduceBEq, beq_self_eq_true, bne_self_eq_false] | with_reducible refine vcond_split (fun _ => ?_) (fun _ => ?_) | with_reducible refine vg_split (fun _ => ?_) (fun _ => ?_) | ((with_reducible apply DCalls.frz); (focus exact rfl); (focus exact rfl)) | ((with_reducible refine And.intro ?_ ?_); (focus (first | omega | decide | assumption | (simp only [decide_eq_true_eq, decide_eq_false_iff_not] at *; omega)))))
  refine vc_virt tabOK hmix 14 10 rfl ?_
  refine loop_renS (α := Nat) (fun k => ⟨162, [(1, .c (.ptr 0 0)), (3, .c (.p (.sl 5 (encT tt)))), (5, .c (.p (.i .i64 17))), (7, .c (.p (.i .i64 17))), (9, .c (.p (.i .i64 17))), (11, .c (.p (.i .i64 1))), (12, .c (.p (.sl 5 (encT tu)))), (13, .c (.p (.i .i64 0))), (14, .c (.own 2 0 k)), (15, .c (.p (.i .i64 k)))], [.box [.p (.i .i64 1), .p (.i .i64 0), .p (.f 0), .p .nil], .box [.p (.i .i64 2), .p (.i .i64 0), .p (.f 0), .p .nil], .arr 10 (manyR k) false]⟩)
    (fun k => k ≤ 121) (fun k => 121 - k) 0 (Nat.zero_le _) (.inl (weak_mk (by rw [hX]; rfl) rfl rfl (by simp [wk_cons, wk_nil, look_cons, closedD, closedC, encT_nil, encS_nil, encC_nil]))) ?_
  rintro k hk
  by_cases hlt : k < 121
  · have h1 : decide ((k : Int) < 121) = true := decide_eq_true (by omega)
    have hml := manyR_len k
    have hnx := manyR_next k
    clear cg ch cw gu lu lt hv
    have a1 : IntKind.i64.wrap ((k / 26 : Nat) : Int) = ((k / 26 : Nat) : Int) := wrap_i64 (by omega) (by omega)
    have a2 : IntKind.i64.wrap (97 + ((k / 26 : Nat) : Int)) = ((97 + k / 26 : Nat) : Int) := by rw [wrap_i64 (by omega) (by omega)]; omega
    have a3 : IntKind.u8.wrap ((97 + k / 26 : Nat) : Int) = ((97 + k / 26 : Nat) : Int) := wrap_u8 (by omega) (by omega)
    have a4 : IntKind.i64.wrap (97 + ((k % 26 : Nat) : Int)) = ((97 + k % 26 : Nat) : Int) := by rw [wrap_i64 (by omega) (by omega)]; omega
    have a5 : IntKind.u8.wrap ((97 + k % 26 : Nat) : Int) = ((97 + k % 26 : Nat) : Int) := wrap_u8 (by omega) (by omega)
    have hb : bytesOf [[.i .u8 (IntKind.u8.wrap (IntKind.i64.wrap (97 + IntKind.i64.wrap ((k : Int).tdiv 26))))], [.i .u8 (IntKind.u8.wrap (IntKind.i64.wrap (97 + (k : Int).tmod 26)))]] = some (many1 k).p := by
      rw [show (k : Int).tdiv 26 = ((k / 26 : Nat) : Int) from rfl, show (k : Int).tmod 26 = ((k % 26 : Nat) : Int) from rfl, a1, a2, a3, a4, a5]
      rfl
    clear a1 a2 a3 a4 a5
    have w1 : IntKind.i64.wrap ((k : Int) + 1) = k + 1 := wrap_i64 (by omega) (by omega)
    have hb1 : (k + 1) * 120 ≤ 140737488355328 := by omega
    have hb2 : k ≤ 9223372036854775806 := by omega
    have hN := PLift.up hnx
    clear hnx
    refine swp_vc tabOK hmix ?_
    repeat' (first | simp (maxSteps := 1000000) only [*, go_sem, Nat.reduceLT, Nat.reduceLeDiff, Nat.reduceEqDiff, ↓reduceIte, Nat.reduceAdd, Nat.reduceSub, Nat.reduceMul, Int.reduceLT, Int.reduceLE, Int.reduceAdd, Int.reduceSub, Int.reduceMul, Int.reduceNeg, Int.reduceToNat, Int.reduceEq, Int.reduceBEq, Int.reduceBNe, Nat.reduceBEq, beq_self_eq_true, bne_self_eq_false] | with_reducible refine vcond_split (fun _ => ?_) (fun _ => ?_) | with_reducible refine vg_split (fun _ => ?_) (fun _ => ?_) | ((with_reducible apply DCalls.frz); (focus exact rfl); (focus exact rfl)) | ((with_reducible refine And.intro ?_ ?_); (focus (first | omega | decide | assumption | (simp only [decide_eq_true_eq, decide_eq_false_iff_not] at *; omega)))))
    exact qr_ren (k + 1) 2 5 (by omega) (by omega) rfl rfl (weak_mk rfl (by rw [hN.down]; rfl) rfl (by simp [wk_cons, wk_nil, look_cons, closedD, closedC, renT, renD, renC, encT_nil, encS_nil, encC_nil]))
  · have hk2 : k = 121 := by omega
    subst hk2
    have hml := manyR_len 121
    have htk := manyR_take (k := 121) (by decide)
    have htk2 : (manyR 121).take 121 = manyR 121 := List.take_of_length_le (by rw [hml]; exact Nat.le_refl _)
    refine swp_vc tabOK hmix ?_
    repeat' (first | simp (maxSteps := 1000000) only [*, go_sem, Nat.reduceLT, Nat.reduceLeDiff, Nat.reduceEqDiff, ↓reduceIte, Nat.reduceAdd, Nat.reduceSub, Nat.reduceMul, Int.reduceLT, Int.reduceLE, Int.reduceAdd, Int.reduceSub, Int.reduceMul, Int.reduceNeg, Int.reduceToNat, Int.reduceEq, Int.reduceBEq, Int.reduceBNe, Nat.reduceBEq, beq_self_eq_true, bne_self_eq_false] | with_reducible refine vcond_split (fun _ => ?_) (fun _ => ?_) | with_reducible refine vg_split (fun _ => ?_) (fun _ => ?_) | ((with_reducible apply DCalls.frz); (focus exact rfl); (focus exact rfl)) | ((with_reducible refine And.intro ?_ ?_); (focus (first | omega | decide | assumption | (simp only [decide_eq_true_eq, decide_eq_false_iff_not] at *; omega)))))
    refine swp_vc tabOK hmix ?_
    repeat' (first | simp (maxSteps := 1000000) only [*, go_sem, Nat.reduceLT, Nat.reduceLeDiff, Nat.reduceEqDiff, ↓reduceIte, Nat.reduceAdd, Nat.reduceSub, Nat.reduceMul, Int.reduceLT, Int.reduceLE, Int.reduceAdd, Int.reduceSub, Int.reduceMul, Int.reduceNeg, Int.reduceToNat, Int.reduceEq, Int.reduceBEq, Int.reduceBNe, Nat.reduceBEq, beq_self_eq_true, bne_self_eq_false, Bool.not_true, Bool.not_false, List.append_eq, List.cons_append, List.nil_append] | ((with_reducible refine useF (known19_c) ?_ ?_ ?_); (focus exact rfl); (focus exact rfl)) | ((with_reducible refine useN (cg) ?_ ?_ ?_); (focus exact rfl); (focus exact fun _ => rfl)) | ((with_reducible refine useN (ch) ?_ ?_ ?_); (focus exact rfl); (focus exact fun _ => rfl)) | ((with_reducible refine useN (cw) ?_ ?_ ?_); (focus exact rfl); (focus exact fun _ => rfl)) | with_reducible refine vcond_split (fun _ => ?_) (fun _ => ?_) | with_reducible refine vg_split (fun _ => ?_) (fun _ => ?_) | ((with_reducible apply DCalls.frz); (focus exact rfl); (focus exact rfl)) | ((with_reducible refine And.intro ?_ ?_); (focus (first | omega | decide | assumption | (simp only [decide_eq_true_eq, decide_eq_false_iff_not] at *; omega)))))
end Go.Proofs.YtfiopamaiolfhaaDoor
