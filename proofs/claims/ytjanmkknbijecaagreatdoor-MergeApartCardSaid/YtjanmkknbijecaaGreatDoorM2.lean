/-
  Contracts: paths of three trees; conflicts laid together; what stands on no directory; files that went to two paths.
-/
import Derived.Test.YtjanmkknbijecaaGreatDoorM1
import Derived.Test.YtjanmkknbijecaaGreatDoorF1
import Derived.Test.YtjanmkknbijecaaGreatDoorD14
import Derived.Test.YtjanmkknbijecaaGreatDoorVE
set_option linter.unusedSimpArgs false
set_option linter.unusedVariables false
namespace Go.Proofs.YtjanmkknbijecaaGreatDoor
open Go Go.Dm
set_option maxRecDepth 100000
set_option maxHeartbeats 4000000

theorem mpaths_c {ts : List (List It)} (hl : ts.length ≤ 3) (ht : ∀ t ∈ ts, t.length ≤ 120) :
    DCalls Tryz.prog 65 [.c (.p (.sl 1 (ts.map fun t => [.sl 5 (encT t)])))] [] fun r h => r = .c (.p (.sl 1 (Go.Dm.encS (Lib.compact ((ts.flatten.map It.p).mergeSort fun x y => decide (x ≤ y)))))) ∧ h = [] := by
  have hgen : (ts.map fun t => [PV.sl 5 (encT t)]).length = ts.length := List.length_map _
  have hone : (∀ x ∈ (ts.map fun t => [PV.sl 5 (encT t)]), x.length = 1) = True := eq_true fun x hx => by
    obtain ⟨t, _, rfl⟩ := List.mem_map.1 hx
    rfl
  have hat : ∀ i t, ts[i]? = some t → (ts.map fun t => [PV.sl 5 (encT t)]).getD i [] = [.sl 5 (encT t)] := fun i t h => by
    simp only [List.getD_eq_getElem?_getD, List.getElem?_map, h]; rfl
  generalize (ts.map fun t => [PV.sl 5 (encT t)]) = arg at *
  refine ent tabOK hmix Tryz.func65 rfl rfl fun X0 hX => ?_
  simp only [Tryz.ntmps65, Tryz.f65, go_sem]
  repeat' (first | simp (maxSteps := 1000000) only [*, go_sem, Nat.reduceLT, Nat.reduceLeDiff, Nat.reduceEqDiff, ↓reduceIte, Nat.reduceAdd, Nat.reduceSub, Nat.reduceMul, Int.reduceLT, Int.reduceLE, Int.reduceAdd, Int.reduceSub, Int.reduceMul, Int.reduceNeg, Int.reduceToNat, Int.reduceEq, Int.reduceBEq, Int.reduceBNe, Nat.reduceBEq, beq_self_eq_true, bne_self_eq_false] | with_reducible refine vcond_split (fun _ => ?_) (fun _ => ?_) | with_reducible refine vg_split (fun _ => ?_) (fun _ => ?_) | ((with_reducible apply DCalls.frz); (focus exact rfl); (focus exact rfl)) | ((with_reducible refine And.intro ?_ ?_); (focus (first | omega | decide | assumption | (simp only [decide_eq_true_eq, decide_eq_false_iff_not] at *; omega)))))
  refine vc_virt tabOK hmix 3 1 rfl ?_
  refine loop_ren tabOK hmix (α := Nat × List (List UInt8)) (fun x => ⟨31, [(8, .c (.p (.sl 1 arg))), (9, .c (.p (.i .i64 ts.length))), (10, .c (.p (.i .i64 x.1))), (3, .c (.own 0 0 x.2.length))], [.arr 1 (Go.Dm.encS x.2) false]⟩)
    (fun x => x.1 ≤ ts.length ∧ x.2.length ≤ 120 * x.1 ∧ (ts.take x.1).flatten.map It.p = x.2) (fun x => ts.length - x.1) (0, []) ⟨Nat.zero_le _, Nat.le_refl _, rfl⟩ (.inl (weak_mk (by rw [hX]; rfl) rfl rfl (by simp [wk_cons, wk_nil, look_cons, closedD, closedC, encT_nil, encS_nil, encC_nil]))) ?_
  rintro ⟨i, out⟩ ⟨hi, hol, hJ⟩
  simp only at hi hol hJ
  by_cases hlt : i < ts.length
  · have hx : ts[i]? = some ts[i] := List.getElem?_eq_getElem hlt
    have hg := hat _ _ hx
    have h1 : decide ((i : Int) < (ts.length : Int)) = true := decide_eq_true (by omega)
    have hli : (i : Int) < (ts.length : Int) := by omega
    have w1 : IntKind.i64.wrap ((i : Int) + 1) = i + 1 := wrap_i64 (by omega) (by omega)
    have htl := ht _ (List.getElem_mem hlt)
    have hnext : (ts.take (i + 1)).flatten.map It.p = out ++ ts[i].map It.p := by
      rw [List.take_add_one, hx, List.flatten_append, List.map_append, hJ]; simp
    generalize ts[i] = t at hx hg htl hnext
    clear hat hx hJ
    repeat' (first | simp (maxSteps := 1000000) only [*, go_sem, Nat.reduceLT, Nat.reduceLeDiff, Nat.reduceEqDiff, ↓reduceIte, Nat.reduceAdd, Nat.reduceSub, Nat.reduceMul, Int.reduceLT, Int.reduceLE, Int.reduceAdd, Int.reduceSub, Int.reduceMul, Int.reduceNeg, Int.reduceToNat, Int.reduceEq, Int.reduceBEq, Int.reduceBNe, Nat.reduceBEq, beq_self_eq_true, bne_self_eq_false] | with_reducible refine vcond_split (fun _ => ?_) (fun _ => ?_) | with_reducible refine vg_split (fun _ => ?_) (fun _ => ?_) | ((with_reducible apply DCalls.frz); (focus exact rfl); (focus exact rfl)) | ((with_reducible refine And.intro ?_ ?_); (focus (first | omega | decide | assumption | (simp only [decide_eq_true_eq, decide_eq_false_iff_not] at *; omega)))))
    refine loop_ren tabOK hmix (α := Nat × List (List UInt8)) (fun x => ⟨31, [(8, .c (.p (.sl 1 arg))), (9, .c (.p (.i .i64 ts.length))), (10, .c (.p (.i .i64 i))), (14, .c (.p (.sl 5 (encT t)))), (15, .c (.p (.i .i64 t.length))), (16, .c (.p (.i .i64 x.1))), (3, .c (.own 0 0 x.2.length))], [.arr 1 (Go.Dm.encS x.2) false]⟩)
      (fun x => x.1 ≤ t.length ∧ x.2.length ≤ 120 * i + x.1 ∧ out ++ (t.take x.1).map It.p = x.2) (fun x => t.length - x.1) (0, out) ⟨Nat.zero_le _, hol, by simp⟩ (.inl (weak_mk (by rw [hX]; rfl) rfl rfl (by simp [wk_cons, wk_nil, look_cons, closedD, closedC, renT, renD, renC, encT_nil, encS_nil, encC_nil]))) ?_
    rintro ⟨k, o⟩ ⟨hk, hok, hK⟩
    simp only at hk hok hK
    by_cases hkl : k < t.length
    · have hy : t[k]? = some t[k] := List.getElem?_eq_getElem hkl
      have hg2 := encT_at hy
      have h2 : decide ((k : Int) < (t.length : Int)) = true := decide_eq_true (by omega)
      have w2 : IntKind.i64.wrap ((k : Int) + 1) = k + 1 := wrap_i64 (by omega) (by omega)
      have hn2 : out ++ (t.take (k + 1)).map It.p = o ++ [t[k].p] := by
        rw [List.take_add_one, hy, List.map_append, ← List.append_assoc, hK]; rfl
      generalize t[k] = y at hy hg2 hn2
      have hJ2 : k + 1 ≤ t.length ∧ (o ++ [y.p]).length ≤ 120 * i + (k + 1) ∧ out ++ (t.take (k + 1)).map It.p = o ++ [y.p] := ⟨by omega, by simp; omega, hn2⟩
      have hb : o.length ≤ 1000000 := by omega
      clear hy hnext hK hn2
      repeat' (first | simp (maxSteps := 1000000) only [*, go_sem, Nat.reduceLT, Nat.reduceLeDiff, Nat.reduceEqDiff, ↓reduceIte, Nat.reduceAdd, Nat.reduceSub, Nat.reduceMul, Int.reduceLT, Int.reduceLE, Int.reduceAdd, Int.reduceSub, Int.reduceMul, Int.reduceNeg, Int.reduceToNat, Int.reduceEq, Int.reduceBEq, Int.reduceBNe, Nat.reduceBEq, beq_self_eq_true, bne_self_eq_false] | with_reducible refine vcond_split (fun _ => ?_) (fun _ => ?_) | with_reducible refine vg_split (fun _ => ?_) (fun _ => ?_) | ((with_reducible apply DCalls.frz); (focus exact rfl); (focus exact rfl)) | ((with_reducible refine And.intro ?_ ?_); (focus (first | omega | decide | assumption | (simp only [decide_eq_true_eq, decide_eq_false_iff_not] at *; omega)))))
      exact qr_ren (k + 1, o ++ [y.p]) 0 3 hJ2 (by simp only; omega) rfl rfl (weak_mk rfl rfl rfl (by simp [wk_cons, wk_nil, look_cons, closedD, closedC, renT, renD, renC, encT_nil, encS_nil, encC_nil]))
    · have h2 : decide ((k : Int) < (t.length : Int)) = false := decide_eq_false (by omega)
      rw [List.take_of_length_le (by omega), ← hnext] at hK
      have hJ2 : i + 1 ≤ ts.length ∧ o.length ≤ 120 * (i + 1) ∧ (ts.take (i + 1)).flatten.map It.p = o := ⟨by omega, by omega, hK⟩
      clear hnext hK
      repeat' (first | simp (maxSteps := 1000000) only [*, go_sem, Nat.reduceLT, Nat.reduceLeDiff, Nat.reduceEqDiff, ↓reduceIte, Nat.reduceAdd, Nat.reduceSub, Nat.reduceMul, Int.reduceLT, Int.reduceLE, Int.reduceAdd, Int.reduceSub, Int.reduceMul, Int.reduceNeg, Int.reduceToNat, Int.reduceEq, Int.reduceBEq, Int.reduceBNe, Nat.reduceBEq, beq_self_eq_true, bne_self_eq_false] | with_reducible refine vcond_split (fun _ => ?_) (fun _ => ?_) | with_reducible refine vg_split (fun _ => ?_) (fun _ => ?_) | ((with_reducible apply DCalls.frz); (focus exact rfl); (focus exact rfl)) | ((with_reducible refine And.intro ?_ ?_); (focus (first | omega | decide | assumption | (simp only [decide_eq_true_eq, decide_eq_false_iff_not] at *; omega)))))
      exact qr_n (i + 1, o) hJ2 (by simp only; omega) (weak_mk rfl rfl rfl (by simp [wk_cons, wk_nil, look_cons, closedD, closedC, renT, renD, renC, encT_nil, encS_nil, encC_nil]))
  · have h1 : decide ((i : Int) < (ts.length : Int)) = false := decide_eq_false (by omega)
    rw [List.take_of_length_le (by omega)] at hJ
    have hol2 : out.length ≤ 360 := by omega
    rw [hJ]
    clear hJ hat
    have hsl : (out.mergeSort fun x y => decide (x ≤ y)).length = out.length := List.length_mergeSort ..
    repeat' (first | simp (maxSteps := 1000000) only [*, go_sem, Nat.reduceLT, Nat.reduceLeDiff, Nat.reduceEqDiff, ↓reduceIte, Nat.reduceAdd, Nat.reduceSub, Nat.reduceMul, Int.reduceLT, Int.reduceLE, Int.reduceAdd, Int.reduceSub, Int.reduceMul, Int.reduceNeg, Int.reduceToNat, Int.reduceEq, Int.reduceBEq, Int.reduceBNe, Nat.reduceBEq, beq_self_eq_true, bne_self_eq_false, List.set_cons_succ, List.set_cons_zero] | refine sort_k (id := 0) (ss := out) (by rfl) (by omega) ?_ | refine compact_k (id := 0) (ss := out.mergeSort fun x y => decide (x ≤ y)) (by rfl) (by omega) (by omega) ?_ | with_reducible refine vcond_split (fun _ => ?_) (fun _ => ?_) | with_reducible refine vg_split (fun _ => ?_) (fun _ => ?_) | ((with_reducible apply DCalls.frz); (focus exact rfl); (focus exact rfl)) | ((with_reducible refine And.intro ?_ ?_); (focus (first | omega | decide | assumption | (simp only [decide_eq_true_eq, decide_eq_false_iff_not] at *; omega)))))
    all_goals (try rw [List.take_left' (by simp)])

theorem growF_c {h : DHeap} {n : Nat} (hn : n ≤ 1000000000) :
    DCalls Tryz.prog 112 [.c (.p .nil), .c (.p (.i .i64 n))] h fun d h' => d = .c (.own h.length 0 0) ∧ h' = h ++ [.arr 2 [] false] := by
  have := dcalls_grow (n := n) (h := h) (e := 55) tabOK (by rw [tab55]; exact fun h => by cases h) (by rw [tab55]; decide) (enters Tryz.func112 rfl rfl)
    (fun w => Any8.slices_Grow_room Tryz.growConf none 0 0 0 w (Nat.le_refl _) (by decide) (by decide) (Nat.le_refl _))
    (fun i0 z n w h1 h2 h3 h4 h5 h6 => by
      have := Any8.slices_Grow_grow Tryz.growConf i0 z h1 h2 h3 none 0 0 n [] w (Nat.le_refl _) (by omega) (by simpa using h5) (by simpa using h6) (by simp) (fun _ => rfl) (fun a ha => by cases ha)
      simp only [Nat.zero_add, Nat.sub_zero] at this
      exact this)
    (by rw [tab55]; simp only; omega) (by omega)
  rw [tab55] at this
  exact this

theorem concatF_c {a b c : List Cf} (ha : a.length ≤ 1000000) (hb : b.length ≤ 1000000) (hc : c.length ≤ 1000000) :
    DCalls Tryz.prog 67 [.c (.p (.sl 1 [[.sl 2 (encF a)], [.sl 2 (encF b)], [.sl 2 (encF c)]]))] [] fun r h => r = .c (.own 0 0 (a.length + b.length + c.length)) ∧ h = [.arr 2 (encF (a ++ (b ++ c))) false] := by
  have w1 : IntKind.i64.wrap (a.length : Int) = a.length := wrap_i64 (by omega) (by omega)
  have w2 : IntKind.i64.wrap ((a.length : Int) + (b.length : Int)) = (a.length + b.length : Nat) := wrap_i64 (by omega) (by omega)
  have w3 : IntKind.i64.wrap (((a.length + b.length : Nat) : Int) + (c.length : Int)) = (a.length + b.length + c.length : Nat) := wrap_i64 (by omega) (by omega)
  have z1 : decide ((a.length : Int) < 0) = false := decide_eq_false (by omega)
  have z2 : decide (((a.length + b.length : Nat) : Int) < 0) = false := decide_eq_false (by omega)
  have z3 : decide (((a.length + b.length + c.length : Nat) : Int) < 0) = false := decide_eq_false (by omega)
  refine entO tabOK hmix Tryz.func67 rfl rfl fun X0 hX => ?_
  simp only [Tryz.ntmps67, Tryz.f67, go_sem]
  repeat' (first | simp (maxSteps := 1000000) only [*, go_sem, Nat.reduceLT, Nat.reduceLeDiff, Nat.reduceEqDiff, ↓reduceIte, Nat.reduceAdd, Nat.reduceSub, Nat.reduceMul, Int.reduceLT, Int.reduceLE, Int.reduceAdd, Int.reduceSub, Int.reduceMul, Int.reduceNeg, Int.reduceToNat, Int.reduceEq, Int.reduceBEq, Int.reduceBNe, Nat.reduceBEq, beq_self_eq_true, bne_self_eq_false, Int.zero_add, wrap_i64_lit, decide_true, decide_false] | refine loop_rounds tabOK hmix 4 ?_ | with_reducible refine vcond_split (fun _ => ?_) (fun _ => ?_) | with_reducible refine vg_split (fun _ => ?_) (fun _ => ?_) | ((with_reducible apply DCalls.frz); (focus exact rfl); (focus exact rfl)) | ((with_reducible refine And.intro ?_ ?_); (focus (first | omega | decide | assumption | (simp only [decide_eq_true_eq, decide_eq_false_iff_not] at *; omega)))))
  refine (growF_c (n := a.length + b.length + c.length) (by omega)).mono ?_
  rintro d h' ⟨rfl, rfl⟩
  repeat' (first | simp (maxSteps := 1000000) only [*, go_sem, Nat.reduceLT, Nat.reduceLeDiff, Nat.reduceEqDiff, ↓reduceIte, Nat.reduceAdd, Nat.reduceSub, Nat.reduceMul, Int.reduceLT, Int.reduceLE, Int.reduceAdd, Int.reduceSub, Int.reduceMul, Int.reduceNeg, Int.reduceToNat, Int.reduceEq, Int.reduceBEq, Int.reduceBNe, Nat.reduceBEq, beq_self_eq_true, bne_self_eq_false, Int.zero_add, wrap_i64_lit, decide_true, decide_false] | refine loop_rounds tabOK hmix 4 ?_ | with_reducible refine vcond_split (fun _ => ?_) (fun _ => ?_) | with_reducible refine vg_split (fun _ => ?_) (fun _ => ?_) | ((with_reducible apply DCalls.frz); (focus exact rfl); (focus exact rfl)) | ((with_reducible refine And.intro ?_ ?_); (focus (first | omega | decide | assumption | (simp only [decide_eq_true_eq, decide_eq_false_iff_not] at *; omega)))))
  try rw [List.append_assoc]
  exact ⟨rfl, Nat.zero_le _, rfl, _, _, rfl, rfl, rfl⟩

theorem orph1_c {c d q : List UInt8} {kk k m : Int} {tt : Nat} {dd : List UInt8} {eo : List (List PV)} :
    DCalls Tryz.prog 114 [.agg [.p (.s c), .p (.i .i64 kk)], .c (.ptr 2 0)] [.arr 2 eo false, .box [.p (.s q), .p (.i .i64 k), .p (.i .i64 m), .p (.f tt), .p (.sl 1 (encB dd))], .box [.p (.s d)]]
      fun r h => r = .c (.p (.b (c == d))) ∧ h = [.arr 2 eo false, .box [.p (.s q), .p (.i .i64 k), .p (.i .i64 m), .p (.f tt), .p (.sl 1 (encB dd))], .box [.p (.s d)]] := by
  refine ent tabOK hmix Tryz.func114 rfl rfl fun X0 hX => ?_
  simp only [Tryz.ntmps114, Tryz.f114, go_sem]
  repeat' (first | simp (maxSteps := 1000000) only [*, go_sem, Nat.reduceLT, Nat.reduceLeDiff, Nat.reduceEqDiff, ↓reduceIte, Nat.reduceAdd, Nat.reduceSub, Nat.reduceMul, Int.reduceLT, Int.reduceLE, Int.reduceAdd, Int.reduceSub, Int.reduceMul, Int.reduceNeg, Int.reduceToNat, Int.reduceEq, Int.reduceBEq, Int.reduceBNe, Nat.reduceBEq, beq_self_eq_true, bne_self_eq_false, closedB, closedC] | with_reducible refine vcond_split (fun _ => ?_) (fun _ => ?_) | with_reducible refine vg_split (fun _ => ?_) (fun _ => ?_) | ((with_reducible apply DCalls.frz); (focus exact rfl); (focus exact rfl)) | ((with_reducible refine And.intro ?_ ?_); (focus (first | omega | decide | assumption | (simp only [decide_eq_true_eq, decide_eq_false_iff_not] at *; omega)))))

theorem indexF_c {l : List Cf} {d q : List UInt8} {k m : Int} {tt : Nat} {dd : List UInt8} {eo : List (List PV)} (hl : l.length ≤ 1000000) :
    DCalls Tryz.prog 157 [.c (.p (.sl 2 (encF l))), .c (.clo 114 [.ptr 2 0])] [.arr 2 eo false, .box [.p (.s q), .p (.i .i64 k), .p (.i .i64 m), .p (.f tt), .p (.sl 1 (encB dd))], .box [.p (.s d)]]
      fun r h => (∃ z : Int, decide (0 ≤ z) = (l.any fun c => c.p == d) ∧ r = .c (.p (.i .i64 z))) ∧ h = [.arr 2 eo false, .box [.p (.s q), .p (.i .i64 k), .p (.i .i64 m), .p (.f tt), .p (.sl 1 (encB dd))], .box [.p (.s d)]] := by
  refine ent tabOK hmix Tryz.func157 rfl rfl fun X0 hX => ?_
  simp only [Tryz.ntmps157, Tryz.f157, go_sem]
  repeat' (first | simp (maxSteps := 1000000) only [*, go_sem, Nat.reduceLT, Nat.reduceLeDiff, Nat.reduceEqDiff, ↓reduceIte, Nat.reduceAdd, Nat.reduceSub, Nat.reduceMul, Int.reduceLT, Int.reduceLE, Int.reduceAdd, Int.reduceSub, Int.reduceMul, Int.reduceNeg, Int.reduceToNat, Int.reduceEq, Int.reduceBEq, Int.reduceBNe, Nat.reduceBEq, beq_self_eq_true, bne_self_eq_false] | with_reducible refine vcond_split (fun _ => ?_) (fun _ => ?_) | with_reducible refine vg_split (fun _ => ?_) (fun _ => ?_) | ((with_reducible apply DCalls.frz); (focus exact rfl); (focus exact rfl)) | ((with_reducible refine And.intro ?_ ?_); (focus (first | omega | decide | assumption | (simp only [decide_eq_true_eq, decide_eq_false_iff_not] at *; omega)))))
  refine loop_ren tabOK hmix (α := Nat) (fun k' => ⟨19, [(0, .c (.p (.sl 2 (encF l)))), (1, .c (.clo 114 [.ptr 2 0])), (7, .c (.p (.i .i64 l.length))), (8, .c (.p (.i .i64 k')))], [.arr 2 eo false, .box [.p (.s q), .p (.i .i64 k), .p (.i .i64 m), .p (.f tt), .p (.sl 1 (encB dd))], .box [.p (.s d)]]⟩)
    (fun k => k ≤ l.length ∧ ((l.drop k).any fun c => c.p == d) = (l.any fun c => c.p == d)) (fun k => l.length - k) 0 ⟨Nat.zero_le _, rfl⟩ (.inl (weak_mk (by rw [hX]; rfl) rfl rfl (by simp [wk_cons, wk_nil, look_cons, closedD, closedC, closedK, closedB]))) ?_
  rintro j ⟨hk, hs⟩
  by_cases hlt : j < l.length
  · have hx : l[j]? = some l[j] := List.getElem?_eq_getElem hlt
    have hg := encF_at hx
    have hd := drop_at hx
    have h1 : decide ((j : Int) < (l.length : Int)) = true := decide_eq_true (by omega)
    have hli : (j : Int) < (l.length : Int) := by omega
    have w1 : IntKind.i64.wrap ((j : Int) + 1) = j + 1 := wrap_i64 (by omega) (by omega)
    generalize l[j] = x at hx hg hd
    rw [hd, List.any_cons] at hs
    cases hb : (x.p == d)
    · rw [hb, Bool.false_or] at hs
      have hs2 : j + 1 ≤ l.length ∧ ((l.drop (j + 1)).any fun c => c.p == d) = (l.any fun c => c.p == d) := ⟨by omega, hs⟩
      clear hs hd hx
      repeat' (first | simp (maxSteps := 1000000) only [*, go_sem, Nat.reduceLT, Nat.reduceLeDiff, Nat.reduceEqDiff, ↓reduceIte, Nat.reduceAdd, Nat.reduceSub, Nat.reduceMul, Int.reduceLT, Int.reduceLE, Int.reduceAdd, Int.reduceSub, Int.reduceMul, Int.reduceNeg, Int.reduceToNat, Int.reduceEq, Int.reduceBEq, Int.reduceBNe, Nat.reduceBEq, beq_self_eq_true, bne_self_eq_false] | with_reducible refine vcond_split (fun _ => ?_) (fun _ => ?_) | with_reducible refine vg_split (fun _ => ?_) (fun _ => ?_) | ((with_reducible apply DCalls.frz); (focus exact rfl); (focus exact rfl)) | ((with_reducible refine And.intro ?_ ?_); (focus (first | omega | decide | assumption | (simp only [decide_eq_true_eq, decide_eq_false_iff_not] at *; omega)))))
      refine DCalls.mono orph1_c ?_
      rintro _ _ ⟨rfl, rfl⟩
      rw [hb]
      repeat' (first | simp (maxSteps := 1000000) only [*, go_sem, Nat.reduceLT, Nat.reduceLeDiff, Nat.reduceEqDiff, ↓reduceIte, Nat.reduceAdd, Nat.reduceSub, Nat.reduceMul, Int.reduceLT, Int.reduceLE, Int.reduceAdd, Int.reduceSub, Int.reduceMul, Int.reduceNeg, Int.reduceToNat, Int.reduceEq, Int.reduceBEq, Int.reduceBNe, Nat.reduceBEq, beq_self_eq_true, bne_self_eq_false] | with_reducible refine vcond_split (fun _ => ?_) (fun _ => ?_) | with_reducible refine vg_split (fun _ => ?_) (fun _ => ?_) | ((with_reducible apply DCalls.frz); (focus exact rfl); (focus exact rfl)) | ((with_reducible refine And.intro ?_ ?_); (focus (first | omega | decide | assumption | (simp only [decide_eq_true_eq, decide_eq_false_iff_not] at *; omega)))))
      exact qr_n (j + 1) hs2 (by omega) (weak_mk rfl rfl rfl (by simp [wk_cons, wk_nil, look_cons, closedD, closedC, closedK, closedB]))
    · rw [hb, Bool.true_or] at hs
      have hs2 : PLift ((l.any fun c => c.p == d) = true) := ⟨hs.symm⟩
      clear hs hd hx
      repeat' (first | simp (maxSteps := 1000000) only [*, go_sem, Nat.reduceLT, Nat.reduceLeDiff, Nat.reduceEqDiff, ↓reduceIte, Nat.reduceAdd, Nat.reduceSub, Nat.reduceMul, Int.reduceLT, Int.reduceLE, Int.reduceAdd, Int.reduceSub, Int.reduceMul, Int.reduceNeg, Int.reduceToNat, Int.reduceEq, Int.reduceBEq, Int.reduceBNe, Nat.reduceBEq, beq_self_eq_true, bne_self_eq_false] | with_reducible refine vcond_split (fun _ => ?_) (fun _ => ?_) | with_reducible refine vg_split (fun _ => ?_) (fun _ => ?_) | ((with_reducible apply DCalls.frz); (focus exact rfl); (focus exact rfl)) | ((with_reducible refine And.intro ?_ ?_); (focus (first | omega | decide | assumption | (simp only [decide_eq_true_eq, decide_eq_false_iff_not] at *; omega)))))
      refine DCalls.mono orph1_c ?_
      rintro _ _ ⟨rfl, rfl⟩
      rw [hb]
      clear hb
      repeat' (first | simp (maxSteps := 1000000) only [*, go_sem, Nat.reduceLT, Nat.reduceLeDiff, Nat.reduceEqDiff, ↓reduceIte, Nat.reduceAdd, Nat.reduceSub, Nat.reduceMul, Int.reduceLT, Int.reduceLE, Int.reduceAdd, Int.reduceSub, Int.reduceMul, Int.reduceNeg, Int.reduceToNat, Int.reduceEq, Int.reduceBEq, Int.reduceBNe, Nat.reduceBEq, beq_self_eq_true, bne_self_eq_false, closedB, closedC] | with_reducible refine vcond_split (fun _ => ?_) (fun _ => ?_) | with_reducible refine vg_split (fun _ => ?_) (fun _ => ?_) | ((with_reducible apply DCalls.frz); (focus exact rfl); (focus exact rfl)) | ((with_reducible refine And.intro ?_ ?_); (focus (first | omega | decide | assumption | (simp only [decide_eq_true_eq, decide_eq_false_iff_not] at *; omega)))))
      exact ⟨j, by rw [hs2.down]; exact decide_eq_true (by omega), rfl⟩
  · have h1 : decide ((j : Int) < (l.length : Int)) = false := decide_eq_false (by omega)
    rw [List.drop_of_length_le (by omega), List.any_nil] at hs
    have hs2 : PLift ((l.any fun c => c.p == d) = false) := ⟨hs.symm⟩
    clear hs
    repeat' (first | simp (maxSteps := 1000000) only [*, go_sem, Nat.reduceLT, Nat.reduceLeDiff, Nat.reduceEqDiff, ↓reduceIte, Nat.reduceAdd, Nat.reduceSub, Nat.reduceMul, Int.reduceLT, Int.reduceLE, Int.reduceAdd, Int.reduceSub, Int.reduceMul, Int.reduceNeg, Int.reduceToNat, Int.reduceEq, Int.reduceBEq, Int.reduceBNe, Nat.reduceBEq, beq_self_eq_true, bne_self_eq_false, closedB, closedC] | with_reducible refine vcond_split (fun _ => ?_) (fun _ => ?_) | with_reducible refine vg_split (fun _ => ?_) (fun _ => ?_) | ((with_reducible apply DCalls.frz); (focus exact rfl); (focus exact rfl)) | ((with_reducible refine And.intro ?_ ?_); (focus (first | omega | decide | assumption | (simp only [decide_eq_true_eq, decide_eq_false_iff_not] at *; omega)))))
    refine ⟨-1, by rw [hs2.down]; decide, ?_⟩
    first | rfl | trivial

theorem containsF_c {l : List Cf} {d q : List UInt8} {k m : Int} {tt : Nat} {dd : List UInt8} {eo : List (List PV)} {K : DV → DHeap → Prop} (hl : l.length ≤ 1000000)
    (hk : K (.c (.p (.b (l.any fun c => c.p == d)))) [.arr 2 eo false, .box [.p (.s q), .p (.i .i64 k), .p (.i .i64 m), .p (.f tt), .p (.sl 1 (encB dd))], .box [.p (.s d)]]) :
    DCalls Tryz.prog 113 [.c (.p (.sl 2 (encF l))), .c (.clo 114 [.ptr 2 0])] [.arr 2 eo false, .box [.p (.s q), .p (.i .i64 k), .p (.i .i64 m), .p (.f tt), .p (.sl 1 (encB dd))], .box [.p (.s d)]] K := by
  have hi := indexF_c (l := l) (d := d) (q := q) (k := k) (m := m) (tt := tt) (dd := dd) (eo := eo) hl
  generalize (l.any fun c => c.p == d) = b at hi hk
  refine entR tabOK hmix Tryz.func113 rfl rfl fun X0 hX => ?_
  simp only [Tryz.ntmps113, Tryz.f113, go_sem]
  repeat' (first | simp (maxSteps := 1000000) only [*, go_sem, Nat.reduceLT, Nat.reduceLeDiff, Nat.reduceEqDiff, ↓reduceIte, Nat.reduceAdd, Nat.reduceSub, Nat.reduceMul, Int.reduceLT, Int.reduceLE, Int.reduceAdd, Int.reduceSub, Int.reduceMul, Int.reduceNeg, Int.reduceToNat, Int.reduceEq, Int.reduceBEq, Int.reduceBNe, Nat.reduceBEq, beq_self_eq_true, bne_self_eq_false] | with_reducible refine vcond_split (fun _ => ?_) (fun _ => ?_) | with_reducible refine vg_split (fun _ => ?_) (fun _ => ?_) | ((with_reducible apply DCalls.frz); (focus exact rfl); (focus exact rfl)) | ((with_reducible refine And.intro ?_ ?_); (focus (first | omega | decide | assumption | (simp only [decide_eq_true_eq, decide_eq_false_iff_not] at *; omega)))))
  refine DCalls.mono hi ?_
  rintro _ _ ⟨⟨z, hz, rfl⟩, rfl⟩
  repeat' (first | simp (maxSteps := 1000000) only [*, go_sem, Nat.reduceLT, Nat.reduceLeDiff, Nat.reduceEqDiff, ↓reduceIte, Nat.reduceAdd, Nat.reduceSub, Nat.reduceMul, Int.reduceLT, Int.reduceLE, Int.reduceAdd, Int.reduceSub, Int.reduceMul, Int.reduceNeg, Int.reduceToNat, Int.reduceEq, Int.reduceBEq, Int.reduceBNe, Nat.reduceBEq, beq_self_eq_true, bne_self_eq_false] | with_reducible refine vcond_split (fun _ => ?_) (fun _ => ?_) | with_reducible refine vg_split (fun _ => ?_) (fun _ => ?_) | ((with_reducible apply DCalls.frz); (focus exact rfl); (focus exact rfl)) | ((with_reducible refine And.intro ?_ ?_); (focus (first | omega | decide | assumption | (simp only [decide_eq_true_eq, decide_eq_false_iff_not] at *; omega)))))

end Go.Proofs.YtjanmkknbijecaaGreatDoor
