/-
  The contract of the program's diff.
-/
import Derived.Test.YtjanmkknbijecaaGreatDoorD11
import Derived.Test.YtjanmkknbijecaaGreatDoorSC
set_option linter.unusedSimpArgs false
set_option linter.unusedVariables false
namespace Go.Proofs.YtjanmkknbijecaaGreatDoor
open Go Go.Dm
set_option maxRecDepth 100000
set_option maxHeartbeats 4000000

theorem sort_k {h : DHeap} {id : Nat} {ss : List (List UInt8)} {K : DV → DHeap → Prop} (hid : h[id]? = some (.arr 1 (Go.Dm.encS ss) false)) (hsz : ss.length < 4611686018427387904)
    (hk : K (.tup []) (h.set id (.arr 1 (Go.Dm.encS (ss.mergeSort fun x y => decide (x ≤ y))) false))) : DCalls Tryz.prog 57 [.c (.own id 0 ss.length)] h K :=
  DCalls.mono (sort_c hid hsz) (by rintro d h' ⟨rfl, rfl⟩; exact hk)
theorem compact_k {h : DHeap} {id n : Nat} {ss : List (List UInt8)} {K : DV → DHeap → Prop} (hid : h[id]? = some (.arr 1 (Go.Dm.encS ss) false)) (hsz : ss.length < 4611686018427387904) (hn : n = ss.length)
    (hk : K (.c (.own id 0 (Lib.compact ss).length)) (h.set id (.arr 1 (Go.Dm.encS (Lib.compact ss ++ List.replicate (ss.length - (Lib.compact ss).length) [])) false))) : DCalls Tryz.prog 58 [.c (.own id 0 n)] h K := by
  subst hn; exact DCalls.mono (compact_c hid hsz) (by rintro d h' ⟨rfl, rfl⟩; exact hk)

theorem diffG_c {a b : List It} (hal : a.length ≤ 120) (hbl : b.length ≤ 120) (has : Srt a) (hbs : Srt b) (hna : ∀ x ∈ a, x.p ≠ []) (hnb : ∀ x ∈ b, x.p ≠ []) (hda2 : ∀ x ∈ a, x.n.d.length ≤ 2000) (hdb2 : ∀ x ∈ b, x.n.d.length ≤ 2000) :
    DCalls Tryz.prog 20 [.c (.p (.sl 5 (encT a))), .c (.p (.sl 5 (encT b)))] [] fun r h => r = .c (.p (.sl 10 (encC (diffF a b)))) ∧ h = [] := by
  have hda : ∀ x ∈ a, x.n.d.length ≤ 140737488355328 := fun x hx => Nat.le_trans (hda2 x hx) (by decide)
  have hdb : ∀ x ∈ b, x.n.d.length ≤ 140737488355328 := fun x hx => Nat.le_trans (hdb2 x hx) (by decide)
  have hcl : (a ++ b).length ≤ 240 := by rw [List.length_append]; omega
  unfold diffF pathsF
  refine ent tabOK hmix Tryz.func20 rfl rfl fun X0 hX => ?_
  simp only [Tryz.ntmps20, Tryz.f20, go_sem]
  repeat' (first | simp (maxSteps := 1000000) only [*, go_sem, Nat.reduceLT, Nat.reduceLeDiff, Nat.reduceEqDiff, ↓reduceIte, Nat.reduceAdd, Nat.reduceSub, Nat.reduceMul, Int.reduceLT, Int.reduceLE, Int.reduceAdd, Int.reduceSub, Int.reduceMul, Int.reduceNeg, Int.reduceToNat, Int.reduceEq, Int.reduceBEq, Int.reduceBNe, Nat.reduceBEq, beq_self_eq_true, bne_self_eq_false, wrap_i64_lit] | ((with_reducible refine useN (concat_c (a := a) (b := b) (by omega) (by omega)) ?_ ?_ ?_); (focus exact rfl); (focus exact fun _ => rfl)) | with_reducible refine vcond_split (fun _ => ?_) (fun _ => ?_) | with_reducible refine vg_split (fun _ => ?_) (fun _ => ?_) | ((with_reducible apply DCalls.frz); (focus exact rfl); (focus exact rfl)) | ((with_reducible refine And.intro ?_ ?_); (focus (first | omega | decide | assumption | (simp only [decide_eq_true_eq, decide_eq_false_iff_not] at *; omega)))))
  have hcab : (a ++ b).length = a.length + b.length := List.length_append
  generalize a ++ b = c at hcl hcab
  refine vc_virt tabOK hmix 5 1 rfl ?_
  refine loop_ren tabOK hmix (α := Nat × List (List UInt8)) (fun x => ⟨69, [(0, .c (.p (.sl 5 (encT a)))), (1, .c (.p (.sl 5 (encT b)))), (19, .c (.p (.sl 5 (encT c)))), (20, .c (.p (.i .i64 ((a.length : Int) + b.length)))), (5, .c (.own 1 0 x.2.length)), (21, .c (.p (.i .i64 x.1)))], [.arr 1 [[.sl 5 (encT a)], [.sl 5 (encT b)]] true, .arr 1 (Go.Dm.encS x.2) false]⟩)
    (fun x => x.1 ≤ c.length ∧ x.2.length ≤ x.1 ∧ x.2 ++ (c.drop x.1).map It.p = c.map It.p) (fun x => c.length - x.1) (0, []) ⟨Nat.zero_le _, Nat.le_refl _, rfl⟩ (.inl (weak_mk (by rw [hX]; rfl) rfl rfl (by simp [wk_cons, wk_nil, look_cons, closedD, closedC, encT_nil, encS_nil, encC_nil]))) ?_
  rintro ⟨k, out⟩ ⟨hk, hol, hout⟩
  simp only at hk hol hout
  by_cases hlt : k < c.length
  · have hx : c[k]? = some c[k] := List.getElem?_eq_getElem hlt
    have hg := encT_at hx
    have hd := drop_at hx
    have h1 : decide ((k : Int) < (a.length : Int) + b.length) = true := decide_eq_true (by omega)
    have w1 : IntKind.i64.wrap ((k : Int) + 1) = k + 1 := wrap_i64 (by omega) (by omega)
    generalize c[k] = x at hx hg hd
    rw [hd, List.map_cons] at hout
    repeat' (first | simp (maxSteps := 1000000) only [*, go_sem, Nat.reduceLT, Nat.reduceLeDiff, Nat.reduceEqDiff, ↓reduceIte, Nat.reduceAdd, Nat.reduceSub, Nat.reduceMul, Int.reduceLT, Int.reduceLE, Int.reduceAdd, Int.reduceSub, Int.reduceMul, Int.reduceNeg, Int.reduceToNat, Int.reduceEq, Int.reduceBEq, Int.reduceBNe, Nat.reduceBEq, beq_self_eq_true, bne_self_eq_false] | with_reducible refine vcond_split (fun _ => ?_) (fun _ => ?_) | with_reducible refine vg_split (fun _ => ?_) (fun _ => ?_) | ((with_reducible apply DCalls.frz); (focus exact rfl); (focus exact rfl)) | ((with_reducible refine And.intro ?_ ?_); (focus (first | omega | decide | assumption | (simp only [decide_eq_true_eq, decide_eq_false_iff_not] at *; omega)))))
    exact qr_ren (k + 1, out ++ [x.p]) 1 4 ⟨by simp only; omega, by simp; omega, by simpa using hout⟩ (by simp only; omega) rfl rfl (weak_mk rfl rfl rfl (by simp [wk_cons, wk_nil, look_cons, closedD, closedC, renT, renD, renC, encT_nil, encS_nil, encC_nil]))
  · have h1 : decide ((k : Int) < (a.length : Int) + b.length) = false := decide_eq_false (by omega)
    rw [List.drop_of_length_le (by omega), List.map_nil, List.append_nil] at hout
    rw [← hout]
    clear hout
    have hol2 : out.length ≤ 240 := by omega
    have hsl : (out.mergeSort fun x y => decide (x ≤ y)).length = out.length := List.length_mergeSort ..
    repeat' (first | simp (maxSteps := 1000000) only [*, go_sem, Nat.reduceLT, Nat.reduceLeDiff, Nat.reduceEqDiff, ↓reduceIte, Nat.reduceAdd, Nat.reduceSub, Nat.reduceMul, Int.reduceLT, Int.reduceLE, Int.reduceAdd, Int.reduceSub, Int.reduceMul, Int.reduceNeg, Int.reduceToNat, Int.reduceEq, Int.reduceBEq, Int.reduceBNe, Nat.reduceBEq, beq_self_eq_true, bne_self_eq_false, List.set_cons_succ, List.set_cons_zero] | refine sort_k (id := 1) (ss := out) (by rfl) (by omega) ?_ | refine compact_k (id := 1) (ss := out.mergeSort fun x y => decide (x ≤ y)) (by rfl) (by omega) (by omega) ?_ | with_reducible refine vcond_split (fun _ => ?_) (fun _ => ?_) | with_reducible refine vg_split (fun _ => ?_) (fun _ => ?_) | ((with_reducible apply DCalls.frz); (focus exact rfl); (focus exact rfl)) | ((with_reducible refine And.intro ?_ ?_); (focus (first | omega | decide | assumption | (simp only [decide_eq_true_eq, decide_eq_false_iff_not] at *; omega)))))
    have hst : (out.mergeSort fun x y => decide (x ≤ y)).length ≤ 240 := by omega
    generalize (out.mergeSort fun x y => decide (x ≤ y)) = st at hst
    have hcp := compact_len st
    generalize List.replicate (out.length - (Lib.compact st).length) ([] : List UInt8) = rest
    generalize Lib.compact st = cp at hcp
    clear hlt h1 hk hol hsl
    refine vc_virt tabOK hmix 8 10 rfl ?_
    refine loop_ren tabOK hmix (α := Nat × List Ch) (fun x => ⟨69, [(0, .c (.p (.sl 5 (encT a)))), (1, .c (.p (.sl 5 (encT b)))), (34, .c (.own 1 0 cp.length)), (35, .c (.p (.i .i64 cp.length))), (36, .c (.p (.i .i64 x.1))), (8, .c (.own 2 0 x.2.length))], [.arr 1 [[.sl 5 (encT a)], [.sl 5 (encT b)]] true, .arr 1 (Go.Dm.encS (cp ++ rest)) false, .arr 10 (encC x.2) false]⟩)
      (fun x => x.1 ≤ cp.length ∧ x.2.length ≤ x.1 ∧ x.2 ++ chsF a b (cp.drop x.1) = chsF a b cp) (fun x => cp.length - x.1) (0, []) ⟨Nat.zero_le _, Nat.le_refl _, rfl⟩ (.inl (weak_mk (by rw [hX]; rfl) rfl rfl (by simp [wk_cons, wk_nil, look_cons, closedD, closedC, encT_nil, encS_nil, encC_nil]))) ?_
    rintro ⟨k, out2⟩ ⟨hk, hol, hout⟩
    simp only at hk hol hout
    by_cases hlt : k < cp.length
    · have hx : cp[k]? = some cp[k] := List.getElem?_eq_getElem hlt
      have hd := drop_at hx
      have hxr : (cp ++ rest)[k]? = some cp[k] := by rw [List.getElem?_append_left hlt]; exact hx
      have hg := Go.Dm.encS_at hxr
      have h1 : decide ((k : Int) < (cp.length : Int)) = true := decide_eq_true (by omega)
      have w1 : IntKind.i64.wrap ((k : Int) + 1) = k + 1 := wrap_i64 (by omega) (by omega)
      generalize cp[k] = p at hx hxr hg hd
      rw [hd, chsF, chF] at hout
      repeat' (first | simp (maxSteps := 1000000) only [*, go_sem, Nat.reduceLT, Nat.reduceLeDiff, Nat.reduceEqDiff, ↓reduceIte, Nat.reduceAdd, Nat.reduceSub, Nat.reduceMul, Int.reduceLT, Int.reduceLE, Int.reduceAdd, Int.reduceSub, Int.reduceMul, Int.reduceNeg, Int.reduceToNat, Int.reduceEq, Int.reduceBEq, Int.reduceBNe, Nat.reduceBEq, beq_self_eq_true, bne_self_eq_false] | ((with_reducible refine useN (treeGet_c (t := a) (by omega) has hna hda) ?_ ?_ ?_); (focus exact rfl); (focus exact fun _ => rfl)) | ((with_reducible refine useN (treeGet_c (t := b) (by omega) hbs hnb hdb) ?_ ?_ ?_); (focus exact rfl); (focus exact fun _ => rfl)) | ((with_reducible refine useN (kind_c _ _) ?_ ?_ ?_); (focus exact rfl); (focus exact fun _ => rfl)) | with_reducible refine vcond_split (fun _ => ?_) (fun _ => ?_) | with_reducible refine vg_split (fun _ => ?_) (fun _ => ?_) | ((with_reducible apply DCalls.frz); (focus exact rfl); (focus exact rfl)) | ((with_reducible refine And.intro ?_ ?_); (focus (first | omega | decide | assumption | (simp only [decide_eq_true_eq, decide_eq_false_iff_not] at *; omega)))))
      · rename_i hb
        rw [if_pos hb] at hout
        exact qr_ren (k + 1, out2 ++ [⟨p, kindF (getR a p).isSome (getR b p).isSome ((getR a p).getD nd0) ((getR b p).getD nd0), (getR a p).getD nd0, (getR b p).getD nd0⟩]) 2 6 ⟨by simp only; omega, by simp; omega, by simpa using hout⟩ (by simp only; omega) rfl rfl (weak_mk rfl rfl rfl (by simp [wk_cons, wk_nil, look_cons, closedD, closedC, renT, renD, renC, encT_nil, encS_nil, encC_nil]))
      · rename_i hb
        rw [if_neg (by rw [hb]; decide)] at hout
        exact qr_n (k + 1, out2) ⟨by simp only; omega, by simp only; omega, by simpa using hout⟩ (by simp only; omega) (weak_mk rfl rfl rfl (by simp [wk_cons, wk_nil, look_cons, closedD, closedC, renT, renD, renC, encT_nil, encS_nil, encC_nil]))
    · have h1 : decide ((k : Int) < (cp.length : Int)) = false := decide_eq_false (by omega)
      rw [List.drop_of_length_le (by omega), chsF, List.append_nil] at hout
      repeat' (first | simp (maxSteps := 1000000) only [*, go_sem, Nat.reduceLT, Nat.reduceLeDiff, Nat.reduceEqDiff, ↓reduceIte, Nat.reduceAdd, Nat.reduceSub, Nat.reduceMul, Int.reduceLT, Int.reduceLE, Int.reduceAdd, Int.reduceSub, Int.reduceMul, Int.reduceNeg, Int.reduceToNat, Int.reduceEq, Int.reduceBEq, Int.reduceBNe, Nat.reduceBEq, beq_self_eq_true, bne_self_eq_false] | with_reducible refine vcond_split (fun _ => ?_) (fun _ => ?_) | with_reducible refine vg_split (fun _ => ?_) (fun _ => ?_) | ((with_reducible apply DCalls.frz); (focus exact rfl); (focus exact rfl)) | ((with_reducible refine And.intro ?_ ?_); (focus (first | omega | decide | assumption | (simp only [decide_eq_true_eq, decide_eq_false_iff_not] at *; omega)))))

theorem diff_c {a b : List It} (ha : OkT a) (hb : OkT b) :
    DCalls Tryz.prog 20 [.c (.p (.sl 5 (encT a))), .c (.p (.sl 5 (encT b)))] [] fun r h => r = .c (.p (.sl 10 (encC (diffF a b)))) ∧ h = [] :=
  diffG_c ha.len hb.len ha.srt hb.srt (fun x hx => (ha.its x hx).1) (fun x hx => (hb.its x hx).1) ha.dlen hb.dlen

end Go.Proofs.YtjanmkknbijecaaGreatDoor
