/-
  Contracts: items laid in order; does a tree have what a change says; a tree's copy, as data.
-/
import Derived.Test.YtfiopamaiolfhaaDoorJ1

import Derived.Test.YtfiopamaiolfhaaDoorSU
import Derived.Test.YtfiopamaiolfhaaDoorMN
import Derived.Test.YtfiopamaiolfhaaDoorShelf3
set_option linter.unusedSimpArgs false
set_option linter.unusedVariables false
namespace Go.Proofs.YtfiopamaiolfhaaDoor
open Go Go.Dm Go.Proofs
set_option maxRecDepth 100000
set_option maxHeartbeats 4000000

theorem apply1_c {p q : List UInt8} {k m k' m' : Int} {tt tt' : Nat} {d d' : List UInt8} :
    DCalls Tryd.prog 18 [.agg [.p (.s p), .p (.i .i64 k), .p (.i .i64 m), .p (.f tt), .p (.sl 1 (encB d))], .agg [.p (.s q), .p (.i .i64 k'), .p (.i .i64 m'), .p (.f tt'), .p (.sl 1 (encB d'))]] [] fun r h => r = .c (.p (.i .i64 (cmpS p q))) ∧ h = [] := by
  refine ent tabOK hmix Tryd.func18 rfl rfl fun X0 hX => ?_
  simp only [Tryd.ntmps18, Tryd.f18, go_sem]
  repeat' (first | simp (maxSteps := 1000000) only [*, go_sem, Nat.reduceLT, Nat.reduceLeDiff, Nat.reduceEqDiff, ↓reduceIte, Nat.reduceAdd, Nat.reduceSub, Nat.reduceMul, Int.reduceLT, Int.reduceLE, Int.reduceAdd, Int.reduceSub, Int.reduceMul, Int.reduceNeg, Int.reduceToNat, Int.reduceEq, Int.reduceBEq, Int.reduceBNe, Nat.reduceBEq, beq_self_eq_true, bne_self_eq_false] | ((with_reducible refine useF (strCmp_c) ?_ ?_ ?_); (focus exact rfl); (focus exact rfl)) | with_reducible refine vcond_split (fun _ => ?_) (fun _ => ?_) | with_reducible refine vg_split (fun _ => ?_) (fun _ => ?_) | ((with_reducible apply DCalls.frz); (focus exact rfl); (focus exact rfl)) | ((with_reducible refine And.intro ?_ ?_); (focus (first | omega | decide | assumption | (simp only [decide_eq_true_eq, decide_eq_false_iff_not] at *; omega)))))

theorem sortI_f {h : DHeap} {id : Nat} {l : List It} (hu : ∀ x ∈ l, ∀ y ∈ l, x.p = y.p → x = y) (hid : h[id]? = some (.arr 5 (encT l) false)) (hsz : l.length < 4611686018427387904) :
    DCalls Tryd.prog 17 [.c (.own id 0 l.length), .c (.clo 18 [])] h fun d h' => d = .tup [] ∧ h' = h.set id (.arr 5 (encT (sortI l)) false) := by
  have := dcalls_sortf (P := Tryd.prog) (f := 17) (g := 18) 5 (by decide) cfI swo_cfI
    (enters Tryd.func17 rfl rfl) (enters_of Tryd.func18 (by kernel_rfl) rfl)
    (fun enc hk h1 c hO blk off cap d w hcmp hH hblk hsz => Tryd.slices_SortFunc 5 Tryd.isAgg27 Tryd.sizeOf27 enc hk h1 c hO 18 #[] blk off cap d w (enters_of Tryd.func18 (by kernel_rfl) rfl) hcmp hH hblk hsz)
    (fun p cap fv w => Tryd.slices_SortFunc_none (α := Nat) p cap fv w)
    (h := h) (i0 := id) (es := encT l) (fun x hx y hy => by
      obtain ⟨a, _, rfl⟩ := List.mem_map.1 hx
      obtain ⟨b, _, rfl⟩ := List.mem_map.1 hy
      exact apply1_c) (cfI_total hu) hid (by rw [encT_len]; exact hsz)
  rw [encT_sort, encT_len] at this
  exact this

theorem fits_c {t : List It} {p : List UInt8} {kk k m k' m' : Int} {tt tt' : Nat} {d d' : List UInt8} (ht : OkT t) :
    DCalls Tryd.prog 14 [.c (.p (.sl 5 (encT t))), .agg [.p (.s p), .p (.i .i64 kk), .p (.i .i64 k), .p (.i .i64 m), .p (.f tt), .p (.sl 1 (encB d)), .p (.i .i64 k'), .p (.i .i64 m'), .p (.f tt'), .p (.sl 1 (encB d'))]] [] fun r h =>
      r = .c (.p (.b (fitsF t ⟨p, kk, ⟨k, m, tt, d⟩, ⟨k', m', tt', d'⟩⟩))) ∧ h = [] := by
  have hg := treeGet_c (t := t) (p := p) (Nat.le_trans ht.len (by decide)) ht.srt ht.ne (fun x hx => Nat.le_trans (ht.dlen x hx) (by decide))
  unfold fitsF
  simp only
  clear ht
  generalize (getR t p).getD nd0 = n at *
  generalize (getR t p).isSome = u at *
  refine ent tabOK hmix Tryd.func14 rfl rfl fun X0 hX => ?_
  simp only [Tryd.ntmps14, Tryd.f14, go_sem]
  repeat' (first | simp (maxSteps := 1000000) only [*, go_sem, Nat.reduceLT, Nat.reduceLeDiff, Nat.reduceEqDiff, ↓reduceIte, Nat.reduceAdd, Nat.reduceSub, Nat.reduceMul, Int.reduceLT, Int.reduceLE, Int.reduceAdd, Int.reduceSub, Int.reduceMul, Int.reduceNeg, Int.reduceToNat, Int.reduceEq, Int.reduceBEq, Int.reduceBNe, Nat.reduceBEq, beq_self_eq_true, bne_self_eq_false] | ((with_reducible refine useN (hg) ?_ ?_ ?_); (focus exact rfl); (focus exact fun _ => rfl)) | ((with_reducible refine useF (ndSame_c) ?_ ?_ ?_); (focus exact rfl); (focus exact rfl)) | with_reducible refine vcond_split (fun _ => ?_) (fun _ => ?_) | with_reducible refine vg_split (fun _ => ?_) (fun _ => ?_) | ((with_reducible apply DCalls.frz); (focus exact rfl); (focus exact rfl)) | ((with_reducible refine And.intro ?_ ?_); (focus (first | omega | decide | assumption | (simp only [decide_eq_true_eq, decide_eq_false_iff_not] at *; omega)))))
  all_goals simp_all

theorem copyTd_c {t : List It} (ht : t.length ≤ 1000000) (hd : ∀ x ∈ t, x.n.d.length ≤ 140737488355328) :
    DCalls Tryd.prog 16 [.c (.p (.sl 5 (encT t)))] [] fun r h => r = .c (.p (.sl 5 (encT t))) ∧ h = [] := by
  refine ent tabOK hmix Tryd.func16 rfl rfl fun X0 hX => ?_
  simp only [Tryd.ntmps16, Tryd.f16, go_sem]
  repeat' (first | simp (maxSteps := 1000000) only [*, go_sem, Nat.reduceLT, Nat.reduceLeDiff, Nat.reduceEqDiff, ↓reduceIte, Nat.reduceAdd, Nat.reduceSub, Nat.reduceMul, Int.reduceLT, Int.reduceLE, Int.reduceAdd, Int.reduceSub, Int.reduceMul, Int.reduceNeg, Int.reduceToNat, Int.reduceEq, Int.reduceBEq, Int.reduceBNe, Nat.reduceBEq, beq_self_eq_true, bne_self_eq_false] | with_reducible refine vcond_split (fun _ => ?_) (fun _ => ?_) | with_reducible refine vg_split (fun _ => ?_) (fun _ => ?_) | ((with_reducible apply DCalls.frz); (focus exact rfl); (focus exact rfl)) | ((with_reducible refine And.intro ?_ ?_); (focus (first | omega | decide | assumption | (simp only [decide_eq_true_eq, decide_eq_false_iff_not] at *; omega)))))
  refine vc_virt tabOK hmix 3 5 rfl ?_
  refine loop_ren tabOK hmix (α := Nat) (fun k => ⟨23, [(6, .c (.p (.sl 5 (encT t)))), (7, .c (.p (.i .i64 t.length))), (8, .c (.p (.i .i64 k))), (3, .c (.own 0 0 k))], [.arr 5 (encT (t.take k)) false]⟩)
    (fun k => k ≤ t.length) (fun k => t.length - k) 0 (Nat.zero_le _) (.inl (weak_mk (by rw [hX]; rfl) rfl rfl (by simp [wk_cons, wk_nil, look_cons, closedD, closedC, encT_nil, encS_nil, encC_nil]))) ?_
  intro k hk
  have hmn : min k t.length = k := Nat.min_eq_left hk
  have hln : (t.take k).length = k := by rw [List.length_take, hmn]
  by_cases hlt : k < t.length
  · have hx : t[k]? = some t[k] := List.getElem?_eq_getElem hlt
    have hg := encT_at hx
    have h1 : decide ((k : Int) < (t.length : Int)) = true := decide_eq_true (by omega)
    have w1 : IntKind.i64.wrap ((k : Int) + 1) = k + 1 := wrap_i64 (by omega) (by omega)
    have hnx : t.take (k + 1) = t.take k ++ [⟨t[k].p, t[k].n⟩] := by rw [List.take_add_one, hx]; rfl
    have hdx := hd _ (List.getElem_mem hlt)
    generalize t[k] = x at hx hg hnx hdx
    generalize hrow : t.take k = row at hln hnx
    clear hx hrow hd
    repeat' (first | simp (maxSteps := 1000000) only [*, go_sem, Nat.reduceLT, Nat.reduceLeDiff, Nat.reduceEqDiff, ↓reduceIte, Nat.reduceAdd, Nat.reduceSub, Nat.reduceMul, Int.reduceLT, Int.reduceLE, Int.reduceAdd, Int.reduceSub, Int.reduceMul, Int.reduceNeg, Int.reduceToNat, Int.reduceEq, Int.reduceBEq, Int.reduceBNe, Nat.reduceBEq, beq_self_eq_true, bne_self_eq_false] | ((with_reducible refine useN (copy_c hdx) ?_ ?_ ?_); (focus exact rfl); (focus exact fun _ => rfl)) | ((refine vc_drawn (id := 5) tabOK hmix [7,8] [1,2,3,4,5,6,7,0,8,9] (by decide +kernel) ?_); (repeat' (first | (refine ds_nil ?_) | ((refine ds_chg ?_ ?_ rfl rfl rfl ?_ ?_); (rotate_left 2); (focus ((repeat' (first | simp (maxSteps := 1000000) only [*, go_sem, Nat.reduceLT, Nat.reduceLeDiff, Nat.reduceEqDiff, ↓reduceIte, Nat.reduceAdd, Nat.reduceSub, Nat.reduceMul, Int.reduceLT, Int.reduceLE, Int.reduceAdd, Int.reduceSub, Int.reduceMul, Int.reduceNeg, Int.reduceToNat, Int.reduceEq, Int.reduceBEq, Int.reduceBNe, Nat.reduceBEq, beq_self_eq_true, bne_self_eq_false] | ((with_reducible refine useN (copy_c hdx) ?_ ?_ ?_); (focus exact rfl); (focus exact fun _ => rfl)) | with_reducible refine vcond_split (fun _ => ?_) (fun _ => ?_) | with_reducible refine vg_split (fun _ => ?_) (fun _ => ?_) | ((with_reducible apply DCalls.frz); (focus exact rfl); (focus exact rfl)) | ((with_reducible refine And.intro ?_ ?_); (focus (first | omega | decide | assumption | (simp only [decide_eq_true_eq, decide_eq_false_iff_not] at *; omega)))))); (first | exact rfl | (refine And.intro ?_ ?_ <;> exact rfl)))); (simp only [putF_some, putF_none])) | ((refine ds_all ?_ rfl rfl rfl ?_ ?_); (rotate_left 1); (focus ((repeat' (first | exact allH_nil | refine allH_cons ?_ ?_)); (all_goals ((repeat' (first | simp (maxSteps := 1000000) only [*, go_sem, Nat.reduceLT, Nat.reduceLeDiff, Nat.reduceEqDiff, ↓reduceIte, Nat.reduceAdd, Nat.reduceSub, Nat.reduceMul, Int.reduceLT, Int.reduceLE, Int.reduceAdd, Int.reduceSub, Int.reduceMul, Int.reduceNeg, Int.reduceToNat, Int.reduceEq, Int.reduceBEq, Int.reduceBNe, Nat.reduceBEq, beq_self_eq_true, bne_self_eq_false] | ((with_reducible refine useN (copy_c hdx) ?_ ?_ ?_); (focus exact rfl); (focus exact fun _ => rfl)) | with_reducible refine vcond_split (fun _ => ?_) (fun _ => ?_) | with_reducible refine vg_split (fun _ => ?_) (fun _ => ?_) | ((with_reducible apply DCalls.frz); (focus exact rfl); (focus exact rfl)) | ((with_reducible refine And.intro ?_ ?_); (focus (first | omega | decide | assumption | (simp only [decide_eq_true_eq, decide_eq_false_iff_not] at *; omega)))))); (try (first | exact rfl | omega)))))); (simp only [putF_some, putF_none]))))) | with_reducible refine vcond_split (fun _ => ?_) (fun _ => ?_) | with_reducible refine vg_split (fun _ => ?_) (fun _ => ?_) | ((with_reducible apply DCalls.frz); (focus exact rfl); (focus exact rfl)) | ((with_reducible refine And.intro ?_ ?_); (focus (first | omega | decide | assumption | (simp only [decide_eq_true_eq, decide_eq_false_iff_not] at *; omega)))))
    exact qr_ren (k + 1) 0 3 (by omega) (by omega) rfl rfl (weak_mk rfl (by rw [hnx]; rfl) rfl (by simp [wk_cons, wk_nil, look_cons, closedD, closedC, renT, renD, renC, encT_nil, encS_nil, encC_nil]))
  · have h1 : decide ((k : Int) < (t.length : Int)) = false := decide_eq_false (by omega)
    have hk2 : k = t.length := by omega
    subst hk2
    rw [List.take_length]
    clear hln hmn
    repeat' (first | simp (maxSteps := 1000000) only [*, go_sem, Nat.reduceLT, Nat.reduceLeDiff, Nat.reduceEqDiff, ↓reduceIte, Nat.reduceAdd, Nat.reduceSub, Nat.reduceMul, Int.reduceLT, Int.reduceLE, Int.reduceAdd, Int.reduceSub, Int.reduceMul, Int.reduceNeg, Int.reduceToNat, Int.reduceEq, Int.reduceBEq, Int.reduceBNe, Nat.reduceBEq, beq_self_eq_true, bne_self_eq_false] | with_reducible refine vcond_split (fun _ => ?_) (fun _ => ?_) | with_reducible refine vg_split (fun _ => ?_) (fun _ => ?_) | ((with_reducible apply DCalls.frz); (focus exact rfl); (focus exact rfl)) | ((with_reducible refine And.intro ?_ ?_); (focus (first | omega | decide | assumption | (simp only [decide_eq_true_eq, decide_eq_false_iff_not] at *; omega)))))

end Go.Proofs.YtfiopamaiolfhaaDoor
