/-
  Contracts of the program's trees: a path moved.
-/
import Derived.Test.YtfiopamaiolfhaaGreatDoorN2
import Derived.Test.YtfiopamaiolfhaaGreatDoorShelf3
import Derived.Test.YtfiopamaiolfhaaGreatDoorBQ
set_option linter.unusedSimpArgs false
set_option linter.unusedVariables false
namespace Go.Proofs.YtfiopamaiolfhaaGreatDoor
open Go Go.Dm Go.Proofs
set_option maxRecDepth 100000
set_option maxHeartbeats 8000000

theorem found_get {t : List It} {p : List UInt8} {i : Nat} (hs : Srt t) (h : FindC t p i) : foundF t p i = (getR t p).isSome := by
  cases hf : foundF t p i
  · rw [find_no hs h hf]; rfl
  · unfold foundF at hf
    cases hx : t[i]? with
    | none => rw [hx] at hf; cases hf
    | some x => rw [hx] at hf; rw [getR_at hs hx hf]; rfl

def mayF (t : List It) (a b : List UInt8) : Int :=
  if a == [] || b == [] || !isPathR a || !isPathR b then 1 else if !(getR t a).isSome then 6 else if belowR a b then 18 else if (getR t b).isSome then 7 else if !isDirR t (dirOfR b) then 9 else 0

theorem mayMove_c {t : List It} {a b : List UInt8} (ht : t.length ≤ 1000000) (hs : Srt t) (ha : a.length ≤ 1000000000) (hb : b.length ≤ 1000000000) :
    DCalls Tryz.prog 114 [.c (.p (.sl 5 (encT t))), .c (.p (.s a)), .c (.p (.s b))] [] fun r h => r = .c (.p (.i .i64 (mayF t a b))) ∧ h = [] := by
  have hdir := treeIsDir_c (t := t) (p := dirOfR b) ht hs
  have hpa := isPath_c ha
  have hpb := isPath_c hb
  unfold mayF
  generalize isPathR a = pa at *
  generalize isPathR b = pb at *
  generalize isDirR t (dirOfR b) = db at *
  refine ent tabOK hmix Tryz.func114 rfl rfl fun X0 hX => ?_
  simp only [Tryz.ntmps114, Tryz.f114, go_sem]
  repeat' (first | simp (maxSteps := 1000000) only [*, go_sem, Nat.reduceLT, Nat.reduceLeDiff, Nat.reduceEqDiff, ↓reduceIte, Nat.reduceAdd, Nat.reduceSub, Nat.reduceMul, Int.reduceLT, Int.reduceLE, Int.reduceAdd, Int.reduceSub, Int.reduceMul, Int.reduceNeg, Int.reduceToNat, Int.reduceEq, Int.reduceBEq, Int.reduceBNe, Nat.reduceBEq, beq_self_eq_true, bne_self_eq_false] | with_reducible refine vcond_split (fun _ => ?_) (fun _ => ?_) | with_reducible refine vg_split (fun _ => ?_) (fun _ => ?_) | ((with_reducible apply DCalls.frz); (focus exact rfl); (focus exact rfl)) | ((with_reducible refine And.intro ?_ ?_); (focus (first | omega | decide | assumption | (simp only [decide_eq_true_eq, decide_eq_false_iff_not] at *; omega)))))
  refine useFE (find_c ht hs) rfl (fun _ _ => rfl) fun i hi => ?_
  unfold findE
  rw [found_get hs hi]
  generalize (getR t a).isSome = ga
  repeat' (first | simp (maxSteps := 1000000) only [*, go_sem, Nat.reduceLT, Nat.reduceLeDiff, Nat.reduceEqDiff, ↓reduceIte, Nat.reduceAdd, Nat.reduceSub, Nat.reduceMul, Int.reduceLT, Int.reduceLE, Int.reduceAdd, Int.reduceSub, Int.reduceMul, Int.reduceNeg, Int.reduceToNat, Int.reduceEq, Int.reduceBEq, Int.reduceBNe, Nat.reduceBEq, beq_self_eq_true, bne_self_eq_false] | with_reducible refine vcond_split (fun _ => ?_) (fun _ => ?_) | with_reducible refine vg_split (fun _ => ?_) (fun _ => ?_) | ((with_reducible apply DCalls.frz); (focus exact rfl); (focus exact rfl)) | ((with_reducible refine And.intro ?_ ?_); (focus (first | omega | decide | assumption | (simp only [decide_eq_true_eq, decide_eq_false_iff_not] at *; omega)))))
  refine useFE (find_c ht hs) rfl (fun _ _ => rfl) fun j hj => ?_
  unfold findE
  rw [found_get hs hj]
  generalize (getR t b).isSome = gb
  cases pa <;> cases pb <;> cases ga <;> cases gb <;> cases db
  all_goals repeat' (first | simp (maxSteps := 1000000) only [*, go_sem, Nat.reduceLT, Nat.reduceLeDiff, Nat.reduceEqDiff, ↓reduceIte, Nat.reduceAdd, Nat.reduceSub, Nat.reduceMul, Int.reduceLT, Int.reduceLE, Int.reduceAdd, Int.reduceSub, Int.reduceMul, Int.reduceNeg, Int.reduceToNat, Int.reduceEq, Int.reduceBEq, Int.reduceBNe, Nat.reduceBEq, beq_self_eq_true, bne_self_eq_false, Bool.not_true, Bool.not_false] | ((with_reducible refine useF (hpa) ?_ ?_ ?_); (focus exact rfl); (focus exact rfl)) | ((with_reducible refine useF (hpb) ?_ ?_ ?_); (focus exact rfl); (focus exact rfl)) | ((with_reducible refine useF (nameBelow_c ha) ?_ ?_ ?_); (focus exact rfl); (focus exact rfl)) | ((with_reducible refine useF (nameDir_c hb) ?_ ?_ ?_); (focus exact rfl); (focus exact rfl)) | ((with_reducible refine useF (hdir) ?_ ?_ ?_); (focus exact rfl); (focus exact rfl)) | with_reducible refine vcond_split (fun _ => ?_) (fun _ => ?_) | with_reducible refine vg_split (fun _ => ?_) (fun _ => ?_) | ((with_reducible apply DCalls.frz); (focus exact rfl); (focus exact rfl)) | ((with_reducible refine And.intro ?_ ?_); (focus (first | omega | decide | assumption | (simp only [decide_eq_true_eq, decide_eq_false_iff_not] at *; omega)))))
  all_goals simp_all

theorem move1_c {q q' : List UInt8} {k k' m m' : Int} {t t' : Nat} {d d' : List UInt8} :
    DCalls Tryz.prog 116 [.agg [.p (.s q), .p (.i .i64 k), .p (.i .i64 m), .p (.f t), .p (.sl 1 (encB d))], .agg [.p (.s q'), .p (.i .i64 k'), .p (.i .i64 m'), .p (.f t'), .p (.sl 1 (encB d'))]] [] fun r h => r = .c (.p (.i .i64 (cmpS q q'))) ∧ h = [] := by
  refine ent tabOK hmix Tryz.func116 rfl rfl fun X0 hX => ?_
  simp only [Tryz.ntmps116, Tryz.f116, go_sem]
  repeat' (first | simp (maxSteps := 1000000) only [*, go_sem, Nat.reduceLT, Nat.reduceLeDiff, Nat.reduceEqDiff, ↓reduceIte, Nat.reduceAdd, Nat.reduceSub, Nat.reduceMul, Int.reduceLT, Int.reduceLE, Int.reduceAdd, Int.reduceSub, Int.reduceMul, Int.reduceNeg, Int.reduceToNat, Int.reduceEq, Int.reduceBEq, Int.reduceBNe, Nat.reduceBEq, beq_self_eq_true, bne_self_eq_false] | ((with_reducible refine useF (strCmp_c) ?_ ?_ ?_); (focus exact rfl); (focus exact rfl)) | with_reducible refine vcond_split (fun _ => ?_) (fun _ => ?_) | with_reducible refine vg_split (fun _ => ?_) (fun _ => ?_) | ((with_reducible apply DCalls.frz); (focus exact rfl); (focus exact rfl)) | ((with_reducible refine And.intro ?_ ?_); (focus (first | omega | decide | assumption | (simp only [decide_eq_true_eq, decide_eq_false_iff_not] at *; omega)))))

theorem sortM_f {h : DHeap} {id : Nat} {l : List It} (hu : ∀ x ∈ l, ∀ y ∈ l, x.p = y.p → x = y) (hid : h[id]? = some (.arr 5 (encT l) false)) (hsz : l.length < 4611686018427387904) :
    DCalls Tryz.prog 115 [.c (.own id 0 l.length), .c (.clo 116 [])] h fun d h' => d = .tup [] ∧ h' = h.set id (.arr 5 (encT (sortI l)) false) := by
  have := dcalls_sortf (P := Tryz.prog) (f := 115) (g := 116) 5 (by decide) cfI swo_cfI
    (enters Tryz.func115 rfl rfl) (enters_of Tryz.func116 (by kernel_rfl) rfl)
    (fun enc hk h1 c hO blk off cap d w hcmp hH hblk hsz => Tryz.slices_SortFunc_f115 5 Tryz.isAgg43 Tryz.sizeOf43 enc hk h1 c hO 116 #[] blk off cap d w (enters_of Tryz.func116 (by kernel_rfl) rfl) hcmp hH hblk hsz)
    (fun p cap fv w => Tryz.slices_SortFunc_none_f115 (α := Nat) p cap fv w)
    (h := h) (i0 := id) (es := encT l) (fun x hx y hy => by
      obtain ⟨a, _, rfl⟩ := List.mem_map.1 hx
      obtain ⟨b, _, rfl⟩ := List.mem_map.1 hy
      exact move1_c) (cfI_total hu) hid (by rw [encT_len]; exact hsz)
  rw [encT_sort, encT_len] at this
  exact this

theorem sortM_k {h : DHeap} {id : Nat} {l : List It} {K : DV → DHeap → Prop} (hu : ∀ x ∈ l, ∀ y ∈ l, x.p = y.p → x = y) (hsz : l.length < 4611686018427387904) (hid : h[id]? = some (.arr 5 (encT l) false)) (hk : K (.tup []) (h.set id (.arr 5 (encT (sortI l)) false))) :
    DCalls Tryz.prog 115 [.c (.own id 0 l.length), .c (.clo 116 [])] h K :=
  DCalls.mono (sortM_f hu hid hsz) (by rintro _ _ ⟨rfl, rfl⟩; exact hk)

end Go.Proofs.YtfiopamaiolfhaaGreatDoor
