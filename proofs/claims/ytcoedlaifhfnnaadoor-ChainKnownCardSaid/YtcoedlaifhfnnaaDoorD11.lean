import Derived.Test.YtcoedlaifhfnnaaDoorD8
import Derived.Test.YtcoedlaifhfnnaaDoorBB
import Derived.Test.YtcoedlaifhfnnaaDoorShelf
import Derived.Test.YtcoedlaifhfnnaaDoorSC

section
/-
  Contracts of the library and of the program on trees, and of a diff.
-/

set_option linter.unusedSimpArgs false
set_option linter.unusedVariables false
namespace Go.Proofs.YtcoedlaifhfnnaaDoor
open Go Go.Dm Go.Proofs
open Go Go.Dm
set_option maxRecDepth 100000
set_option maxHeartbeats 4000000

theorem strCmp_c {a b : List UInt8} : DCalls Tryd.prog 24 [.c (.p (.s a)), .c (.p (.s b))] [] fun r h => r = .c (.p (.i .i64 (cmpS a b))) ∧ h = [] := by
  rw [← compareBytes_eq]
  exact dcalls_strs (enters Tryd.func24 rfl rfl) (fun a b w => Tryd.strings_Compare a b w)

theorem sort_c {h : DHeap} {id : Nat} {ss : List (List UInt8)} (hid : h[id]? = some (.arr 1 (Go.Dm.encS ss) false)) (hsz : ss.length < 4611686018427387904) :
    DCalls Tryd.prog 12 [.c (.own id 0 ss.length)] h fun d h' => d = .tup [] ∧ h' = h.set id (.arr 1 (Go.Dm.encS (ss.mergeSort fun x y => decide (x ≤ y))) false) :=
  dcalls_sort (enters Tryd.func12 rfl rfl) (fun blk off cap ss w h1 h2 h3 => Tryd.slices_Sort_string blk off cap ss w h1 h2 h3) (fun p cap w => Tryd.slices_Sort_string_none p cap w) hid hsz

theorem compact_len (l : List (List UInt8)) : (Lib.compact l).length ≤ l.length := by
  unfold Lib.compact Lib.compactUpTo
  rw [List.length_map]
  exact Nat.le_trans (List.length_filter_le ..) (by simp)

theorem compact_c {h : DHeap} {id : Nat} {ss : List (List UInt8)} (hid : h[id]? = some (.arr 1 (Go.Dm.encS ss) false)) (hsz : ss.length < 4611686018427387904) :
    DCalls Tryd.prog 13 [.c (.own id 0 ss.length)] h fun d h' => d = .c (.own id 0 (Lib.compact ss).length) ∧ h' = h.set id (.arr 1 (Go.Dm.encS (Lib.compact ss ++ List.replicate (ss.length - (Lib.compact ss).length) [])) false) :=
  dcalls_compact (enters Tryd.func13 rfl rfl) (fun blk off cap ss w h1 h2 h3 => Tryd.slices_Compact_string blk off cap ss w h1 h2 h3) (fun p cap w => Tryd.slices_Compact_string_empty p cap w) hid hsz compact_len

theorem find1_c {q : List UInt8} {k m : Int} {tt : Nat} {d p : List UInt8} : DCalls Tryd.prog 73 [.agg [.p (.s q), .p (.i .i64 k), .p (.i .i64 m), .p (.f tt), .p (.sl 1 (encB d))], .c (.p (.s p))] [] fun r h => r = .c (.p (.i .i64 (cmpS q p))) ∧ h = [] := by
  refine ent tabOK hmix Tryd.func73 rfl rfl fun X0 hX => ?_
  simp only [Tryd.ntmps73, Tryd.f73, go_sem]
  repeat' (first | simp (maxSteps := 1000000) only [*, go_sem, Nat.reduceLT, Nat.reduceLeDiff, Nat.reduceEqDiff, ↓reduceIte, Nat.reduceAdd, Nat.reduceSub, Nat.reduceMul, Int.reduceLT, Int.reduceLE, Int.reduceAdd, Int.reduceSub, Int.reduceMul, Int.reduceNeg, Int.reduceToNat, Int.reduceEq, Int.reduceBEq, Int.reduceBNe, Nat.reduceBEq, beq_self_eq_true, bne_self_eq_false] | ((with_reducible refine useF (strCmp_c) ?_ ?_ ?_); (focus exact rfl); (focus exact rfl)) | with_reducible refine vcond_split (fun _ => ?_) (fun _ => ?_) | with_reducible refine vg_split (fun _ => ?_) (fun _ => ?_) | ((with_reducible apply DCalls.frz); (focus exact rfl); (focus exact rfl)) | ((with_reducible refine And.intro ?_ ?_); (focus (first | omega | decide | assumption | (simp only [decide_eq_true_eq, decide_eq_false_iff_not] at *; omega)))))

def FindC (t : List It) (p : List UInt8) (i : Nat) : Prop := i ≤ t.length ∧ ∀ k x, t[k]? = some x → (k < i → bltL x.p p = true) ∧ (i ≤ k → bltL x.p p = false)
def foundF (t : List It) (p : List UInt8) (i : Nat) : Bool := match t[i]? with
  | some x => x.p == p
  | none => false
def findE (t : List It) (p : List UInt8) (i : Nat) : DV := .tup [.c (.p (.i .i64 i)), .c (.p (.b (foundF t p i)))]
theorem getR_none {p : List UInt8} : ∀ {t : List It}, (∀ x ∈ t, (x.p == p) = false) → getR t p = none
  | [], _ => rfl
  | x :: r, h => by
    rw [getR, if_neg (by rw [h x List.mem_cons_self]; decide)]
    exact getR_none fun y hy => h y (List.mem_cons_of_mem _ hy)
theorem getR_at {p : List UInt8} : ∀ {t : List It} {k : Nat} {x : It}, Srt t → t[k]? = some x → (x.p == p) = true → getR t p = some x.n
  | [], k, x, _, h, _ => by simp at h
  | y :: r, 0, x, _, h, hp => by
    simp only [List.getElem?_cons_zero, Option.some.injEq] at h
    subst h
    rw [getR, if_pos hp]
  | y :: r, k + 1, x, hs, h, hp => by
    simp only [List.getElem?_cons_succ] at h
    have hs := List.pairwise_cons.1 hs
    have := hs.1 x (List.mem_of_getElem? h)
    rw [eq_of_beq hp] at this
    rw [getR, if_neg (by rw [blt_ne this]; decide)]
    exact getR_at hs.2 h hp
theorem find_no {t : List It} {p : List UInt8} {i : Nat} (hs : Srt t) (h : FindC t p i) (hf : foundF t p i = false) : getR t p = none := by
  refine getR_none fun x hx => ?_
  obtain ⟨k, hk⟩ := List.getElem?_of_mem hx
  cases he : x.p == p
  · rfl
  · have h1 := h.2 k x hk
    rcases Nat.lt_trichotomy k i with hki | rfl | hki
    · have := h1.1 hki; rw [eq_of_beq he, blt_irrefl] at this; cases this
    · unfold foundF at hf; rw [hk] at hf; simp only at hf; rw [he] at hf; cases hf
    · have hil : i < t.length := Nat.lt_trans hki (List.getElem?_eq_some_iff.1 hk).1
      have h2 := h.2 i t[i] (List.getElem?_eq_getElem hil)
      have h3 := List.pairwise_iff_getElem.1 hs i k hil (List.getElem?_eq_some_iff.1 hk).1 hki
      rw [(List.getElem?_eq_some_iff.1 hk).2, eq_of_beq he, h2.2 (Nat.le_refl _)] at h3; cases h3

theorem bsearch_c {t : List It} {p : List UInt8} (ht : t.length ≤ 1000000) (hs : Srt t) :
    DCalls Tryd.prog 48 [.c (.p (.sl 5 (encT t))), .c (.p (.s p)), .c (.clo 73 [])] [] fun r h =>
      ∃ i : Nat, FindC t p i ∧ r = findE t p i ∧ h = [] := by
  have hmon : ∀ (k k' : Nat) (x x' : It), t[k]? = some x → t[k']? = some x' → k < k' → bltL x.p x'.p = true := fun k k' x x' h1 h2 h3 => by
    obtain ⟨h4, rfl⟩ := List.getElem?_eq_some_iff.1 h1
    obtain ⟨h5, rfl⟩ := List.getElem?_eq_some_iff.1 h2
    exact List.pairwise_iff_getElem.1 hs _ _ h4 h5 h3
  refine ent tabOK hmix Tryd.func48 rfl rfl fun X0 hX => ?_
  simp only [Tryd.ntmps48, Tryd.f48, go_sem]
  repeat' (first | simp (maxSteps := 1000000) only [*, go_sem, Nat.reduceLT, Nat.reduceLeDiff, Nat.reduceEqDiff, ↓reduceIte, Nat.reduceAdd, Nat.reduceSub, Nat.reduceMul, Int.reduceLT, Int.reduceLE, Int.reduceAdd, Int.reduceSub, Int.reduceMul, Int.reduceNeg, Int.reduceToNat, Int.reduceEq, Int.reduceBEq, Int.reduceBNe, Nat.reduceBEq, beq_self_eq_true, bne_self_eq_false] | with_reducible refine vcond_split (fun _ => ?_) (fun _ => ?_) | with_reducible refine vg_split (fun _ => ?_) (fun _ => ?_) | ((with_reducible apply DCalls.frz); (focus exact rfl); (focus exact rfl)) | ((with_reducible refine And.intro ?_ ?_); (focus (first | omega | decide | assumption | (simp only [decide_eq_true_eq, decide_eq_false_iff_not] at *; omega)))))
  refine loop_ren tabOK hmix (α := Nat × Nat) (fun x => ⟨49, [(0, .c (.p (.sl 5 (encT t)))), (1, .c (.p (.s p))), (2, .c (.clo 73 [])), (8, .c (.p (.i .i64 t.length))), (9, .c (.p (.i .i64 x.1))), (10, .c (.p (.i .i64 x.2)))], []⟩)
    (fun x => x.1 ≤ x.2 ∧ x.2 ≤ t.length ∧ ∀ k y, t[k]? = some y → (k < x.1 → bltL y.p p = true) ∧ (x.2 ≤ k → bltL y.p p = false)) (fun x => x.2 - x.1) (0, t.length) ⟨Nat.zero_le _, Nat.le_refl _, fun k y hy => ⟨fun h => by omega, fun h => by rw [List.getElem?_eq_none h] at hy; cases hy⟩⟩ (.inl (weak_mk (by rw [hX]; rfl) rfl rfl (by simp [wk_cons, wk_nil, look_cons, closedD, closedC, encT_nil, encS_nil, encC_nil]))) ?_
  rintro ⟨i, j⟩ ⟨hij, hj, hl⟩
  simp only at hij hj hl
  by_cases hlt : i < j
  · have h1 : decide ((i : Int) < (j : Int)) = true := decide_eq_true (by omega)
    have w1 : IntKind.i64.wrap ((i : Int) + j) = (i : Int) + j := wrap_i64 (by omega) (by omega)
    have w2 : IntKind.u64.wrap ((i : Int) + j) = (i : Int) + j := wrap_u64 (by omega) (by omega)
    obtain ⟨m, hm, hmi, hmj⟩ : ∃ m : Nat, ((i : Int) + j).fdiv (2 ^ min 1 64) = (m : Int) ∧ i ≤ m ∧ m < j :=
      ⟨(i + j) / 2, by rw [show (2 : Int) ^ min 1 64 = 2 from rfl, Int.fdiv_eq_ediv_of_nonneg _ (by decide)]; omega, by omega, by omega⟩
    have w3 : IntKind.i64.wrap (m : Int) = m := wrap_i64 (by omega) (by omega)
    have w4 : IntKind.i64.wrap ((m : Int) + 1) = m + 1 := wrap_i64 (by omega) (by omega)
    have hml : m < t.length := by omega
    have hx : t[m]? = some t[m] := List.getElem?_eq_getElem hml
    have hg := encT_at hx
    generalize t[m] = x at hx hg
    repeat' (first | simp (maxSteps := 1000000) only [*, go_sem, Nat.reduceLT, Nat.reduceLeDiff, Nat.reduceEqDiff, ↓reduceIte, Nat.reduceAdd, Nat.reduceSub, Nat.reduceMul, Int.reduceLT, Int.reduceLE, Int.reduceAdd, Int.reduceSub, Int.reduceMul, Int.reduceNeg, Int.reduceToNat, Int.reduceEq, Int.reduceBEq, Int.reduceBNe, Nat.reduceBEq, beq_self_eq_true, bne_self_eq_false] | ((with_reducible refine useF (find1_c) ?_ ?_ ?_); (focus exact rfl); (focus exact rfl)) | with_reducible refine vcond_split (fun _ => ?_) (fun _ => ?_) | with_reducible refine vg_split (fun _ => ?_) (fun _ => ?_) | ((with_reducible apply DCalls.frz); (focus exact rfl); (focus exact rfl)) | ((with_reducible refine And.intro ?_ ?_); (focus (first | omega | decide | assumption | (simp only [decide_eq_true_eq, decide_eq_false_iff_not] at *; omega)))))
    · rename_i hb
      have hb : bltL x.p p = true := by rw [← cmpS_lt]; exact hb
      exact qr_n (m + 1, j) ⟨by simp only; omega, hj, fun k y hy => ⟨fun hk => by
        rcases Nat.lt_or_ge k m with h | h
        · exact blt_trans (hmon _ _ _ _ hy hx h) hb
        · have : k = m := by simp only at hk; omega
          subst this; rw [hx] at hy; cases hy; exact hb, (hl k y hy).2⟩⟩ (by simp only; omega) (weak_mk rfl rfl rfl (by simp [wk_cons, wk_nil, look_cons, closedD, closedC, renT, renD, renC, encT_nil, encS_nil, encC_nil]))
    · rename_i hb
      have hb : bltL x.p p = false := by rw [← cmpS_lt]; exact hb
      exact qr_n (i, m) ⟨hmi, by simp only; omega, fun k y hy => ⟨(hl k y hy).1, fun hk => by
        rcases Nat.lt_or_ge m k with h | h
        · cases hc : bltL y.p p
          · rfl
          · have := blt_trans (hmon _ _ _ _ hx hy h) hc
            rw [hb] at this; cases this
        · have : k = m := by simp only at hk; omega
          subst this; rw [hx] at hy; cases hy; exact hb⟩⟩ (by simp only; omega) (weak_mk rfl rfl rfl (by simp [wk_cons, wk_nil, look_cons, closedD, closedC, renT, renD, renC, encT_nil, encS_nil, encC_nil]))
  · have h1 : decide ((i : Int) < (j : Int)) = false := decide_eq_false (by omega)
    have : i = j := by omega
    subst this
    by_cases hil : i < t.length
    · have hx : t[i]? = some t[i] := List.getElem?_eq_getElem hil
      have hg := encT_at hx
      have h2 : decide ((i : Int) < (t.length : Int)) = true := decide_eq_true (by omega)
      generalize t[i] = x at hx hg
      repeat' (first | simp (maxSteps := 1000000) only [*, go_sem, Nat.reduceLT, Nat.reduceLeDiff, Nat.reduceEqDiff, ↓reduceIte, Nat.reduceAdd, Nat.reduceSub, Nat.reduceMul, Int.reduceLT, Int.reduceLE, Int.reduceAdd, Int.reduceSub, Int.reduceMul, Int.reduceNeg, Int.reduceToNat, Int.reduceEq, Int.reduceBEq, Int.reduceBNe, Nat.reduceBEq, beq_self_eq_true, bne_self_eq_false] | ((with_reducible refine useF (find1_c) ?_ ?_ ?_); (focus exact rfl); (focus exact rfl)) | with_reducible refine vcond_split (fun _ => ?_) (fun _ => ?_) | with_reducible refine vg_split (fun _ => ?_) (fun _ => ?_) | ((with_reducible apply DCalls.frz); (focus exact rfl); (focus exact rfl)) | ((with_reducible refine And.intro ?_ ?_); (focus (first | omega | decide | assumption | (simp only [decide_eq_true_eq, decide_eq_false_iff_not] at *; omega)))))
      refine ⟨i, ⟨hj, hl⟩, ?_⟩
      simp only [findE, foundF, hx, cmpS_eq]
    · have h2 : decide ((i : Int) < (t.length : Int)) = false := decide_eq_false (by omega)
      repeat' (first | simp (maxSteps := 1000000) only [*, go_sem, Nat.reduceLT, Nat.reduceLeDiff, Nat.reduceEqDiff, ↓reduceIte, Nat.reduceAdd, Nat.reduceSub, Nat.reduceMul, Int.reduceLT, Int.reduceLE, Int.reduceAdd, Int.reduceSub, Int.reduceMul, Int.reduceNeg, Int.reduceToNat, Int.reduceEq, Int.reduceBEq, Int.reduceBNe, Nat.reduceBEq, beq_self_eq_true, bne_self_eq_false] | ((with_reducible refine useF (find1_c) ?_ ?_ ?_); (focus exact rfl); (focus exact rfl)) | with_reducible refine vcond_split (fun _ => ?_) (fun _ => ?_) | with_reducible refine vg_split (fun _ => ?_) (fun _ => ?_) | ((with_reducible apply DCalls.frz); (focus exact rfl); (focus exact rfl)) | ((with_reducible refine And.intro ?_ ?_); (focus (first | omega | decide | assumption | (simp only [decide_eq_true_eq, decide_eq_false_iff_not] at *; omega)))))
      refine ⟨i, ⟨hj, hl⟩, ?_⟩
      simp only [findE, foundF, List.getElem?_eq_none (Nat.le_of_not_lt hil)]

theorem find_c {t : List It} {p : List UInt8} (ht : t.length ≤ 1000000) (hs : Srt t) :
    DCalls Tryd.prog 62 [.c (.p (.sl 5 (encT t))), .c (.p (.s p))] [] fun r h => ∃ i : Nat, FindC t p i ∧ r = findE t p i ∧ h = [] := by
  refine ent tabOK hmix Tryd.func62 rfl rfl fun X0 hX => ?_
  simp only [Tryd.ntmps62, Tryd.f62, go_sem]
  repeat' (first | simp (maxSteps := 1000000) only [*, go_sem, Nat.reduceLT, Nat.reduceLeDiff, Nat.reduceEqDiff, ↓reduceIte, Nat.reduceAdd, Nat.reduceSub, Nat.reduceMul, Int.reduceLT, Int.reduceLE, Int.reduceAdd, Int.reduceSub, Int.reduceMul, Int.reduceNeg, Int.reduceToNat, Int.reduceEq, Int.reduceBEq, Int.reduceBNe, Nat.reduceBEq, beq_self_eq_true, bne_self_eq_false] | with_reducible refine vcond_split (fun _ => ?_) (fun _ => ?_) | with_reducible refine vg_split (fun _ => ?_) (fun _ => ?_) | ((with_reducible apply DCalls.frz); (focus exact rfl); (focus exact rfl)) | ((with_reducible refine And.intro ?_ ?_); (focus (first | omega | decide | assumption | (simp only [decide_eq_true_eq, decide_eq_false_iff_not] at *; omega)))))
  refine useFE (bsearch_c ht hs) rfl (fun _ _ => rfl) fun i hi => ?_
  unfold findE
  repeat' (first | simp (maxSteps := 1000000) only [*, go_sem, Nat.reduceLT, Nat.reduceLeDiff, Nat.reduceEqDiff, ↓reduceIte, Nat.reduceAdd, Nat.reduceSub, Nat.reduceMul, Int.reduceLT, Int.reduceLE, Int.reduceAdd, Int.reduceSub, Int.reduceMul, Int.reduceNeg, Int.reduceToNat, Int.reduceEq, Int.reduceBEq, Int.reduceBNe, Nat.reduceBEq, beq_self_eq_true, bne_self_eq_false] | with_reducible refine vcond_split (fun _ => ?_) (fun _ => ?_) | with_reducible refine vg_split (fun _ => ?_) (fun _ => ?_) | ((with_reducible apply DCalls.frz); (focus exact rfl); (focus exact rfl)) | ((with_reducible refine And.intro ?_ ?_); (focus (first | omega | decide | assumption | (simp only [decide_eq_true_eq, decide_eq_false_iff_not] at *; omega)))))
  exact ⟨i, hi, rfl⟩

end Go.Proofs.YtcoedlaifhfnnaaDoor

end

section
/-
  The contract of the program's diff.
-/

set_option linter.unusedSimpArgs false
set_option linter.unusedVariables false
namespace Go.Proofs.YtcoedlaifhfnnaaDoor
open Go Go.Dm
set_option maxRecDepth 100000
set_option maxHeartbeats 4000000

theorem sort_k {h : DHeap} {id : Nat} {ss : List (List UInt8)} {K : DV → DHeap → Prop} (hid : h[id]? = some (.arr 1 (Go.Dm.encS ss) false)) (hsz : ss.length < 4611686018427387904)
    (hk : K (.tup []) (h.set id (.arr 1 (Go.Dm.encS (ss.mergeSort fun x y => decide (x ≤ y))) false))) : DCalls Tryd.prog 12 [.c (.own id 0 ss.length)] h K :=
  DCalls.mono (sort_c hid hsz) (by rintro d h' ⟨rfl, rfl⟩; exact hk)

theorem compact_k {h : DHeap} {id n : Nat} {ss : List (List UInt8)} {K : DV → DHeap → Prop} (hid : h[id]? = some (.arr 1 (Go.Dm.encS ss) false)) (hsz : ss.length < 4611686018427387904) (hn : n = ss.length)
    (hk : K (.c (.own id 0 (Lib.compact ss).length)) (h.set id (.arr 1 (Go.Dm.encS (Lib.compact ss ++ List.replicate (ss.length - (Lib.compact ss).length) [])) false))) : DCalls Tryd.prog 13 [.c (.own id 0 n)] h K := by
  subst hn; exact DCalls.mono (compact_c hid hsz) (by rintro d h' ⟨rfl, rfl⟩; exact hk)

end Go.Proofs.YtcoedlaifhfnnaaDoor

end
