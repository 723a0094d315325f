import Derived.Test.YtnbgaphhhjnjlaaGreatDoorE1
import Derived.Test.YtnbgaphhhjnjlaaGreatDoorD11
import Derived.Test.YtnbgaphhhjnjlaaGreatDoorSC
import Derived.Test.YtnbgaphhhjnjlaaGreatDoorVB

section
/-
  Contracts of the program's trees: a path's parts, whether a tree is right, whether a directory is there.
-/

set_option linter.unusedSimpArgs false
set_option linter.unusedVariables false
namespace Go.Proofs.YtnbgaphhhjnjlaaGreatDoor
open Go Go.Dm
set_option maxRecDepth 100000
set_option maxHeartbeats 4000000

theorem lastIndexByte_c {a : List UInt8} {c : Int} (ha : a.length < 4611686018427387904) : DCalls Tryz.prog 93 [.c (.p (.s a)), .c (.p (.i .u8 c))] [] fun r h => r = .c (.p (.i .i64 (Lib.lastIndexByte ⟨a.toArray⟩ c))) ∧ h = [] :=
  dcalls_strbyte (N := 4611686018427387904) (g := fun a c => Lib.lastIndexByte ⟨a.toArray⟩ c) (enters Tryz.func93 rfl rfl) (fun a c w h => Tryz.strings_LastIndexByte ⟨a.toArray⟩ c (by simpa [ByteArray.size] using h) w) ha

theorem hasPrefix_c {a b : List UInt8} : DCalls Tryz.prog 129 [.c (.p (.s a)), .c (.p (.s b))] [] fun r h => r = .c (.p (.b (b.isPrefixOf a))) ∧ h = [] :=
  dcalls_strbool (g := fun a b => b.isPrefixOf a) (enters Tryz.func129 rfl rfl) (fun a b w => Tryz.strings_HasPrefix a b w)

theorem nameDir_c {p : List UInt8} (hp : p.length ≤ 1000000000) : DCalls Tryz.prog 56 [.c (.p (.s p))] [] fun r h => r = .c (.p (.s (dirOfR p))) ∧ h = [] := by
  have hl := lastIndexByte_c (a := p) (c := 47) (by omega)
  rw [lastIndexByte_eq] at hl
  unfold dirOfR
  cases hs : lastSlash p p.length with
  | none =>
    rw [hs] at hl
    simp only at hl ⊢
    clear hs
    refine ent tabOK hmix Tryz.func56 rfl rfl fun X0 hX => ?_
    simp only [Tryz.ntmps56, Tryz.f56, go_sem]
    repeat' (first | simp (maxSteps := 1000000) only [*, go_sem, Nat.reduceLT, Nat.reduceLeDiff, Nat.reduceEqDiff, ↓reduceIte, Nat.reduceAdd, Nat.reduceSub, Nat.reduceMul, Int.reduceLT, Int.reduceLE, Int.reduceAdd, Int.reduceSub, Int.reduceMul, Int.reduceNeg, Int.reduceToNat, Int.reduceEq, Int.reduceBEq, Int.reduceBNe, Nat.reduceBEq, beq_self_eq_true, bne_self_eq_false] | ((with_reducible refine useF (hl) ?_ ?_ ?_); (focus exact rfl); (focus exact rfl)) | with_reducible refine vcond_split (fun _ => ?_) (fun _ => ?_) | with_reducible refine vg_split (fun _ => ?_) (fun _ => ?_) | ((with_reducible apply DCalls.frz); (focus exact rfl); (focus exact rfl)) | ((with_reducible refine And.intro ?_ ?_); (focus (first | omega | decide | assumption | (simp only [decide_eq_true_eq, decide_eq_false_iff_not] at *; omega)))))
    all_goals simp
  | some j =>
    rw [hs] at hl
    have hj := lastSlash_lt hs
    have hm : max (0 : Int) (j : Int) = j := by omega
    simp only at hl ⊢
    clear hs
    have hj2 : (j : Int) ≤ p.length := by omega
    have hj3 : (0 : Int) ≤ j := by omega
    have hj4 : (if (0 : Int) < (j : Int) then (j : Int) else 0) = j := by split <;> omega
    refine ent tabOK hmix Tryz.func56 rfl rfl fun X0 hX => ?_
    simp only [Tryz.ntmps56, Tryz.f56, go_sem]
    repeat' (first | simp (maxSteps := 1000000) only [*, go_sem, Nat.reduceLT, Nat.reduceLeDiff, Nat.reduceEqDiff, ↓reduceIte, Nat.reduceAdd, Nat.reduceSub, Nat.reduceMul, Int.reduceLT, Int.reduceLE, Int.reduceAdd, Int.reduceSub, Int.reduceMul, Int.reduceNeg, Int.reduceToNat, Int.reduceEq, Int.reduceBEq, Int.reduceBNe, Nat.reduceBEq, beq_self_eq_true, bne_self_eq_false] | ((with_reducible refine useF (hl) ?_ ?_ ?_); (focus exact rfl); (focus exact rfl)) | with_reducible refine vcond_split (fun _ => ?_) (fun _ => ?_) | with_reducible refine vg_split (fun _ => ?_) (fun _ => ?_) | ((with_reducible apply DCalls.frz); (focus exact rfl); (focus exact rfl)) | ((with_reducible refine And.intro ?_ ?_); (focus (first | omega | decide | assumption | (simp only [decide_eq_true_eq, decide_eq_false_iff_not] at *; omega)))))
    all_goals first | (rw [hj4]; done) | (rw [hj4]; omega) | (rw [hj4]; rfl) | skip

theorem nameBase_c {p : List UInt8} (hp : p.length ≤ 1000000000) : DCalls Tryz.prog 99 [.c (.p (.s p))] [] fun r h => r = .c (.p (.s (baseF p))) ∧ h = [] := by
  have hl := lastIndexByte_c (a := p) (c := 47) (by omega)
  rw [lastIndexByte_eq] at hl
  unfold baseF
  cases hs : lastSlash p p.length with
  | none =>
    rw [hs] at hl
    simp only at hl ⊢
    clear hs
    have w1 : IntKind.i64.wrap (-1 + 1) = 0 := by decide +kernel
    refine ent tabOK hmix Tryz.func99 rfl rfl fun X0 hX => ?_
    simp only [Tryz.ntmps99, Tryz.f99, go_sem]
    repeat' (first | simp (maxSteps := 1000000) only [*, go_sem, Nat.reduceLT, Nat.reduceLeDiff, Nat.reduceEqDiff, ↓reduceIte, Nat.reduceAdd, Nat.reduceSub, Nat.reduceMul, Int.reduceLT, Int.reduceLE, Int.reduceAdd, Int.reduceSub, Int.reduceMul, Int.reduceNeg, Int.reduceToNat, Int.reduceEq, Int.reduceBEq, Int.reduceBNe, Nat.reduceBEq, beq_self_eq_true, bne_self_eq_false] | ((with_reducible refine useF (hl) ?_ ?_ ?_); (focus exact rfl); (focus exact rfl)) | with_reducible refine vcond_split (fun _ => ?_) (fun _ => ?_) | with_reducible refine vg_split (fun _ => ?_) (fun _ => ?_) | ((with_reducible apply DCalls.frz); (focus exact rfl); (focus exact rfl)) | ((with_reducible refine And.intro ?_ ?_); (focus (first | omega | decide | assumption | (simp only [decide_eq_true_eq, decide_eq_false_iff_not] at *; omega)))))
    all_goals simp
  | some j =>
    rw [hs] at hl
    have hj := lastSlash_lt hs
    have w1 : IntKind.i64.wrap ((j : Int) + 1) = (j + 1 : Nat) := wrap_i64 (by omega) (by omega)
    simp only at hl ⊢
    clear hs
    have hj2 : ((j + 1 : Nat) : Int) ≤ p.length := by omega
    refine ent tabOK hmix Tryz.func99 rfl rfl fun X0 hX => ?_
    simp only [Tryz.ntmps99, Tryz.f99, go_sem]
    repeat' (first | simp (maxSteps := 1000000) only [*, go_sem, Nat.reduceLT, Nat.reduceLeDiff, Nat.reduceEqDiff, ↓reduceIte, Nat.reduceAdd, Nat.reduceSub, Nat.reduceMul, Int.reduceLT, Int.reduceLE, Int.reduceAdd, Int.reduceSub, Int.reduceMul, Int.reduceNeg, Int.reduceToNat, Int.reduceEq, Int.reduceBEq, Int.reduceBNe, Nat.reduceBEq, beq_self_eq_true, bne_self_eq_false] | ((with_reducible refine useF (hl) ?_ ?_ ?_); (focus exact rfl); (focus exact rfl)) | with_reducible refine vcond_split (fun _ => ?_) (fun _ => ?_) | with_reducible refine vg_split (fun _ => ?_) (fun _ => ?_) | ((with_reducible apply DCalls.frz); (focus exact rfl); (focus exact rfl)) | ((with_reducible refine And.intro ?_ ?_); (focus (first | omega | decide | assumption | (simp only [decide_eq_true_eq, decide_eq_false_iff_not] at *; omega)))))
    all_goals simp

theorem nameBelow_c {p q : List UInt8} (hpl : p.length ≤ 1000000000) : DCalls Tryz.prog 105 [.c (.p (.s p)), .c (.p (.s q))] [] fun r h => r = .c (.p (.b (belowR p q))) ∧ h = [] := by
  by_cases hp : p = []
  · subst hp
    refine ent tabOK hmix Tryz.func105 rfl rfl fun X0 hX => ?_
    simp only [Tryz.ntmps105, Tryz.f105, go_sem]
    repeat' (first | simp (maxSteps := 1000000) only [*, go_sem, Nat.reduceLT, Nat.reduceLeDiff, Nat.reduceEqDiff, ↓reduceIte, Nat.reduceAdd, Nat.reduceSub, Nat.reduceMul, Int.reduceLT, Int.reduceLE, Int.reduceAdd, Int.reduceSub, Int.reduceMul, Int.reduceNeg, Int.reduceToNat, Int.reduceEq, Int.reduceBEq, Int.reduceBNe, Nat.reduceBEq, beq_self_eq_true, bne_self_eq_false] | with_reducible refine vcond_split (fun _ => ?_) (fun _ => ?_) | with_reducible refine vg_split (fun _ => ?_) (fun _ => ?_) | ((with_reducible apply DCalls.frz); (focus exact rfl); (focus exact rfl)) | ((with_reducible refine And.intro ?_ ?_); (focus (first | omega | decide | assumption | (simp only [decide_eq_true_eq, decide_eq_false_iff_not] at *; omega)))))
    all_goals simp [belowR]
  · have q0 : (p == []) = false := by simpa using hp
    have hb := below_prefix (q := q) hp
    refine ent tabOK hmix Tryz.func105 rfl rfl fun X0 hX => ?_
    simp only [Tryz.ntmps105, Tryz.f105, go_sem]
    repeat' (first | simp (maxSteps := 1000000) only [*, go_sem, Nat.reduceLT, Nat.reduceLeDiff, Nat.reduceEqDiff, ↓reduceIte, Nat.reduceAdd, Nat.reduceSub, Nat.reduceMul, Int.reduceLT, Int.reduceLE, Int.reduceAdd, Int.reduceSub, Int.reduceMul, Int.reduceNeg, Int.reduceToNat, Int.reduceEq, Int.reduceBEq, Int.reduceBNe, Nat.reduceBEq, beq_self_eq_true, bne_self_eq_false] | ((with_reducible refine useF (hasPrefix_c) ?_ ?_ ?_); (focus exact rfl); (focus exact rfl)) | with_reducible refine vcond_split (fun _ => ?_) (fun _ => ?_) | with_reducible refine vg_split (fun _ => ?_) (fun _ => ?_) | ((with_reducible apply DCalls.frz); (focus exact rfl); (focus exact rfl)) | ((with_reducible refine And.intro ?_ ?_); (focus (first | omega | decide | assumption | (simp only [decide_eq_true_eq, decide_eq_false_iff_not] at *; omega)))))

theorem treeIsDir_c {t : List It} {p : List UInt8} (ht : t.length ≤ 1000000) (hs : Srt t) :
    DCalls Tryz.prog 55 [.c (.p (.sl 5 (encT t))), .c (.p (.s p))] [] fun r h => r = .c (.p (.b (isDirR t p))) ∧ h = [] := by
  refine ent tabOK hmix Tryz.func55 rfl rfl fun X0 hX => ?_
  simp only [Tryz.ntmps55, Tryz.f55, go_sem]
  repeat' (first | simp (maxSteps := 1000000) only [*, go_sem, Nat.reduceLT, Nat.reduceLeDiff, Nat.reduceEqDiff, ↓reduceIte, Nat.reduceAdd, Nat.reduceSub, Nat.reduceMul, Int.reduceLT, Int.reduceLE, Int.reduceAdd, Int.reduceSub, Int.reduceMul, Int.reduceNeg, Int.reduceToNat, Int.reduceEq, Int.reduceBEq, Int.reduceBNe, Nat.reduceBEq, beq_self_eq_true, bne_self_eq_false] | with_reducible refine vcond_split (fun _ => ?_) (fun _ => ?_) | with_reducible refine vg_split (fun _ => ?_) (fun _ => ?_) | ((with_reducible apply DCalls.frz); (focus exact rfl); (focus exact rfl)) | ((with_reducible refine And.intro ?_ ?_); (focus (first | omega | decide | assumption | (simp only [decide_eq_true_eq, decide_eq_false_iff_not] at *; omega)))))
  refine useFE (find_c ht hs) rfl (fun _ _ => rfl) fun i hi => ?_
  unfold findE isDirR
  cases hf : foundF t p i
  · have hg := find_no hs hi hf
    rw [hg]
    cases q : (p == [])
    · repeat' (first | simp (maxSteps := 1000000) only [*, go_sem, Nat.reduceLT, Nat.reduceLeDiff, Nat.reduceEqDiff, ↓reduceIte, Nat.reduceAdd, Nat.reduceSub, Nat.reduceMul, Int.reduceLT, Int.reduceLE, Int.reduceAdd, Int.reduceSub, Int.reduceMul, Int.reduceNeg, Int.reduceToNat, Int.reduceEq, Int.reduceBEq, Int.reduceBNe, Nat.reduceBEq, beq_self_eq_true, bne_self_eq_false] | with_reducible refine vcond_split (fun _ => ?_) (fun _ => ?_) | with_reducible refine vg_split (fun _ => ?_) (fun _ => ?_) | ((with_reducible apply DCalls.frz); (focus exact rfl); (focus exact rfl)) | ((with_reducible refine And.intro ?_ ?_); (focus (first | omega | decide | assumption | (simp only [decide_eq_true_eq, decide_eq_false_iff_not] at *; omega)))))
    · repeat' (first | simp (maxSteps := 1000000) only [*, go_sem, Nat.reduceLT, Nat.reduceLeDiff, Nat.reduceEqDiff, ↓reduceIte, Nat.reduceAdd, Nat.reduceSub, Nat.reduceMul, Int.reduceLT, Int.reduceLE, Int.reduceAdd, Int.reduceSub, Int.reduceMul, Int.reduceNeg, Int.reduceToNat, Int.reduceEq, Int.reduceBEq, Int.reduceBNe, Nat.reduceBEq, beq_self_eq_true, bne_self_eq_false] | with_reducible refine vcond_split (fun _ => ?_) (fun _ => ?_) | with_reducible refine vg_split (fun _ => ?_) (fun _ => ?_) | ((with_reducible apply DCalls.frz); (focus exact rfl); (focus exact rfl)) | ((with_reducible refine And.intro ?_ ?_); (focus (first | omega | decide | assumption | (simp only [decide_eq_true_eq, decide_eq_false_iff_not] at *; omega)))))
  · unfold foundF at hf
    cases hx : t[i]? with
    | none => rw [hx] at hf; cases hf
    | some x =>
      rw [hx] at hf
      simp only at hf
      have hg := getR_at hs hx hf
      have he := encT_at hx
      have hil : (i : Int) < t.length := by have := (List.getElem?_eq_some_iff.1 hx).1; omega
      have hi0 : (0 : Int) ≤ i := by omega
      rw [hg]
      clear hg hf hi
      cases q : (p == [])
      · repeat' (first | simp (maxSteps := 1000000) only [*, go_sem, Nat.reduceLT, Nat.reduceLeDiff, Nat.reduceEqDiff, ↓reduceIte, Nat.reduceAdd, Nat.reduceSub, Nat.reduceMul, Int.reduceLT, Int.reduceLE, Int.reduceAdd, Int.reduceSub, Int.reduceMul, Int.reduceNeg, Int.reduceToNat, Int.reduceEq, Int.reduceBEq, Int.reduceBNe, Nat.reduceBEq, beq_self_eq_true, bne_self_eq_false] | with_reducible refine vcond_split (fun _ => ?_) (fun _ => ?_) | with_reducible refine vg_split (fun _ => ?_) (fun _ => ?_) | ((with_reducible apply DCalls.frz); (focus exact rfl); (focus exact rfl)) | ((with_reducible refine And.intro ?_ ?_); (focus (first | omega | decide | assumption | (simp only [decide_eq_true_eq, decide_eq_false_iff_not] at *; omega)))))
      · repeat' (first | simp (maxSteps := 1000000) only [*, go_sem, Nat.reduceLT, Nat.reduceLeDiff, Nat.reduceEqDiff, ↓reduceIte, Nat.reduceAdd, Nat.reduceSub, Nat.reduceMul, Int.reduceLT, Int.reduceLE, Int.reduceAdd, Int.reduceSub, Int.reduceMul, Int.reduceNeg, Int.reduceToNat, Int.reduceEq, Int.reduceBEq, Int.reduceBNe, Nat.reduceBEq, beq_self_eq_true, bne_self_eq_false] | with_reducible refine vcond_split (fun _ => ?_) (fun _ => ?_) | with_reducible refine vg_split (fun _ => ?_) (fun _ => ?_) | ((with_reducible apply DCalls.frz); (focus exact rfl); (focus exact rfl)) | ((with_reducible refine And.intro ?_ ?_); (focus (first | omega | decide | assumption | (simp only [decide_eq_true_eq, decide_eq_false_iff_not] at *; omega)))))

theorem treeRight_c {t : List It} (h : OkT t) : DCalls Tryz.prog 29 [.c (.p (.sl 5 (encT t)))] [] fun r h => r = .c (.p (.b true)) ∧ h = [] := by
  have hl := h.len
  refine ent tabOK hmix Tryz.func29 rfl rfl fun X0 hX => ?_
  simp only [Tryz.ntmps29, Tryz.f29, go_sem]
  repeat' (first | simp (maxSteps := 1000000) only [*, go_sem, Nat.reduceLT, Nat.reduceLeDiff, Nat.reduceEqDiff, ↓reduceIte, Nat.reduceAdd, Nat.reduceSub, Nat.reduceMul, Int.reduceLT, Int.reduceLE, Int.reduceAdd, Int.reduceSub, Int.reduceMul, Int.reduceNeg, Int.reduceToNat, Int.reduceEq, Int.reduceBEq, Int.reduceBNe, Nat.reduceBEq, beq_self_eq_true, bne_self_eq_false] | with_reducible refine vcond_split (fun _ => ?_) (fun _ => ?_) | with_reducible refine vg_split (fun _ => ?_) (fun _ => ?_) | ((with_reducible apply DCalls.frz); (focus exact rfl); (focus exact rfl)) | ((with_reducible refine And.intro ?_ ?_); (focus (first | omega | decide | assumption | (simp only [decide_eq_true_eq, decide_eq_false_iff_not] at *; omega)))))
  refine loop_ren tabOK hmix (α := Nat) (fun k => ⟨56, [(0, .c (.p (.sl 5 (encT t)))), (5, .c (.p (.sl 5 (encT t)))), (6, .c (.p (.i .i64 t.length))), (7, .c (.p (.i .i64 k)))], []⟩)
    (fun k => k ≤ t.length) (fun k => t.length - k) 0 (Nat.zero_le _) (.inl (weak_mk (by rw [hX]; rfl) rfl rfl (by simp [wk_cons, wk_nil, look_cons, closedD, closedC, encT_nil, encS_nil, encC_nil]))) ?_
  intro k hk
  by_cases hlt : k < t.length
  · have hx : t[k]? = some t[k] := List.getElem?_eq_getElem hlt
    have hg := encT_at hx
    have h1 : decide ((k : Int) < (t.length : Int)) = true := decide_eq_true (by omega)
    have hki : (k : Int) ≤ (t.length : Int) := by omega
    have w1 : IntKind.i64.wrap ((k : Int) + 1) = k + 1 := wrap_i64 (by omega) (by omega)
    have hk0 : (0 : Int) ≤ k := by omega
    have prev : decide ((0 : Int) < k) = false ∨ ∃ m : Nat, ∃ y : It, decide ((0 : Int) < k) = true ∧ IntKind.i64.wrap ((k : Int) - 1) = (m : Int) ∧ (m : Int) < t.length ∧ t[m]? = some y ∧ (bltL t[k].p y.p || t[k].p == y.p) = false := by
      by_cases h0 : 0 < k
      · have hmk : k - 1 < t.length := by omega
        have h3 := List.pairwise_iff_getElem.1 h.srt (k - 1) k hmk hlt (by omega)
        refine .inr ⟨k - 1, t[k - 1], decide_eq_true (by omega), ?_, by omega, List.getElem?_eq_getElem hmk, ?_⟩
        · rw [wrap_i64 (by omega) (by omega)]; omega
        · rw [blt_asymm h3, Bool.false_or]
          cases he : (t[k].p == t[k - 1].p)
          · rfl
          · rw [eq_of_beq he, blt_irrefl] at h3; cases h3
      · exact .inl (decide_eq_false (by omega))
    obtain ⟨i1, i2, i3, i4⟩ := h.its _ (List.getElem_mem hlt)
    have i1' : (t[k].p == []) = false := by simpa using i1
    have hpl := isPathR_len i2
    have hdir := isDir_take h hx
    have hst : Srt (t.take k) := h.srt.sublist (List.take_sublist k t)
    have hisd := treeIsDir_c (t := t.take k) (p := dirOfR t[k].p) (by rw [List.length_take]; omega) hst
    rw [hdir] at hisd
    have htk : (encT t).take k = encT (t.take k) := encT_take t k
    generalize t[k] = x at hx hg prev i1 i2 i3 i4 i1' hpl hdir hisd
    clear hdir hst h i1
    rcases prev with b1 | ⟨m, y, b1, b2, b3, b4, b5⟩
    · repeat' (first | simp (maxSteps := 1000000) only [*, go_sem, Nat.reduceLT, Nat.reduceLeDiff, Nat.reduceEqDiff, ↓reduceIte, Nat.reduceAdd, Nat.reduceSub, Nat.reduceMul, Int.reduceLT, Int.reduceLE, Int.reduceAdd, Int.reduceSub, Int.reduceMul, Int.reduceNeg, Int.reduceToNat, Int.reduceEq, Int.reduceBEq, Int.reduceBNe, Nat.reduceBEq, beq_self_eq_true, bne_self_eq_false, Bool.not_true, Bool.not_false] | ((with_reducible refine useF (isPath_c (by omega)) ?_ ?_ ?_); (focus exact rfl); (focus exact rfl)) | ((with_reducible refine useF (nodeRight_c i4) ?_ ?_ ?_); (focus exact rfl); (focus exact rfl)) | ((with_reducible refine useF (nameDir_c (by omega)) ?_ ?_ ?_); (focus exact rfl); (focus exact rfl)) | ((with_reducible refine useF (hisd) ?_ ?_ ?_); (focus exact rfl); (focus exact rfl)) | ((refine vc_drawn (id := 4) tabOK hmix [] [0,1,2,3,4,5,6,7,8,9,10,11,12,13,14,15,16,17,18,19,20,21,22,23,24,25,26,27,28,29,30,31,32,33,34,35,36,37,38,39] (by decide +kernel) ?_); (repeat' (first | (refine ds_nil ?_) | ((refine ds_one ?_ rfl rfl ?_ ?_); (rotate_left 1); (focus ((repeat' (first | simp (maxSteps := 1000000) only [*, go_sem, Nat.reduceLT, Nat.reduceLeDiff, Nat.reduceEqDiff, ↓reduceIte, Nat.reduceAdd, Nat.reduceSub, Nat.reduceMul, Int.reduceLT, Int.reduceLE, Int.reduceAdd, Int.reduceSub, Int.reduceMul, Int.reduceNeg, Int.reduceToNat, Int.reduceEq, Int.reduceBEq, Int.reduceBNe, Nat.reduceBEq, beq_self_eq_true, bne_self_eq_false, Bool.not_true, Bool.not_false] | ((with_reducible refine useF (isPath_c (by omega)) ?_ ?_ ?_); (focus exact rfl); (focus exact rfl)) | ((with_reducible refine useF (nodeRight_c i4) ?_ ?_ ?_); (focus exact rfl); (focus exact rfl)) | ((with_reducible refine useF (nameDir_c (by omega)) ?_ ?_ ?_); (focus exact rfl); (focus exact rfl)) | ((with_reducible refine useF (hisd) ?_ ?_ ?_); (focus exact rfl); (focus exact rfl)) | with_reducible refine vcond_split (fun _ => ?_) (fun _ => ?_) | with_reducible refine vg_split (fun _ => ?_) (fun _ => ?_) | ((with_reducible apply DCalls.frz); (focus exact rfl); (focus exact rfl)) | ((with_reducible refine And.intro ?_ ?_); (focus (first | omega | decide | assumption | (simp only [decide_eq_true_eq, decide_eq_false_iff_not] at *; omega)))))); exact rfl)); (simp only [putF_some, putF_none]))))) | with_reducible refine vcond_split (fun _ => ?_) (fun _ => ?_) | with_reducible refine vg_split (fun _ => ?_) (fun _ => ?_) | ((with_reducible apply DCalls.frz); (focus exact rfl); (focus exact rfl)) | ((with_reducible refine And.intro ?_ ?_); (focus (first | omega | decide | assumption | (simp only [decide_eq_true_eq, decide_eq_false_iff_not] at *; omega)))))
      exact qr_n (k + 1) (by omega) (by omega) (weak_mk rfl rfl rfl (by simp [wk_cons, wk_nil, look_cons, closedD, closedC, renT, renD, renC, encT_nil, encS_nil, encC_nil]))
    · have hgy := encT_at b4
      repeat' (first | simp (maxSteps := 1000000) only [*, go_sem, Nat.reduceLT, Nat.reduceLeDiff, Nat.reduceEqDiff, ↓reduceIte, Nat.reduceAdd, Nat.reduceSub, Nat.reduceMul, Int.reduceLT, Int.reduceLE, Int.reduceAdd, Int.reduceSub, Int.reduceMul, Int.reduceNeg, Int.reduceToNat, Int.reduceEq, Int.reduceBEq, Int.reduceBNe, Nat.reduceBEq, beq_self_eq_true, bne_self_eq_false, Bool.not_true, Bool.not_false] | ((with_reducible refine useF (isPath_c (by omega)) ?_ ?_ ?_); (focus exact rfl); (focus exact rfl)) | ((with_reducible refine useF (nodeRight_c i4) ?_ ?_ ?_); (focus exact rfl); (focus exact rfl)) | ((with_reducible refine useF (nameDir_c (by omega)) ?_ ?_ ?_); (focus exact rfl); (focus exact rfl)) | ((with_reducible refine useF (hisd) ?_ ?_ ?_); (focus exact rfl); (focus exact rfl)) | ((refine vc_drawn (id := 4) tabOK hmix [] [0,1,2,3,4,5,6,7,8,9,10,11,12,13,14,15,16,17,18,19,20,21,22,23,24,25,26,27,28,29,30,31,32,33,34,35,36,37,38,39] (by decide +kernel) ?_); (repeat' (first | (refine ds_nil ?_) | ((refine ds_one ?_ rfl rfl ?_ ?_); (rotate_left 1); (focus ((repeat' (first | simp (maxSteps := 1000000) only [*, go_sem, Nat.reduceLT, Nat.reduceLeDiff, Nat.reduceEqDiff, ↓reduceIte, Nat.reduceAdd, Nat.reduceSub, Nat.reduceMul, Int.reduceLT, Int.reduceLE, Int.reduceAdd, Int.reduceSub, Int.reduceMul, Int.reduceNeg, Int.reduceToNat, Int.reduceEq, Int.reduceBEq, Int.reduceBNe, Nat.reduceBEq, beq_self_eq_true, bne_self_eq_false, Bool.not_true, Bool.not_false] | ((with_reducible refine useF (isPath_c (by omega)) ?_ ?_ ?_); (focus exact rfl); (focus exact rfl)) | ((with_reducible refine useF (nodeRight_c i4) ?_ ?_ ?_); (focus exact rfl); (focus exact rfl)) | ((with_reducible refine useF (nameDir_c (by omega)) ?_ ?_ ?_); (focus exact rfl); (focus exact rfl)) | ((with_reducible refine useF (hisd) ?_ ?_ ?_); (focus exact rfl); (focus exact rfl)) | with_reducible refine vcond_split (fun _ => ?_) (fun _ => ?_) | with_reducible refine vg_split (fun _ => ?_) (fun _ => ?_) | ((with_reducible apply DCalls.frz); (focus exact rfl); (focus exact rfl)) | ((with_reducible refine And.intro ?_ ?_); (focus (first | omega | decide | assumption | (simp only [decide_eq_true_eq, decide_eq_false_iff_not] at *; omega)))))); exact rfl)); (simp only [putF_some, putF_none]))))) | with_reducible refine vcond_split (fun _ => ?_) (fun _ => ?_) | with_reducible refine vg_split (fun _ => ?_) (fun _ => ?_) | ((with_reducible apply DCalls.frz); (focus exact rfl); (focus exact rfl)) | ((with_reducible refine And.intro ?_ ?_); (focus (first | omega | decide | assumption | (simp only [decide_eq_true_eq, decide_eq_false_iff_not] at *; omega)))))
      exact qr_n (k + 1) (by omega) (by omega) (weak_mk rfl rfl rfl (by simp [wk_cons, wk_nil, look_cons, closedD, closedC, renT, renD, renC, encT_nil, encS_nil, encC_nil]))
  · have h1 : decide ((k : Int) < (t.length : Int)) = false := decide_eq_false (by omega)
    have h2 : decide ((t.length : Int) ≤ 120) = true := decide_eq_true (by omega)
    repeat' (first | simp (maxSteps := 1000000) only [*, go_sem, Nat.reduceLT, Nat.reduceLeDiff, Nat.reduceEqDiff, ↓reduceIte, Nat.reduceAdd, Nat.reduceSub, Nat.reduceMul, Int.reduceLT, Int.reduceLE, Int.reduceAdd, Int.reduceSub, Int.reduceMul, Int.reduceNeg, Int.reduceToNat, Int.reduceEq, Int.reduceBEq, Int.reduceBNe, Nat.reduceBEq, beq_self_eq_true, bne_self_eq_false] | with_reducible refine vcond_split (fun _ => ?_) (fun _ => ?_) | with_reducible refine vg_split (fun _ => ?_) (fun _ => ?_) | ((with_reducible apply DCalls.frz); (focus exact rfl); (focus exact rfl)) | ((with_reducible refine And.intro ?_ ?_); (focus (first | omega | decide | assumption | (simp only [decide_eq_true_eq, decide_eq_false_iff_not] at *; omega)))))

end Go.Proofs.YtnbgaphhhjnjlaaGreatDoor

end

section
/-
  Contracts of the program's trees: what goes, names.
-/

set_option linter.unusedSimpArgs false
set_option linter.unusedVariables false
namespace Go.Proofs.YtnbgaphhhjnjlaaGreatDoor
open Go Go.Dm
set_option maxRecDepth 100000
set_option maxHeartbeats 4000000

theorem copyT_c {t : List It} (ht : t.length ≤ 1000000) (hd : ∀ x ∈ t, x.n.d.length ≤ 140737488355328) :
    DCalls Tryz.prog 31 [.c (.p (.sl 5 (encT t)))] [] fun r h => r = .c (.own 0 0 t.length) ∧ h = [.arr 5 (encT t) false] := by
  refine entO tabOK hmix Tryz.func31 rfl rfl fun X0 hX => ?_
  simp only [Tryz.ntmps31, Tryz.f31, go_sem]
  repeat' (first | simp (maxSteps := 1000000) only [*, go_sem, Nat.reduceLT, Nat.reduceLeDiff, Nat.reduceEqDiff, ↓reduceIte, Nat.reduceAdd, Nat.reduceSub, Nat.reduceMul, Int.reduceLT, Int.reduceLE, Int.reduceAdd, Int.reduceSub, Int.reduceMul, Int.reduceNeg, Int.reduceToNat, Int.reduceEq, Int.reduceBEq, Int.reduceBNe, Nat.reduceBEq, beq_self_eq_true, bne_self_eq_false] | with_reducible refine vcond_split (fun _ => ?_) (fun _ => ?_) | with_reducible refine vg_split (fun _ => ?_) (fun _ => ?_) | ((with_reducible apply DCalls.frz); (focus exact rfl); (focus exact rfl)) | ((with_reducible refine And.intro ?_ ?_); (focus (first | omega | decide | assumption | (simp only [decide_eq_true_eq, decide_eq_false_iff_not] at *; omega)))))
  refine vc_virt tabOK hmix 3 5 rfl ?_
  refine loop_ren tabOK hmix (α := Nat) (fun k => ⟨23, [(6, .c (.p (.sl 5 (encT t)))), (7, .c (.p (.i .i64 t.length))), (8, .c (.p (.i .i64 k))), (3, .c (.own 0 0 k))], [.arr 5 (encT (t.take k)) false]⟩)
    (fun k => k ≤ t.length) (fun k => t.length - k) 0 (Nat.zero_le _) (.inl (weak_mk (by rw [hX]; rfl) rfl rfl (by simp [wk_cons, wk_nil, look_cons, closedD, closedC, encT_nil, encS_nil, encC_nil]))) ?_
  intro k hk
  have hmn : min k t.length = k := Nat.min_eq_left hk
  have hln : (t.take k).length = k := by rw [List.length_take, hmn]
  by_cases hlt : k < t.length
  · have hx : t[k]? = some t[k] := List.getElem?_eq_getElem hlt
    have hg := encT_at hx
    have h1 : decide ((k : Int) < (t.length : Int)) = true := decide_eq_true (by omega)
    have w1 : IntKind.i64.wrap ((k : Int) + 1) = k + 1 := wrap_i64 (by omega) (by omega)
    have hnx : t.take (k + 1) = t.take k ++ [⟨t[k].p, t[k].n⟩] := by rw [List.take_add_one, hx]; rfl
    have hdx := hd _ (List.getElem_mem hlt)
    generalize t[k] = x at hx hg hnx hdx
    generalize hrow : t.take k = row at hln hnx
    clear hx hrow hd
    repeat' (first | simp (maxSteps := 1000000) only [*, go_sem, Nat.reduceLT, Nat.reduceLeDiff, Nat.reduceEqDiff, ↓reduceIte, Nat.reduceAdd, Nat.reduceSub, Nat.reduceMul, Int.reduceLT, Int.reduceLE, Int.reduceAdd, Int.reduceSub, Int.reduceMul, Int.reduceNeg, Int.reduceToNat, Int.reduceEq, Int.reduceBEq, Int.reduceBNe, Nat.reduceBEq, beq_self_eq_true, bne_self_eq_false] | ((with_reducible refine useN (copy_c hdx) ?_ ?_ ?_); (focus exact rfl); (focus exact fun _ => rfl)) | ((refine vc_drawn (id := 5) tabOK hmix [7,8] [1,2,3,4,5,6,7,0,8,9] (by decide +kernel) ?_); (repeat' (first | (refine ds_nil ?_) | ((refine ds_chg ?_ ?_ rfl rfl rfl ?_ ?_); (rotate_left 2); (focus ((repeat' (first | simp (maxSteps := 1000000) only [*, go_sem, Nat.reduceLT, Nat.reduceLeDiff, Nat.reduceEqDiff, ↓reduceIte, Nat.reduceAdd, Nat.reduceSub, Nat.reduceMul, Int.reduceLT, Int.reduceLE, Int.reduceAdd, Int.reduceSub, Int.reduceMul, Int.reduceNeg, Int.reduceToNat, Int.reduceEq, Int.reduceBEq, Int.reduceBNe, Nat.reduceBEq, beq_self_eq_true, bne_self_eq_false] | ((with_reducible refine useN (copy_c hdx) ?_ ?_ ?_); (focus exact rfl); (focus exact fun _ => rfl)) | with_reducible refine vcond_split (fun _ => ?_) (fun _ => ?_) | with_reducible refine vg_split (fun _ => ?_) (fun _ => ?_) | ((with_reducible apply DCalls.frz); (focus exact rfl); (focus exact rfl)) | ((with_reducible refine And.intro ?_ ?_); (focus (first | omega | decide | assumption | (simp only [decide_eq_true_eq, decide_eq_false_iff_not] at *; omega)))))); (first | exact rfl | (refine And.intro ?_ ?_ <;> exact rfl)))); (simp only [putF_some, putF_none])) | ((refine ds_all ?_ rfl rfl rfl ?_ ?_); (rotate_left 1); (focus ((repeat' (first | exact allH_nil | refine allH_cons ?_ ?_)); (all_goals ((repeat' (first | simp (maxSteps := 1000000) only [*, go_sem, Nat.reduceLT, Nat.reduceLeDiff, Nat.reduceEqDiff, ↓reduceIte, Nat.reduceAdd, Nat.reduceSub, Nat.reduceMul, Int.reduceLT, Int.reduceLE, Int.reduceAdd, Int.reduceSub, Int.reduceMul, Int.reduceNeg, Int.reduceToNat, Int.reduceEq, Int.reduceBEq, Int.reduceBNe, Nat.reduceBEq, beq_self_eq_true, bne_self_eq_false] | ((with_reducible refine useN (copy_c hdx) ?_ ?_ ?_); (focus exact rfl); (focus exact fun _ => rfl)) | with_reducible refine vcond_split (fun _ => ?_) (fun _ => ?_) | with_reducible refine vg_split (fun _ => ?_) (fun _ => ?_) | ((with_reducible apply DCalls.frz); (focus exact rfl); (focus exact rfl)) | ((with_reducible refine And.intro ?_ ?_); (focus (first | omega | decide | assumption | (simp only [decide_eq_true_eq, decide_eq_false_iff_not] at *; omega)))))); (try (first | exact rfl | omega)))))); (simp only [putF_some, putF_none]))))) | with_reducible refine vcond_split (fun _ => ?_) (fun _ => ?_) | with_reducible refine vg_split (fun _ => ?_) (fun _ => ?_) | ((with_reducible apply DCalls.frz); (focus exact rfl); (focus exact rfl)) | ((with_reducible refine And.intro ?_ ?_); (focus (first | omega | decide | assumption | (simp only [decide_eq_true_eq, decide_eq_false_iff_not] at *; omega)))))
    exact qr_ren (k + 1) 0 3 (by omega) (by omega) rfl rfl (weak_mk rfl (by rw [hnx]; rfl) rfl (by simp [wk_cons, wk_nil, look_cons, closedD, closedC, renT, renD, renC, encT_nil, encS_nil, encC_nil]))
  · have h1 : decide ((k : Int) < (t.length : Int)) = false := decide_eq_false (by omega)
    have hk2 : k = t.length := by omega
    subst hk2
    rw [List.take_length]
    clear hln hmn
    repeat' (first | simp (maxSteps := 1000000) only [*, go_sem, Nat.reduceLT, Nat.reduceLeDiff, Nat.reduceEqDiff, ↓reduceIte, Nat.reduceAdd, Nat.reduceSub, Nat.reduceMul, Int.reduceLT, Int.reduceLE, Int.reduceAdd, Int.reduceSub, Int.reduceMul, Int.reduceNeg, Int.reduceToNat, Int.reduceEq, Int.reduceBEq, Int.reduceBNe, Nat.reduceBEq, beq_self_eq_true, bne_self_eq_false] | with_reducible refine vcond_split (fun _ => ?_) (fun _ => ?_) | with_reducible refine vg_split (fun _ => ?_) (fun _ => ?_) | ((with_reducible apply DCalls.frz); (focus exact rfl); (focus exact rfl)) | ((with_reducible refine And.intro ?_ ?_); (focus (first | omega | decide | assumption | (simp only [decide_eq_true_eq, decide_eq_false_iff_not] at *; omega)))))
    exact ⟨rfl, Nat.zero_le _, rfl, _, _, rfl, rfl, rfl⟩

/-- What goes with a path. -/
def goF (p : List UInt8) (it : Bool) (x : It) : Bool := belowR p x.p || (it && x.p == p)

theorem del1_c {q p : List UInt8} {it : Bool} {k m : Int} {tt : Nat} {d : List UInt8} {es : List (List PV)} (hp : p.length ≤ 1000000000) :
    DCalls Tryz.prog 135 [.agg [.p (.s q), .p (.i .i64 k), .p (.i .i64 m), .p (.f tt), .p (.sl 1 (encB d))], .c (.ptr 0 0), .c (.ptr 1 0)] [.box [.p (.s p)], .box [.p (.b it)], .arr 5 es false]
      fun r h => r = .c (.p (.b (belowR p q || (it && q == p)))) ∧ h = [.box [.p (.s p)], .box [.p (.b it)], .arr 5 es false] := by
  refine ent tabOK hmix Tryz.func135 rfl rfl fun X0 hX => ?_
  simp only [Tryz.ntmps135, Tryz.f135, go_sem]
  repeat' (first | simp (maxSteps := 1000000) only [*, go_sem, Nat.reduceLT, Nat.reduceLeDiff, Nat.reduceEqDiff, ↓reduceIte, Nat.reduceAdd, Nat.reduceSub, Nat.reduceMul, Int.reduceLT, Int.reduceLE, Int.reduceAdd, Int.reduceSub, Int.reduceMul, Int.reduceNeg, Int.reduceToNat, Int.reduceEq, Int.reduceBEq, Int.reduceBNe, Nat.reduceBEq, beq_self_eq_true, bne_self_eq_false, closedB, closedC] | ((with_reducible refine useF (nameBelow_c hp) ?_ ?_ ?_); (focus exact rfl); (focus exact rfl)) | with_reducible refine vcond_split (fun _ => ?_) (fun _ => ?_) | with_reducible refine vg_split (fun _ => ?_) (fun _ => ?_) | ((with_reducible apply DCalls.frz); (focus exact rfl); (focus exact rfl)) | ((with_reducible refine And.intro ?_ ?_); (focus (first | omega | decide | assumption | (simp only [decide_eq_true_eq, decide_eq_false_iff_not] at *; omega)))))
  all_goals simp_all

theorem del2_c {q p : List UInt8} {it : Bool} {k m : Int} {tt : Nat} {d : List UInt8} {es : List (List PV)} (hp : p.length ≤ 1000000000) :
    DCalls Tryz.prog 135 [.agg [.p (.s q), .p (.i .i64 k), .p (.i .i64 m), .p (.f tt), .p (.sl 1 (encB d))], .c (.ptr 0 0), .c (.ptr 1 0)] [.box [.p (.s p)], .box [.p (.b it)], .arr 5 es false, .box [.p (.s q), .p (.i .i64 k), .p (.i .i64 m), .p (.f tt), .p (.sl 1 (encB d))]]
      fun r h => r = .c (.p (.b (belowR p q || (it && q == p)))) ∧ h = [.box [.p (.s p)], .box [.p (.b it)], .arr 5 es false, .box [.p (.s q), .p (.i .i64 k), .p (.i .i64 m), .p (.f tt), .p (.sl 1 (encB d))]] := by
  refine ent tabOK hmix Tryz.func135 rfl rfl fun X0 hX => ?_
  simp only [Tryz.ntmps135, Tryz.f135, go_sem]
  repeat' (first | simp (maxSteps := 1000000) only [*, go_sem, Nat.reduceLT, Nat.reduceLeDiff, Nat.reduceEqDiff, ↓reduceIte, Nat.reduceAdd, Nat.reduceSub, Nat.reduceMul, Int.reduceLT, Int.reduceLE, Int.reduceAdd, Int.reduceSub, Int.reduceMul, Int.reduceNeg, Int.reduceToNat, Int.reduceEq, Int.reduceBEq, Int.reduceBNe, Nat.reduceBEq, beq_self_eq_true, bne_self_eq_false, closedB, closedC] | ((with_reducible refine useF (nameBelow_c hp) ?_ ?_ ?_); (focus exact rfl); (focus exact rfl)) | with_reducible refine vcond_split (fun _ => ?_) (fun _ => ?_) | with_reducible refine vg_split (fun _ => ?_) (fun _ => ?_) | ((with_reducible apply DCalls.frz); (focus exact rfl); (focus exact rfl)) | ((with_reducible refine And.intro ?_ ?_); (focus (first | omega | decide | assumption | (simp only [decide_eq_true_eq, decide_eq_false_iff_not] at *; omega)))))
  all_goals simp_all

theorem index_c {t : List It} {p : List UInt8} {it : Bool} (hp : p.length ≤ 1000000000) (ht : t.length ≤ 1000000) :
    DCalls Tryz.prog 161 [.c (.own 2 0 t.length), .c (.clo 135 [.ptr 0 0, .ptr 1 0])] [.box [.p (.s p)], .box [.p (.b it)], .arr 5 (encT t) false]
      fun r h => (∃ i : Nat, i ≤ t.length ∧ (∀ j x, t[j]? = some x → j < i → goF p it x = false) ∧ ((∃ x, t[i]? = some x ∧ goF p it x = true ∧ r = .c (.p (.i .i64 i))) ∨ (i = t.length ∧ r = .c (.p (.i .i64 (-1)))))) ∧ h = [.box [.p (.s p)], .box [.p (.b it)], .arr 5 (encT t) false] := by
  refine ent tabOK hmix Tryz.func161 rfl rfl fun X0 hX => ?_
  simp only [Tryz.ntmps161, Tryz.f161, go_sem]
  repeat' (first | simp (maxSteps := 1000000) only [*, go_sem, Nat.reduceLT, Nat.reduceLeDiff, Nat.reduceEqDiff, ↓reduceIte, Nat.reduceAdd, Nat.reduceSub, Nat.reduceMul, Int.reduceLT, Int.reduceLE, Int.reduceAdd, Int.reduceSub, Int.reduceMul, Int.reduceNeg, Int.reduceToNat, Int.reduceEq, Int.reduceBEq, Int.reduceBNe, Nat.reduceBEq, beq_self_eq_true, bne_self_eq_false] | with_reducible refine vcond_split (fun _ => ?_) (fun _ => ?_) | with_reducible refine vg_split (fun _ => ?_) (fun _ => ?_) | ((with_reducible apply DCalls.frz); (focus exact rfl); (focus exact rfl)) | ((with_reducible refine And.intro ?_ ?_); (focus (first | omega | decide | assumption | (simp only [decide_eq_true_eq, decide_eq_false_iff_not] at *; omega)))))
  refine loop_ren tabOK hmix (α := Nat) (fun k => ⟨19, [(0, .c (.own 2 0 t.length)), (1, .c (.clo 135 [.ptr 0 0, .ptr 1 0])), (7, .c (.p (.i .i64 t.length))), (8, .c (.p (.i .i64 k)))], [.box [.p (.s p)], .box [.p (.b it)], .arr 5 (encT t) false]⟩)
    (fun k => k ≤ t.length ∧ ∀ j x, t[j]? = some x → j < k → goF p it x = false) (fun k => t.length - k) 0 ⟨Nat.zero_le _, fun j x _ h => by omega⟩ (.inl (weak_mk (by rw [hX]; rfl) rfl rfl (by simp [wk_cons, wk_nil, look_cons, closedD, closedC, closedK, closedB]))) ?_
  rintro k ⟨hk, hs⟩
  by_cases hlt : k < t.length
  · have hx : t[k]? = some t[k] := List.getElem?_eq_getElem hlt
    have hg := encT_at hx
    have h1 : decide ((k : Int) < (t.length : Int)) = true := decide_eq_true (by omega)
    have hli : (k : Int) < (t.length : Int) := by omega
    have w1 : IntKind.i64.wrap ((k : Int) + 1) = k + 1 := wrap_i64 (by omega) (by omega)
    generalize t[k] = x at hx hg
    cases hb : goF p it x
    · have hs' : k + 1 ≤ t.length ∧ ∀ j y, t[j]? = some y → j < k + 1 → goF p it y = false := ⟨by omega, fun j y hy hj => by
        rcases Nat.lt_or_ge j k with h | h
        · exact hs j y hy h
        · have : j = k := by omega
          subst this; rw [hx] at hy; cases hy; exact hb⟩
      have hb2 : (belowR p x.p || (it && x.p == p)) = false := hb
      clear hs hx hb
      repeat' (first | simp (maxSteps := 1000000) only [*, go_sem, Nat.reduceLT, Nat.reduceLeDiff, Nat.reduceEqDiff, ↓reduceIte, Nat.reduceAdd, Nat.reduceSub, Nat.reduceMul, Int.reduceLT, Int.reduceLE, Int.reduceAdd, Int.reduceSub, Int.reduceMul, Int.reduceNeg, Int.reduceToNat, Int.reduceEq, Int.reduceBEq, Int.reduceBNe, Nat.reduceBEq, beq_self_eq_true, bne_self_eq_false] | with_reducible refine vcond_split (fun _ => ?_) (fun _ => ?_) | with_reducible refine vg_split (fun _ => ?_) (fun _ => ?_) | ((with_reducible apply DCalls.frz); (focus exact rfl); (focus exact rfl)) | ((with_reducible refine And.intro ?_ ?_); (focus (first | omega | decide | assumption | (simp only [decide_eq_true_eq, decide_eq_false_iff_not] at *; omega)))))
      refine DCalls.mono (del1_c hp) ?_
      rintro _ _ ⟨rfl, rfl⟩
      rw [hb2]
      repeat' (first | simp (maxSteps := 1000000) only [*, go_sem, Nat.reduceLT, Nat.reduceLeDiff, Nat.reduceEqDiff, ↓reduceIte, Nat.reduceAdd, Nat.reduceSub, Nat.reduceMul, Int.reduceLT, Int.reduceLE, Int.reduceAdd, Int.reduceSub, Int.reduceMul, Int.reduceNeg, Int.reduceToNat, Int.reduceEq, Int.reduceBEq, Int.reduceBNe, Nat.reduceBEq, beq_self_eq_true, bne_self_eq_false] | with_reducible refine vcond_split (fun _ => ?_) (fun _ => ?_) | with_reducible refine vg_split (fun _ => ?_) (fun _ => ?_) | ((with_reducible apply DCalls.frz); (focus exact rfl); (focus exact rfl)) | ((with_reducible refine And.intro ?_ ?_); (focus (first | omega | decide | assumption | (simp only [decide_eq_true_eq, decide_eq_false_iff_not] at *; omega)))))
      exact qr_n (k + 1) hs' (by omega) (weak_mk rfl rfl rfl (by simp [wk_cons, wk_nil, look_cons, closedD, closedC, closedK, closedB]))
    · have hb2 : (belowR p x.p || (it && x.p == p)) = true := hb
      repeat' (first | simp (maxSteps := 1000000) only [*, go_sem, Nat.reduceLT, Nat.reduceLeDiff, Nat.reduceEqDiff, ↓reduceIte, Nat.reduceAdd, Nat.reduceSub, Nat.reduceMul, Int.reduceLT, Int.reduceLE, Int.reduceAdd, Int.reduceSub, Int.reduceMul, Int.reduceNeg, Int.reduceToNat, Int.reduceEq, Int.reduceBEq, Int.reduceBNe, Nat.reduceBEq, beq_self_eq_true, bne_self_eq_false] | with_reducible refine vcond_split (fun _ => ?_) (fun _ => ?_) | with_reducible refine vg_split (fun _ => ?_) (fun _ => ?_) | ((with_reducible apply DCalls.frz); (focus exact rfl); (focus exact rfl)) | ((with_reducible refine And.intro ?_ ?_); (focus (first | omega | decide | assumption | (simp only [decide_eq_true_eq, decide_eq_false_iff_not] at *; omega)))))
      refine DCalls.mono (del1_c hp) ?_
      rintro _ _ ⟨rfl, rfl⟩
      rw [hb2]
      clear hb2
      repeat' (first | simp (maxSteps := 1000000) only [*, go_sem, Nat.reduceLT, Nat.reduceLeDiff, Nat.reduceEqDiff, ↓reduceIte, Nat.reduceAdd, Nat.reduceSub, Nat.reduceMul, Int.reduceLT, Int.reduceLE, Int.reduceAdd, Int.reduceSub, Int.reduceMul, Int.reduceNeg, Int.reduceToNat, Int.reduceEq, Int.reduceBEq, Int.reduceBNe, Nat.reduceBEq, beq_self_eq_true, bne_self_eq_false, closedB, closedC] | with_reducible refine vcond_split (fun _ => ?_) (fun _ => ?_) | with_reducible refine vg_split (fun _ => ?_) (fun _ => ?_) | ((with_reducible apply DCalls.frz); (focus exact rfl); (focus exact rfl)) | ((with_reducible refine And.intro ?_ ?_); (focus (first | omega | decide | assumption | (simp only [decide_eq_true_eq, decide_eq_false_iff_not] at *; omega)))))
      exact ⟨k, hk, hs, .inl ⟨x, hx, hb, rfl⟩⟩
  · have h1 : decide ((k : Int) < (t.length : Int)) = false := decide_eq_false (by omega)
    have hk2 : k = t.length := by omega
    subst hk2
    repeat' (first | simp (maxSteps := 1000000) only [*, go_sem, Nat.reduceLT, Nat.reduceLeDiff, Nat.reduceEqDiff, ↓reduceIte, Nat.reduceAdd, Nat.reduceSub, Nat.reduceMul, Int.reduceLT, Int.reduceLE, Int.reduceAdd, Int.reduceSub, Int.reduceMul, Int.reduceNeg, Int.reduceToNat, Int.reduceEq, Int.reduceBEq, Int.reduceBNe, Nat.reduceBEq, beq_self_eq_true, bne_self_eq_false, closedB, closedC] | with_reducible refine vcond_split (fun _ => ?_) (fun _ => ?_) | with_reducible refine vg_split (fun _ => ?_) (fun _ => ?_) | ((with_reducible apply DCalls.frz); (focus exact rfl); (focus exact rfl)) | ((with_reducible refine And.intro ?_ ?_); (focus (first | omega | decide | assumption | (simp only [decide_eq_true_eq, decide_eq_false_iff_not] at *; omega)))))
    refine ⟨t.length, Nat.le_refl _, hs, .inr ?_⟩
    first | exact ⟨rfl, rfl⟩ | rfl

theorem encT_set (t : List It) (i : Nat) (x : It) : (encT t).set i [.s x.p, .i .i64 x.n.k, .i .i64 x.n.m, .f x.n.t, .sl 1 (encB x.n.d)] = encT (t.set i x) := by
  unfold encT
  rw [List.map_set]; rfl

theorem delete_c {t : List It} {p : List UInt8} {it : Bool} {K : DV → DHeap → Prop} (hp : p.length ≤ 1000000000) (ht : t.length ≤ 1000000)
    (hk : ∀ es : List (List PV), es.take (t.filter fun x => !goF p it x).length = encT (t.filter fun x => !goF p it x) → K (.c (.own 2 0 (t.filter fun x => !goF p it x).length)) [.box [.p (.s p)], .box [.p (.b it)], .arr 5 es false]) :
    DCalls Tryz.prog 134 [.c (.own 2 0 t.length), .c (.clo 135 [.ptr 0 0, .ptr 1 0])] [.box [.p (.s p)], .box [.p (.b it)], .arr 5 (encT t) false] K := by
  refine entR tabOK hmix Tryz.func134 rfl rfl fun X0 hX => ?_
  simp only [Tryz.ntmps134, Tryz.f134, go_sem]
  repeat' (first | simp (maxSteps := 1000000) only [*, go_sem, Nat.reduceLT, Nat.reduceLeDiff, Nat.reduceEqDiff, ↓reduceIte, Nat.reduceAdd, Nat.reduceSub, Nat.reduceMul, Int.reduceLT, Int.reduceLE, Int.reduceAdd, Int.reduceSub, Int.reduceMul, Int.reduceNeg, Int.reduceToNat, Int.reduceEq, Int.reduceBEq, Int.reduceBNe, Nat.reduceBEq, beq_self_eq_true, bne_self_eq_false] | with_reducible refine vcond_split (fun _ => ?_) (fun _ => ?_) | with_reducible refine vg_split (fun _ => ?_) (fun _ => ?_) | ((with_reducible apply DCalls.frz); (focus exact rfl); (focus exact rfl)) | ((with_reducible refine And.intro ?_ ?_); (focus (first | omega | decide | assumption | (simp only [decide_eq_true_eq, decide_eq_false_iff_not] at *; omega)))))
  refine DCalls.mono (index_c hp ht) ?_
  rintro _ _ ⟨⟨i0, hi0, hbef, hcase⟩, rfl⟩
  rcases hcase with ⟨x0, hx0, hg0, rfl⟩ | ⟨rfl, rfl⟩
  · have hil : i0 < t.length := (List.getElem?_eq_some_iff.1 hx0).1
    have q : ((i0 : Int) == -1) = false := by rw [beq_eq_false_iff_ne]; omega
    have w0 : IntKind.i64.wrap ((i0 : Int) + 1) = (i0 + 1 : Nat) := wrap_i64 (by omega) (by omega)
    repeat' (first | simp (maxSteps := 1000000) only [*, go_sem, Nat.reduceLT, Nat.reduceLeDiff, Nat.reduceEqDiff, ↓reduceIte, Nat.reduceAdd, Nat.reduceSub, Nat.reduceMul, Int.reduceLT, Int.reduceLE, Int.reduceAdd, Int.reduceSub, Int.reduceMul, Int.reduceNeg, Int.reduceToNat, Int.reduceEq, Int.reduceBEq, Int.reduceBNe, Nat.reduceBEq, beq_self_eq_true, bne_self_eq_false] | with_reducible refine vcond_split (fun _ => ?_) (fun _ => ?_) | with_reducible refine vg_split (fun _ => ?_) (fun _ => ?_) | ((with_reducible apply DCalls.frz); (focus exact rfl); (focus exact rfl)) | ((with_reducible refine And.intro ?_ ?_); (focus (first | omega | decide | assumption | (simp only [decide_eq_true_eq, decide_eq_false_iff_not] at *; omega)))))
    have hself : (t.take i0).filter (fun x => !goF p it x) = t.take i0 := List.filter_eq_self.2 fun x hx => by
      obtain ⟨j, hj, rfl⟩ := List.mem_iff_getElem.1 hx
      rw [List.getElem_take]
      have hj2 : j < i0 := by simp at hj; omega
      rw [hbef j _ (List.getElem?_eq_getElem (by omega)) hj2]; rfl
    have h0 : (t.take (i0 + 1)).filter (fun x => !goF p it x) = t.take i0 := by
      rw [filter_next hx0, hself, hg0]; simp
    refine loop_ren tabOK hmix (α := Nat × Nat × List It) (fun x => ⟨42, [(0, .c (.own 2 0 t.length)), (1, .c (.clo 135 [.ptr 0 0, .ptr 1 0])), (5, .c (.p (.i .i64 x.2.1))), (6, .c (.p (.i .i64 x.1)))], [.box [.p (.s p)], .box [.p (.b it)], .arr 5 (encT x.2.2) false]⟩)
      (fun x => x.1 ≤ t.length ∧ x.2.1 < x.1 ∧ x.2.2.length = t.length ∧ x.2.2.take x.2.1 = (t.take x.1).filter (fun x => !goF p it x) ∧ x.2.2.drop x.1 = t.drop x.1) (fun x => t.length - x.1) (i0 + 1, i0, t)
      ⟨by omega, by simp, rfl, by rw [h0], rfl⟩ (.inl (weak_mk (by rw [hX]; rfl) rfl rfl (by simp [wk_cons, wk_nil, look_cons, closedD, closedC, closedK, closedB]))) ?_
    clear hself h0 hbef hx0 hg0 q w0 hil hi0
    rintro ⟨j, i, R⟩ ⟨hj, hij, hRl, hRt, hRd⟩
    simp only at hj hij hRl hRt hRd
    by_cases hlt : j < t.length
    · have hx : t[j]? = some t[j] := List.getElem?_eq_getElem hlt
      have hxR : R[j]? = some t[j] := by
        have h3 : R[j]? = t[j]? := by
          have := congrArg (·[0]?) hRd
          simpa [List.getElem?_drop] using this
        exact h3.trans hx
      have hg := encT_at hxR
      have h1 : decide ((j : Int) < (t.length : Int)) = true := decide_eq_true (by omega)
      have hli : (j : Int) < (t.length : Int) := by omega
      have hli2 : (i : Int) < (t.length : Int) := by omega
      have w1 : IntKind.i64.wrap ((j : Int) + 1) = (j + 1 : Nat) := wrap_i64 (by omega) (by omega)
      have w2 : IntKind.i64.wrap ((i : Int) + 1) = (i + 1 : Nat) := wrap_i64 (by omega) (by omega)
      have hnx := filter_next (g := fun x => !goF p it x) hx
      generalize t[j] = x at hx hxR hg hnx
      have hRd2 : R.drop (j + 1) = t.drop (j + 1) := by rw [← List.drop_drop, ← List.drop_drop, hRd]
      cases hb : goF p it x
      · rw [hb] at hnx
        have hJ : j + 1 ≤ t.length ∧ i + 1 < j + 1 ∧ (R.set i x).length = t.length ∧ (R.set i x).take (i + 1) = (t.take (j + 1)).filter (fun x => !goF p it x) ∧ (R.set i x).drop (j + 1) = t.drop (j + 1) := by
          refine ⟨by omega, by omega, by simp [hRl], ?_, ?_⟩
          · rw [hnx, List.take_add_one, List.getElem?_set_self (by omega), List.take_set, List.set_eq_of_length_le (by rw [List.length_take]; omega), hRt]
            rfl
          · rw [List.drop_set, if_pos (by omega), hRd2]
        have hb2 : (belowR p x.p || (it && x.p == p)) = false := hb
        have hgi := encT_at (t := R) (k := i) (List.getElem?_eq_getElem (by omega))
        generalize (R[i]'(by omega)) = y at hgi
        clear hnx hRt hRd hRd2 hx hxR hb
        repeat' (first | simp (maxSteps := 1000000) only [*, go_sem, Nat.reduceLT, Nat.reduceLeDiff, Nat.reduceEqDiff, ↓reduceIte, Nat.reduceAdd, Nat.reduceSub, Nat.reduceMul, Int.reduceLT, Int.reduceLE, Int.reduceAdd, Int.reduceSub, Int.reduceMul, Int.reduceNeg, Int.reduceToNat, Int.reduceEq, Int.reduceBEq, Int.reduceBNe, Nat.reduceBEq, beq_self_eq_true, bne_self_eq_false] | with_reducible refine vcond_split (fun _ => ?_) (fun _ => ?_) | with_reducible refine vg_split (fun _ => ?_) (fun _ => ?_) | ((with_reducible apply DCalls.frz); (focus exact rfl); (focus exact rfl)) | ((with_reducible refine And.intro ?_ ?_); (focus (first | omega | decide | assumption | (simp only [decide_eq_true_eq, decide_eq_false_iff_not] at *; omega)))))
        refine DCalls.mono (del2_c hp) ?_
        rintro _ _ ⟨rfl, rfl⟩
        rw [hb2]
        repeat' (first | simp (maxSteps := 1000000) only [*, go_sem, Nat.reduceLT, Nat.reduceLeDiff, Nat.reduceEqDiff, ↓reduceIte, Nat.reduceAdd, Nat.reduceSub, Nat.reduceMul, Int.reduceLT, Int.reduceLE, Int.reduceAdd, Int.reduceSub, Int.reduceMul, Int.reduceNeg, Int.reduceToNat, Int.reduceEq, Int.reduceBEq, Int.reduceBNe, Nat.reduceBEq, beq_self_eq_true, bne_self_eq_false] | with_reducible refine vcond_split (fun _ => ?_) (fun _ => ?_) | with_reducible refine vg_split (fun _ => ?_) (fun _ => ?_) | ((with_reducible apply DCalls.frz); (focus exact rfl); (focus exact rfl)) | ((with_reducible refine And.intro ?_ ?_); (focus (first | omega | decide | assumption | (simp only [decide_eq_true_eq, decide_eq_false_iff_not] at *; omega)))))
        exact qr_n (j + 1, i + 1, R.set i x) hJ (by simp only; omega) (weak_mk rfl (by simp only [← encT_set]; rfl) rfl (by simp [wk_cons, wk_nil, look_cons, closedD, closedC, closedK, closedB]))
      · rw [hb] at hnx
        have hJ : j + 1 ≤ t.length ∧ i < j + 1 ∧ R.length = t.length ∧ R.take i = (t.take (j + 1)).filter (fun x => !goF p it x) ∧ R.drop (j + 1) = t.drop (j + 1) := ⟨by omega, by omega, hRl, by rw [hnx, hRt]; simp, hRd2⟩
        have hb2 : (belowR p x.p || (it && x.p == p)) = true := hb
        clear hnx hRt hRd hRd2 hx hxR hb
        repeat' (first | simp (maxSteps := 1000000) only [*, go_sem, Nat.reduceLT, Nat.reduceLeDiff, Nat.reduceEqDiff, ↓reduceIte, Nat.reduceAdd, Nat.reduceSub, Nat.reduceMul, Int.reduceLT, Int.reduceLE, Int.reduceAdd, Int.reduceSub, Int.reduceMul, Int.reduceNeg, Int.reduceToNat, Int.reduceEq, Int.reduceBEq, Int.reduceBNe, Nat.reduceBEq, beq_self_eq_true, bne_self_eq_false] | with_reducible refine vcond_split (fun _ => ?_) (fun _ => ?_) | with_reducible refine vg_split (fun _ => ?_) (fun _ => ?_) | ((with_reducible apply DCalls.frz); (focus exact rfl); (focus exact rfl)) | ((with_reducible refine And.intro ?_ ?_); (focus (first | omega | decide | assumption | (simp only [decide_eq_true_eq, decide_eq_false_iff_not] at *; omega)))))
        refine DCalls.mono (del2_c hp) ?_
        rintro _ _ ⟨rfl, rfl⟩
        rw [hb2]
        repeat' (first | simp (maxSteps := 1000000) only [*, go_sem, Nat.reduceLT, Nat.reduceLeDiff, Nat.reduceEqDiff, ↓reduceIte, Nat.reduceAdd, Nat.reduceSub, Nat.reduceMul, Int.reduceLT, Int.reduceLE, Int.reduceAdd, Int.reduceSub, Int.reduceMul, Int.reduceNeg, Int.reduceToNat, Int.reduceEq, Int.reduceBEq, Int.reduceBNe, Nat.reduceBEq, beq_self_eq_true, bne_self_eq_false] | with_reducible refine vcond_split (fun _ => ?_) (fun _ => ?_) | with_reducible refine vg_split (fun _ => ?_) (fun _ => ?_) | ((with_reducible apply DCalls.frz); (focus exact rfl); (focus exact rfl)) | ((with_reducible refine And.intro ?_ ?_); (focus (first | omega | decide | assumption | (simp only [decide_eq_true_eq, decide_eq_false_iff_not] at *; omega)))))
        exact qr_n (j + 1, i, R) hJ (by simp only; omega) (weak_mk rfl rfl rfl (by simp [wk_cons, wk_nil, look_cons, closedD, closedC, closedK, closedB]))
    · have h1 : decide ((j : Int) < (t.length : Int)) = false := decide_eq_false (by omega)
      have htt : t.take j = t := List.take_of_length_le (by omega)
      rw [htt] at hRt
      have hil : (t.filter fun x => !goF p it x).length = i := by
        rw [← hRt, List.length_take]; omega
      have hli : (i : Int) ≤ (t.length : Int) := by omega
      have hi0 : (0 : Int) ≤ i := by omega
      have hni : i + (t.length - i) = R.length := by omega
      rw [hil] at hk
      clear htt hRd hij
      repeat' (first | simp (maxSteps := 1000000) only [*, go_sem, Nat.reduceLT, Nat.reduceLeDiff, Nat.reduceEqDiff, ↓reduceIte, Nat.reduceAdd, Nat.reduceSub, Nat.reduceMul, Int.reduceLT, Int.reduceLE, Int.reduceAdd, Int.reduceSub, Int.reduceMul, Int.reduceNeg, Int.reduceToNat, Int.reduceEq, Int.reduceBEq, Int.reduceBNe, Nat.reduceBEq, beq_self_eq_true, bne_self_eq_false] | with_reducible refine vcond_split (fun _ => ?_) (fun _ => ?_) | with_reducible refine vg_split (fun _ => ?_) (fun _ => ?_) | ((with_reducible apply DCalls.frz); (focus exact rfl); (focus exact rfl)) | ((with_reducible refine And.intro ?_ ?_); (focus (first | omega | decide | assumption | (simp only [decide_eq_true_eq, decide_eq_false_iff_not] at *; omega)))))
      all_goals first | refine hk _ ?_ | refine ⟨by omega, hk _ ?_⟩
      all_goals exact List.take_left' (by simp [encT, hil])
  · have hself : t.filter (fun x => !goF p it x) = t := List.filter_eq_self.2 fun x hx => by
      obtain ⟨j, hj, rfl⟩ := List.mem_iff_getElem.1 hx
      rw [hbef j _ (List.getElem?_eq_getElem hj) hj]; rfl
    rw [hself] at hk
    clear hself
    repeat' (first | simp (maxSteps := 1000000) only [*, go_sem, Nat.reduceLT, Nat.reduceLeDiff, Nat.reduceEqDiff, ↓reduceIte, Nat.reduceAdd, Nat.reduceSub, Nat.reduceMul, Int.reduceLT, Int.reduceLE, Int.reduceAdd, Int.reduceSub, Int.reduceMul, Int.reduceNeg, Int.reduceToNat, Int.reduceEq, Int.reduceBEq, Int.reduceBNe, Nat.reduceBEq, beq_self_eq_true, bne_self_eq_false] | with_reducible refine vcond_split (fun _ => ?_) (fun _ => ?_) | with_reducible refine vg_split (fun _ => ?_) (fun _ => ?_) | ((with_reducible apply DCalls.frz); (focus exact rfl); (focus exact rfl)) | ((with_reducible refine And.intro ?_ ?_); (focus (first | omega | decide | assumption | (simp only [decide_eq_true_eq, decide_eq_false_iff_not] at *; omega)))))
    all_goals exact hk _ (List.take_of_length_le (by simp))

theorem without_c {t : List It} {p : List UInt8} {it : Bool} (hp : p.length ≤ 1000000000) (ht : t.length ≤ 1000000) (hd : ∀ x ∈ t, x.n.d.length ≤ 140737488355328) :
    DCalls Tryz.prog 109 [.c (.p (.sl 5 (encT t))), .c (.p (.s p)), .c (.p (.b it))] [] fun r h => r = .c (.p (.sl 5 (encT (t.filter fun x => !goF p it x)))) ∧ h = [] := by
  have hc := copyT_c ht hd
  refine ent tabOK hmix Tryz.func109 rfl rfl fun X0 hX => ?_
  simp only [Tryz.ntmps109, Tryz.f109, go_sem]
  repeat' (first | simp (maxSteps := 1000000) only [*, go_sem, Nat.reduceLT, Nat.reduceLeDiff, Nat.reduceEqDiff, ↓reduceIte, Nat.reduceAdd, Nat.reduceSub, Nat.reduceMul, Int.reduceLT, Int.reduceLE, Int.reduceAdd, Int.reduceSub, Int.reduceMul, Int.reduceNeg, Int.reduceToNat, Int.reduceEq, Int.reduceBEq, Int.reduceBNe, Nat.reduceBEq, beq_self_eq_true, bne_self_eq_false] | refine useO hc rfl ?_ | with_reducible refine vcond_split (fun _ => ?_) (fun _ => ?_) | with_reducible refine vg_split (fun _ => ?_) (fun _ => ?_) | ((with_reducible apply DCalls.frz); (focus exact rfl); (focus exact rfl)) | ((with_reducible refine And.intro ?_ ?_); (focus (first | omega | decide | assumption | (simp only [decide_eq_true_eq, decide_eq_false_iff_not] at *; omega)))))
  refine delete_c hp ht fun es hes => ?_
  repeat' (first | simp (maxSteps := 1000000) only [*, go_sem, Nat.reduceLT, Nat.reduceLeDiff, Nat.reduceEqDiff, ↓reduceIte, Nat.reduceAdd, Nat.reduceSub, Nat.reduceMul, Int.reduceLT, Int.reduceLE, Int.reduceAdd, Int.reduceSub, Int.reduceMul, Int.reduceNeg, Int.reduceToNat, Int.reduceEq, Int.reduceBEq, Int.reduceBNe, Nat.reduceBEq, beq_self_eq_true, bne_self_eq_false] | with_reducible refine vcond_split (fun _ => ?_) (fun _ => ?_) | with_reducible refine vg_split (fun _ => ?_) (fun _ => ?_) | ((with_reducible apply DCalls.frz); (focus exact rfl); (focus exact rfl)) | ((with_reducible refine And.intro ?_ ?_); (focus (first | omega | decide | assumption | (simp only [decide_eq_true_eq, decide_eq_false_iff_not] at *; omega)))))
  all_goals rw [hes]

theorem treeRemove_c {t : List It} {p : List UInt8} (hp : p.length ≤ 1000000000) (ht : t.length ≤ 1000000) (hd : ∀ x ∈ t, x.n.d.length ≤ 140737488355328) :
    DCalls Tryz.prog 75 [.c (.p (.sl 5 (encT t))), .c (.p (.s p))] [] fun r h => r = .c (.p (.sl 5 (encT (removeR t p)))) ∧ h = [] := by
  have hr : removeR t p = t.filter fun x => !goF p true x := by
    rw [removeR_filter]
    congr 1
    funext x
    simp only [goF, Bool.true_and]
    cases belowR p x.p <;> cases x.p == p <;> rfl
  have hw := without_c (p := p) (it := true) hp ht hd
  rw [← hr] at hw
  refine ent tabOK hmix Tryz.func75 rfl rfl fun X0 hX => ?_
  simp only [Tryz.ntmps75, Tryz.f75, go_sem]
  repeat' (first | simp (maxSteps := 1000000) only [*, go_sem, Nat.reduceLT, Nat.reduceLeDiff, Nat.reduceEqDiff, ↓reduceIte, Nat.reduceAdd, Nat.reduceSub, Nat.reduceMul, Int.reduceLT, Int.reduceLE, Int.reduceAdd, Int.reduceSub, Int.reduceMul, Int.reduceNeg, Int.reduceToNat, Int.reduceEq, Int.reduceBEq, Int.reduceBNe, Nat.reduceBEq, beq_self_eq_true, bne_self_eq_false] | ((with_reducible refine useN (hw) ?_ ?_ ?_); (focus exact rfl); (focus exact fun _ => rfl)) | with_reducible refine vcond_split (fun _ => ?_) (fun _ => ?_) | with_reducible refine vg_split (fun _ => ?_) (fun _ => ?_) | ((with_reducible apply DCalls.frz); (focus exact rfl); (focus exact rfl)) | ((with_reducible refine And.intro ?_ ?_); (focus (first | omega | decide | assumption | (simp only [decide_eq_true_eq, decide_eq_false_iff_not] at *; omega)))))

theorem names_c {t : List It} {p : List UInt8} (h : OkT t) : DCalls Tryz.prog 67 [.c (.p (.sl 5 (encT t))), .c (.p (.s p))] [] fun r h => r = .c (.p (.sl 1 (Go.Dm.encS (namesF t p)))) ∧ h = [] := by
  have hl := h.len
  have hpl := h.plen
  have hne := h.ne
  clear h
  unfold namesF
  refine ent tabOK hmix Tryz.func67 rfl rfl fun X0 hX => ?_
  simp only [Tryz.ntmps67, Tryz.f67, go_sem]
  repeat' (first | simp (maxSteps := 1000000) only [*, go_sem, Nat.reduceLT, Nat.reduceLeDiff, Nat.reduceEqDiff, ↓reduceIte, Nat.reduceAdd, Nat.reduceSub, Nat.reduceMul, Int.reduceLT, Int.reduceLE, Int.reduceAdd, Int.reduceSub, Int.reduceMul, Int.reduceNeg, Int.reduceToNat, Int.reduceEq, Int.reduceBEq, Int.reduceBNe, Nat.reduceBEq, beq_self_eq_true, bne_self_eq_false] | with_reducible refine vcond_split (fun _ => ?_) (fun _ => ?_) | with_reducible refine vg_split (fun _ => ?_) (fun _ => ?_) | ((with_reducible apply DCalls.frz); (focus exact rfl); (focus exact rfl)) | ((with_reducible refine And.intro ?_ ?_); (focus (first | omega | decide | assumption | (simp only [decide_eq_true_eq, decide_eq_false_iff_not] at *; omega)))))
  refine vc_virt tabOK hmix 5 1 rfl ?_
  refine loop_ren tabOK hmix (α := Nat × List (List UInt8)) (fun x => ⟨34, [(1, .c (.p (.s p))), (8, .c (.p (.sl 5 (encT t)))), (9, .c (.p (.i .i64 t.length))), (10, .c (.p (.i .i64 x.1))), (5, .c (.own 0 0 x.2.length))], [.arr 1 (Go.Dm.encS x.2) false]⟩)
    (fun x => x.1 ≤ t.length ∧ x.2.length ≤ x.1 ∧ (((t.take x.1).filter fun x => dirOfR x.p == p).map fun x => baseF x.p) = x.2) (fun x => t.length - x.1) (0, []) ⟨Nat.zero_le _, Nat.le_refl _, rfl⟩ (.inl (weak_mk (by rw [hX]; rfl) rfl rfl (by simp [wk_cons, wk_nil, look_cons, closedD, closedC, encT_nil, encS_nil, encC_nil]))) ?_
  rintro ⟨k, out⟩ ⟨hk, hol, hout⟩
  simp only at hk hol hout
  by_cases hlt : k < t.length
  · have hx : t[k]? = some t[k] := List.getElem?_eq_getElem hlt
    have hg := encT_at hx
    have h1 : decide ((k : Int) < (t.length : Int)) = true := decide_eq_true (by omega)
    have w1 : IntKind.i64.wrap ((k : Int) + 1) = k + 1 := wrap_i64 (by omega) (by omega)
    have hnx := filter_next (g := fun x => dirOfR x.p == p) hx
    have hxl := hpl _ (List.getElem_mem hlt)
    have hxn : (t[k].p == []) = false := by
      have := hne _ (List.getElem_mem hlt)
      simpa using this
    generalize t[k] = x at hx hg hnx hxl hxn
    cases hb : (dirOfR x.p == p)
    · have hJ : k + 1 ≤ t.length ∧ out.length ≤ k + 1 ∧ (((t.take (k + 1)).filter fun x => dirOfR x.p == p).map fun x => baseF x.p) = out := ⟨by omega, by omega, by rw [hnx, hb, List.map_append, hout]; simp⟩
      clear hnx hx hout hpl hne
      repeat' (first | simp (maxSteps := 1000000) only [*, go_sem, Nat.reduceLT, Nat.reduceLeDiff, Nat.reduceEqDiff, ↓reduceIte, Nat.reduceAdd, Nat.reduceSub, Nat.reduceMul, Int.reduceLT, Int.reduceLE, Int.reduceAdd, Int.reduceSub, Int.reduceMul, Int.reduceNeg, Int.reduceToNat, Int.reduceEq, Int.reduceBEq, Int.reduceBNe, Nat.reduceBEq, beq_self_eq_true, bne_self_eq_false] | ((with_reducible refine useF (nameDir_c (by omega)) ?_ ?_ ?_); (focus exact rfl); (focus exact rfl)) | ((with_reducible refine useF (nameBase_c (by omega)) ?_ ?_ ?_); (focus exact rfl); (focus exact rfl)) | with_reducible refine vcond_split (fun _ => ?_) (fun _ => ?_) | with_reducible refine vg_split (fun _ => ?_) (fun _ => ?_) | ((with_reducible apply DCalls.frz); (focus exact rfl); (focus exact rfl)) | ((with_reducible refine And.intro ?_ ?_); (focus (first | omega | decide | assumption | (simp only [decide_eq_true_eq, decide_eq_false_iff_not] at *; omega)))))
      exact qr_n (k + 1, out) hJ (by simp only; omega) (weak_mk rfl rfl rfl (by simp [wk_cons, wk_nil, look_cons, closedD, closedC, renT, renD, renC, encT_nil, encS_nil, encC_nil]))
    · have hJ : k + 1 ≤ t.length ∧ (out ++ [baseF x.p]).length ≤ k + 1 ∧ (((t.take (k + 1)).filter fun x => dirOfR x.p == p).map fun x => baseF x.p) = out ++ [baseF x.p] := ⟨by omega, by simp; omega, by rw [hnx, hb, List.map_append, hout]; simp⟩
      clear hnx hx hout hpl hne
      repeat' (first | simp (maxSteps := 1000000) only [*, go_sem, Nat.reduceLT, Nat.reduceLeDiff, Nat.reduceEqDiff, ↓reduceIte, Nat.reduceAdd, Nat.reduceSub, Nat.reduceMul, Int.reduceLT, Int.reduceLE, Int.reduceAdd, Int.reduceSub, Int.reduceMul, Int.reduceNeg, Int.reduceToNat, Int.reduceEq, Int.reduceBEq, Int.reduceBNe, Nat.reduceBEq, beq_self_eq_true, bne_self_eq_false] | ((with_reducible refine useF (nameDir_c (by omega)) ?_ ?_ ?_); (focus exact rfl); (focus exact rfl)) | ((with_reducible refine useF (nameBase_c (by omega)) ?_ ?_ ?_); (focus exact rfl); (focus exact rfl)) | with_reducible refine vcond_split (fun _ => ?_) (fun _ => ?_) | with_reducible refine vg_split (fun _ => ?_) (fun _ => ?_) | ((with_reducible apply DCalls.frz); (focus exact rfl); (focus exact rfl)) | ((with_reducible refine And.intro ?_ ?_); (focus (first | omega | decide | assumption | (simp only [decide_eq_true_eq, decide_eq_false_iff_not] at *; omega)))))
      exact qr_ren (k + 1, out ++ [baseF x.p]) 0 3 hJ (by simp only; omega) rfl rfl (weak_mk rfl rfl rfl (by simp [wk_cons, wk_nil, look_cons, closedD, closedC, renT, renD, renC, encT_nil, encS_nil, encC_nil]))
  · have h1 : decide ((k : Int) < (t.length : Int)) = false := decide_eq_false (by omega)
    rw [List.take_of_length_le (by omega)] at hout
    unfold dirNames
    rw [hout]
    have hsl : (out.mergeSort fun x y => decide (x ≤ y)).length = out.length := List.length_mergeSort ..
    clear hout
    repeat' (first | simp (maxSteps := 1000000) only [*, go_sem, Nat.reduceLT, Nat.reduceLeDiff, Nat.reduceEqDiff, ↓reduceIte, Nat.reduceAdd, Nat.reduceSub, Nat.reduceMul, Int.reduceLT, Int.reduceLE, Int.reduceAdd, Int.reduceSub, Int.reduceMul, Int.reduceNeg, Int.reduceToNat, Int.reduceEq, Int.reduceBEq, Int.reduceBNe, Nat.reduceBEq, beq_self_eq_true, bne_self_eq_false, List.set_cons_succ, List.set_cons_zero] | refine sort_k (id := 0) (ss := out) (by rfl) (by omega) ?_ | with_reducible refine vcond_split (fun _ => ?_) (fun _ => ?_) | with_reducible refine vg_split (fun _ => ?_) (fun _ => ?_) | ((with_reducible apply DCalls.frz); (focus exact rfl); (focus exact rfl)) | ((with_reducible refine And.intro ?_ ?_); (focus (first | omega | decide | assumption | (simp only [decide_eq_true_eq, decide_eq_false_iff_not] at *; omega)))))
    all_goals rw [List.take_of_length_le (by simp)]

def t3 : List It := [⟨[97], ⟨2, 493, 0, []⟩⟩, ⟨[97, 47, 98], ⟨1, 0, 0, []⟩⟩, ⟨[99], ⟨2, 493, 0, []⟩⟩]
end Go.Proofs.YtnbgaphhhjnjlaaGreatDoor

end
