/-
  Contracts of the document on paths, names and trees.
-/
import Derived.Test.YtnbgaphhhjnjlaaGreatDoorC1
import Derived.Test.YtnbgaphhhjnjlaaGreatDoorSB
set_option linter.unusedSimpArgs false
set_option linter.unusedVariables false
namespace Go.Proofs.YtnbgaphhhjnjlaaGreatDoor
open Go Go.Dm
set_option maxRecDepth 100000
set_option maxHeartbeats 4000000

theorem belowR_c {p q : List UInt8} (hp : p.length ≤ 4611686018427387904) (hq : q.length ≤ 9223372036854775807) : DCalls Tryz.prog 113 [.c (.p (.s p)), .c (.p (.s q))] [] fun r h => r = .c (.p (.b (belowR p q))) ∧ h = [] := by
  have w1 : IntKind.i64.wrap ((p.length : Int) + 1) = p.length + 1 := wrap_i64 (by omega) (by omega)
  refine ent tabOK hmix Tryz.func113 rfl rfl fun X0 hX => ?_
  simp only [Tryz.f113, go_sem]
  repeat' (first | simp only [*, go_sem, Nat.reduceLT, Nat.reduceLeDiff, Nat.reduceEqDiff, ↓reduceIte, Int.reduceLE, Int.reduceToNat, ] | with_reducible refine vcond_split (fun _ => ?_) (fun _ => ?_) | with_reducible refine vg_split (fun _ => ?_) (fun _ => ?_) | ((with_reducible refine And.intro ?_ ?_); (focus (first | omega | (simp only [decide_eq_true_eq] at *; omega)))))
  all_goals (simp_all [belowR]; try (intro _; omega))

theorem noneBelow_c {t : List It} {p : List UInt8} (ht : t.length ≤ 1000000) (hp : p.length ≤ 4611686018427387904) (hq : ∀ x ∈ t, x.p.length ≤ 9223372036854775807) :
    DCalls Tryz.prog 78 [.c (.p (.sl 5 (encT t))), .c (.p (.s p))] [] fun r h => r = .c (.p (.sl 5 (encT (noneBelow t p)))) ∧ h = [] := by
  refine ent tabOK hmix Tryz.func78 rfl rfl fun X0 hX => ?_
  simp only [Tryz.f78, go_sem]
  repeat' (simp only [*, go_sem, Nat.reduceLT, ])
  refine vc_virt tabOK hmix 5 5 rfl ?_
  refine loop_ren tabOK hmix (α := Nat × List It) (fun x => ⟨29, [(0, .c (.p (.sl 5 (encT t)))), (1, .c (.p (.s p))), (5, .c (.own 0 0 x.2.length)), (6, .c (.p (.i .i64 x.1)))], [.arr 5 (encT x.2) false]⟩)
    (fun x => x.1 ≤ t.length ∧ x.2.length ≤ x.1 ∧ x.2 ++ noneBelow (t.drop x.1) p = noneBelow t p) (fun x => t.length - x.1) (0, []) ?_ ?_ ?_
  · exact ⟨Nat.zero_le _, Nat.le_refl _, by simp⟩
  · refine .inl (weak_mk (by rw [hX]; rfl) rfl rfl ?_)
    simp [wk_cons, wk_nil, look_cons, closedD, closedC]
  · rintro ⟨k, out⟩ ⟨hk, hol, hout⟩
    simp only at hk hol hout
    by_cases hlt : k < t.length
    · have hx : t[k]? = some t[k] := List.getElem?_eq_getElem hlt
      have hg := encT_at hx
      have hd := drop_at hx
      have h1 : decide ((k : Int) < (t.length : Int)) = true := decide_eq_true (by omega)
      have w1 : IntKind.i64.wrap ((k : Int) + 1) = k + 1 := wrap_i64 (by omega) (by omega)
      generalize t[k] = x at hx hg hd
      have hxp := hq x (List.mem_of_getElem? hx)
      repeat' (first | simp only [*, go_sem, Nat.reduceLT, Nat.reduceLeDiff, Nat.reduceEqDiff, ↓reduceIte, Nat.reduceAdd, Nat.reduceMul, Nat.reduceBEq, ] | ((with_reducible refine useF (belowR_c hp hxp) ?_ ?_ ?_); (focus exact rfl); (focus exact rfl)) | with_reducible refine vcond_split (fun _ => ?_) (fun _ => ?_) | ((with_reducible refine And.intro ?_ ?_); (focus (first | omega | decide))))
      · refine qr_ren (k + 1, out ++ [x]) 0 2 ⟨by omega, by simp; omega, ?_⟩ (by simp; omega) rfl rfl (weak_mk rfl rfl rfl ?_)
        · rw [← hout, hd]
          have hb : belowR p x.p = false := by simpa using ‹(!belowR p x.p) = true›
          simp [noneBelow, hb]
        · simp [wk_cons, wk_nil, look_cons, closedD, closedC, renT, renD, renC]
      · refine qr_n (k + 1, out) ⟨by omega, by simp; omega, ?_⟩ (by simp; omega) (weak_mk rfl rfl rfl ?_)
        · rw [← hout, hd]
          have hb : belowR p x.p = true := by simpa using ‹(!belowR p x.p) = false›
          simp [noneBelow, hb]
        · simp [wk_cons, wk_nil, look_cons, closedD, closedC]
    · have h1 : decide ((k : Int) < (t.length : Int)) = false := decide_eq_false (by omega)
      repeat' (simp only [*, go_sem, Nat.reduceLT, Nat.reduceEqDiff, ↓reduceIte, ])
      have : k = t.length := by omega
      subst this
      rw [List.drop_length] at hout
      rw [← hout]
      simp [noneBelow]

theorem dirOfR_c {p : List UInt8} (hp : p.length ≤ 4611686018427387904) : DCalls Tryz.prog 51 [.c (.p (.s p))] [] fun r h => r = .c (.p (.s (dirOfR p))) ∧ h = [] := by
  have w0 : IntKind.i64.wrap ((p.length : Int) - 1) = p.length - 1 := wrap_i64 (by omega) (by omega)
  refine ent tabOK hmix Tryz.func51 rfl rfl fun X0 hX => ?_
  simp only [Tryz.f51, go_sem]
  repeat' (simp only [*, go_sem, Nat.reduceLT, Nat.reduceEqDiff, ↓reduceIte, ])
  refine loop_ren tabOK hmix (α := Nat) (fun j => ⟨18, [(0, .c (.p (.s p))), (3, .c (.p (.i .i64 ((j : Int) - 1))))], []⟩) (fun j => j ≤ p.length ∧ lastSlash p j = lastSlash p p.length) (fun j => j) p.length ⟨Nat.le_refl _, rfl⟩ (.inl (weak_mk (by rw [hX]; rfl) rfl rfl (by simp [wk_cons, wk_nil, look_cons, closedD, closedC, ]))) ?_
  rintro (_ | j) ⟨hj, hl⟩
  · repeat' (simp only [*, go_sem, Nat.reduceLT, Nat.reduceEqDiff, ↓reduceIte, Int.reduceLE, Int.reduceSub, Int.reduceNeg, ])
    simp only [dirOfR, ← hl, lastSlash]
  · have e1 : ((j + 1 : Nat) : Int) - 1 = j := by omega
    have w1 : IntKind.i64.wrap ((j : Int) - 1) = j - 1 := wrap_i64 (by omega) (by omega)
    have d1 : decide ((0 : Int) ≤ j) = true := decide_eq_true (by omega)
    simp only [lastSlash] at hl
    repeat' (first | simp only [*, go_sem, Nat.reduceLT, Nat.reduceEqDiff, ↓reduceIte, Int.reduceLE, Int.reduceToNat, ] | with_reducible refine vcond_split (fun _ => ?_) (fun _ => ?_) | ((with_reducible refine And.intro ?_ ?_); (focus (omega))))
    · rename_i hb
      rw [if_pos hb] at hl
      simp only [dirOfR, ← hl]
    · rename_i hb
      rw [if_neg (by rw [hb]; decide)] at hl
      exact qr_n j ⟨by omega, hl⟩ (by omega) (weak_mk rfl rfl rfl (by simp [wk_cons, wk_nil, look_cons, closedD, closedC, ]))

theorem rightNameR_c {s : List UInt8} (hs : s.length ≤ 4611686018427387904) : DCalls Tryz.prog 110 [.c (.p (.s s))] [] fun r h => r = .c (.p (.b (rightNameR s))) ∧ h = [] := by
  refine ent tabOK hmix Tryz.func110 rfl rfl fun X0 hX => ?_
  simp only [Tryz.f110, go_sem]
  repeat' (simp only [*, go_sem, Nat.reduceLT, ])
  refine loop_ren tabOK hmix (α := Nat) (fun k => ⟨36, [(0, .c (.p (.s s))), (3, .c (.p (.i .i64 k)))], []⟩) (fun k => k ≤ s.length ∧ (s.drop k).all okByte = s.all okByte) (fun k => s.length - k) 0 ⟨Nat.zero_le _, rfl⟩ (.inl (weak_mk (by rw [hX]; rfl) rfl rfl (by simp [wk_cons, wk_nil, look_cons, closedD, closedC, ]))) ?_
  rintro k ⟨hk, hl⟩
  by_cases hlt : k < s.length
  · have hx : s[k]? = some s[k] := List.getElem?_eq_getElem hlt
    have hg := getD_at hx
    have hd := drop_at hx
    have h1 : decide ((k : Int) < (s.length : Int)) = true := decide_eq_true (by omega)
    have w1 : IntKind.i64.wrap ((k : Int) + 1) = k + 1 := wrap_i64 (by omega) (by omega)
    generalize s[k] = x at hx hg hd
    rw [hd, List.all_cons] at hl
    repeat' (first | simp only [*, go_sem, Nat.reduceLT, Nat.reduceEqDiff, ↓reduceIte, ] | with_reducible refine vcond_split (fun _ => ?_) (fun _ => ?_) | with_reducible refine vg_split (fun _ => ?_) (fun _ => ?_) | ((with_reducible refine And.intro ?_ ?_); (focus (omega))))
    · have : okByte x = false := by simp_all [okByte]
      simp only [rightNameR, ← hl, this, Bool.false_and]
    · have : okByte x = false := by simp_all [okByte]
      simp only [rightNameR, ← hl, this, Bool.false_and]
    · have : okByte x = true := by simp_all [okByte]
      rw [this, Bool.true_and] at hl
      exact qr_n (k + 1) ⟨by omega, hl⟩ (by omega) (weak_mk rfl rfl rfl (by simp [wk_cons, wk_nil, look_cons, closedD, closedC, ]))
  · have h1 : decide ((k : Int) < (s.length : Int)) = false := decide_eq_false (by omega)
    rw [List.drop_of_length_le (by omega), List.all_nil] at hl
    unfold rightNameR
    rw [← hl]
    clear hl
    repeat' (first | simp only [*, go_sem, Nat.reduceLT, Nat.reduceEqDiff, ↓reduceIte, ] | with_reducible refine vg_split (fun _ => ?_) (fun _ => ?_))
    all_goals simp only [*, Bool.true_and, Bool.and_true, Bool.and_false, Bool.false_and, Bool.not_false, Bool.not_true]

theorem cutR_c {s : List UInt8} (hs : s.length ≤ 1000000000) : DCalls Tryz.prog 87 [.c (.p (.s s))] [] fun r h => r = .c (.p (.sl 1 (encS (cutR s)))) ∧ h = [] := by
  refine ent tabOK hmix Tryz.func87 rfl rfl fun X0 hX => ?_
  simp only [Tryz.f87, go_sem]
  repeat' (simp only [*, go_sem, Nat.reduceLT, ])
  refine vc_virt tabOK hmix 3 1 rfl ?_
  refine loop_ren tabOK hmix (α := Nat × List (List UInt8) × List UInt8) (fun x => ⟨31, [(0, .c (.p (.s s))), (3, .c (.own 0 0 x.2.1.length)), (4, .c (.p (.s x.2.2))), (5, .c (.p (.i .i64 x.1)))], [.arr 1 (encS x.2.1) false]⟩)
    (fun x => x.1 ≤ s.length ∧ x.2.1.length ≤ x.1 ∧ x.2.2.length ≤ x.1 ∧ x.2.1 ++ cutL x.2.2 (s.drop x.1) = cutR s) (fun x => s.length - x.1) (0, [], []) ⟨Nat.zero_le _, Nat.le_refl _, Nat.le_refl _, by simp [cutR]⟩ (.inl (weak_mk (by rw [hX]; rfl) rfl rfl (by simp [wk_cons, wk_nil, look_cons, closedD, closedC, encS_nil]))) ?_
  rintro ⟨k, out, w⟩ ⟨hk, hol, hwl, hl⟩
  simp only at hk hol hwl hl
  by_cases hlt : k < s.length
  · have hx : s[k]? = some s[k] := List.getElem?_eq_getElem hlt
    have hg := getD_at hx
    have hd := drop_at hx
    have h1 : decide ((k : Int) < (s.length : Int)) = true := decide_eq_true (by omega)
    have w1 : IntKind.i64.wrap ((k : Int) + 1) = k + 1 := wrap_i64 (by omega) (by omega)
    have ho := one_at hx
    generalize s[k] = x at hx hg hd ho
    rw [hd] at hl
    simp only [cutL] at hl
    repeat' (first | simp only [*, go_sem, Nat.reduceLT, Nat.reduceLeDiff, Nat.reduceEqDiff, ↓reduceIte, Nat.reduceAdd, Nat.reduceBEq, ] | with_reducible refine vcond_split (fun _ => ?_) (fun _ => ?_) | ((with_reducible refine And.intro ?_ ?_); (focus (first | omega | decide))))
    · rename_i hb
      rw [if_pos hb] at hl
      exact qr_ren (k + 1, out ++ [w], []) 0 2 ⟨by omega, by simp; omega, by simp, by simpa using hl⟩ (by simp; omega) rfl rfl (weak_mk rfl rfl rfl (by simp [wk_cons, wk_nil, look_cons, closedD, closedC, renT, renD, renC, ]))
    · rename_i hb
      rw [if_neg (by rw [hb]; decide)] at hl
      exact qr_n (k + 1, out, w ++ [x]) ⟨by omega, by simp; omega, by simp; omega, hl⟩ (by simp; omega) (weak_mk rfl rfl rfl (by simp [wk_cons, wk_nil, look_cons, closedD, closedC, ]))
  · have h1 : decide ((k : Int) < (s.length : Int)) = false := decide_eq_false (by omega)
    rw [List.drop_of_length_le (by omega)] at hl
    simp only [cutL] at hl
    have hl2 : (cutR s).length = out.length + 1 := by rw [← hl]; simp
    repeat' (first | simp only [*, go_sem, Nat.reduceLT, Nat.reduceLeDiff, Nat.reduceEqDiff, ↓reduceIte, Nat.reduceAdd, Nat.reduceBEq, ] | ((with_reducible refine And.intro ?_ ?_); (focus (first | omega | decide))))
    all_goals rw [List.take_of_length_le (by omega)]

theorem isPathR_c {p : List UInt8} (hp : p.length ≤ 1000000000) : DCalls Tryz.prog 76 [.c (.p (.s p))] [] fun r h => r = .c (.p (.b (isPathR p))) ∧ h = [] := by
  have hcl : (cutR p).length ≤ p.length + 1 := cutL_len p []
  refine ent tabOK hmix Tryz.func76 rfl rfl fun X0 hX => ?_
  simp only [Tryz.f76, go_sem]
  repeat' (first | simp only [*, go_sem, Nat.reduceLT, Nat.reduceEqDiff, ↓reduceIte, ] | ((with_reducible refine useN (cutR_c hp) ?_ ?_ ?_); (focus exact rfl); (focus exact fun _ => rfl)) | with_reducible refine vcond_split (fun _ => ?_) (fun _ => ?_))
  · rename_i h0
    simp only [isPathR, h0, Bool.true_or]
  rename_i h0
  refine loop_ren tabOK hmix (α := Nat) (fun k => ⟨24, [(0, .c (.p (.s p))), (3, .c (.p (.sl 1 (encS (cutR p))))), (4, .c (.p (.i .i64 k)))], []⟩)
    (fun k => k ≤ (cutR p).length ∧ ((cutR p).drop k).all rightNameR = (cutR p).all rightNameR) (fun k => (cutR p).length - k) 0 ⟨Nat.zero_le _, rfl⟩ (.inl (weak_mk (by rw [hX]; rfl) rfl rfl (by simp [wk_cons, wk_nil, look_cons, closedD, closedC, ]))) ?_
  rintro k ⟨hk, hl⟩
  by_cases hlt : k < (cutR p).length
  · have hx : (cutR p)[k]? = some (cutR p)[k] := List.getElem?_eq_getElem hlt
    have hg := encS_at hx
    have hd := drop_at hx
    have h1 : decide ((k : Int) < ((cutR p).length : Int)) = true := decide_eq_true (by omega)
    have w1 : IntKind.i64.wrap ((k : Int) + 1) = k + 1 := wrap_i64 (by omega) (by omega)
    generalize (cutR p)[k] = x at hx hg hd
    have hxl : x.length ≤ p.length := by have := cutL_mem p [] x (List.mem_of_getElem? hx); simpa using this
    rw [hd, List.all_cons] at hl
    repeat' (first | simp only [*, go_sem, Nat.reduceLT, Nat.reduceEqDiff, ↓reduceIte, ] | ((with_reducible refine useF (rightNameR_c (s := x) (by omega)) ?_ ?_ ?_); (focus exact rfl); (focus exact rfl)) | with_reducible refine vcond_split (fun _ => ?_) (fun _ => ?_) | ((with_reducible refine And.intro ?_ ?_); (focus (omega))))
    · rename_i hb
      have hb : rightNameR x = false := by simpa using hb
      simp only [isPathR, h0, ← hl, hb, Bool.false_and, Bool.false_or]
    · rename_i hb
      have hb : rightNameR x = true := by simpa using hb
      rw [hb, Bool.true_and] at hl
      exact qr_n (k + 1) ⟨by omega, hl⟩ (by omega) (weak_mk rfl rfl rfl (by simp [wk_cons, wk_nil, look_cons, closedD, closedC, ]))
  · have h1 : decide ((k : Int) < ((cutR p).length : Int)) = false := decide_eq_false (by omega)
    rw [List.drop_of_length_le (by omega), List.all_nil] at hl
    unfold isPathR
    repeat' (simp only [*, go_sem, Nat.reduceLT, Nat.reduceEqDiff, ↓reduceIte, ])
    all_goals rw [← hl, Bool.true_and]

theorem getR_c {t : List It} {p : List UInt8} (ht : t.length ≤ 1000000) :
    DCalls Tryz.prog 25 [.c (.p (.sl 5 (encT t))), .c (.p (.s p))] [] fun r h => r = .tup [.agg ((getR t p).getD nd0).cv, .c (.p (.b (getR t p).isSome))] ∧ h = [] := by
  refine dcalls_wk ?_
  refine ent tabOK hmix Tryz.func25 rfl rfl fun X0 hX => ?_
  simp only [Tryz.f25, go_sem]
  repeat' (simp only [*, go_sem, Nat.reduceLT, ])
  refine loop_ren tabOK hmix (α := Nat) (fun k => ⟨26, [(0, .c (.p (.sl 5 (encT t)))), (1, .c (.p (.s p))), (4, .c (.ptr 0 0)), (6, .c (.p (.i .i64 k)))], [.box [.p (.i .i64 0), .p (.i .i64 0), .p (.f 0), .p .nil]]⟩)
    (fun k => k ≤ t.length ∧ getR (t.drop k) p = getR t p) (fun k => t.length - k) 0 ⟨Nat.zero_le _, rfl⟩ (.inl (weak_mk (by rw [hX]; rfl) rfl rfl (by simp [wk_cons, wk_nil, look_cons, closedD, closedC, ]))) ?_
  rintro k ⟨hk, hl⟩
  by_cases hlt : k < t.length
  · have hx : t[k]? = some t[k] := List.getElem?_eq_getElem hlt
    have hg := encT_at hx
    have hd := drop_at hx
    have h1 : decide ((k : Int) < (t.length : Int)) = true := decide_eq_true (by omega)
    have w1 : IntKind.i64.wrap ((k : Int) + 1) = k + 1 := wrap_i64 (by omega) (by omega)
    generalize t[k] = x at hx hg hd
    rw [hd] at hl
    simp only [getR] at hl
    repeat' (first | simp only [*, go_sem, Nat.reduceLT, Nat.reduceLeDiff, Nat.reduceEqDiff, ↓reduceIte, Nat.reduceAdd, ] | with_reducible refine vcond_split (fun _ => ?_) (fun _ => ?_) | ((with_reducible refine And.intro ?_ ?_); (focus (omega))))
    · rename_i hb
      rw [if_pos hb] at hl
      rw [← hl]
      simp only [Option.getD_some, Option.isSome_some]
      simp
    · rename_i hb
      rw [if_neg (by rw [hb]; decide)] at hl
      exact qr_n (k + 1) ⟨by omega, hl⟩ (by omega) (weak_mk rfl rfl rfl (by simp [wk_cons, wk_nil, look_cons, closedD, closedC, ]))
  · have h1 : decide ((k : Int) < (t.length : Int)) = false := decide_eq_false (by omega)
    rw [List.drop_of_length_le (by omega)] at hl
    simp only [getR] at hl
    repeat' (simp only [*, go_sem, Nat.reduceLT, Nat.reduceLeDiff, Nat.reduceEqDiff, ↓reduceIte, Nat.reduceAdd, ])
    all_goals rw [← hl]
    all_goals simp [nd0, encB_nil]

theorem isDirR_c {t : List It} {p : List UInt8} (ht : t.length ≤ 1000000) :
    DCalls Tryz.prog 37 [.c (.p (.sl 5 (encT t))), .c (.p (.s p))] [] fun r h => r = .c (.p (.b (isDirR t p))) ∧ h = [] := by
  have hd : isDirR t p = (p == [] || ((getR t p).isSome && ((getR t p).getD nd0).k == 2)) := by
    unfold isDirR; cases getR t p <;> rfl
  rw [hd]
  refine ent tabOK hmix Tryz.func37 rfl rfl fun X0 hX => ?_
  simp only [Tryz.f37, go_sem]
  repeat' (first | simp only [*, go_sem, Nat.reduceLT, Nat.reduceLeDiff, Nat.reduceEqDiff, ↓reduceIte, Nat.reduceAdd, ] | ((with_reducible refine useN (getR_c ht) ?_ ?_ ?_); (focus exact rfl); (focus exact fun _ => rfl)) | with_reducible refine vg_split (fun _ => ?_) (fun _ => ?_))
  all_goals simp only [*, Bool.true_and, Bool.and_true, Bool.and_false, Bool.false_and, Bool.false_or, Bool.true_or]

theorem removeR_c {t : List It} {p : List UInt8} (ht : t.length ≤ 1000000) (hp : p.length ≤ 4611686018427387904) (hq : ∀ x ∈ t, x.p.length ≤ 9223372036854775807) :
    DCalls Tryz.prog 82 [.c (.p (.sl 5 (encT t))), .c (.p (.s p))] [] fun r h => r = .c (.p (.sl 5 (encT (removeR t p)))) ∧ h = [] := by
  have hnl : (noneBelow t p).length ≤ t.length := List.length_filter_le ..
  refine ent tabOK hmix Tryz.func82 rfl rfl fun X0 hX => ?_
  simp only [Tryz.f82, go_sem]
  repeat' (first | simp only [*, go_sem, Nat.reduceLT, Nat.reduceEqDiff, ↓reduceIte, ] | ((with_reducible refine useN (noneBelow_c ht hp hq) ?_ ?_ ?_); (focus exact rfl); (focus exact fun _ => rfl)))
  unfold removeR
  generalize noneBelow t p = u at *
  refine vc_virt tabOK hmix 5 5 rfl ?_
  refine loop_ren tabOK hmix (α := Nat × List It) (fun x => ⟨32, [(0, .c (.p (.sl 5 (encT t)))), (1, .c (.p (.s p))), (6, .c (.p (.sl 5 (encT u)))), (5, .c (.own 0 0 x.2.length)), (7, .c (.p (.i .i64 x.1)))], [.arr 5 (encT x.2) false]⟩)
    (fun x => x.1 ≤ u.length ∧ x.2.length ≤ x.1 ∧ x.2 ++ dropR (u.drop x.1) p = dropR u p) (fun x => u.length - x.1) (0, []) ⟨Nat.zero_le _, Nat.le_refl _, by simp⟩ (.inl (weak_mk (by rw [hX]; rfl) rfl rfl (by simp [wk_cons, wk_nil, look_cons, closedD, closedC, encT_nil, ]))) ?_
  rintro ⟨k, out⟩ ⟨hk, hol, hout⟩
  simp only at hk hol hout
  by_cases hlt : k < u.length
  · have hx : u[k]? = some u[k] := List.getElem?_eq_getElem hlt
    have hg := encT_at hx
    have hd := drop_at hx
    have h1 : decide ((k : Int) < (u.length : Int)) = true := decide_eq_true (by omega)
    have w1 : IntKind.i64.wrap ((k : Int) + 1) = k + 1 := wrap_i64 (by omega) (by omega)
    generalize u[k] = x at hx hg hd
    rw [hd, dropR, List.filter_cons] at hout
    repeat' (first | simp only [*, go_sem, Nat.reduceLT, Nat.reduceLeDiff, Nat.reduceEqDiff, ↓reduceIte, Nat.reduceAdd, Nat.reduceMul, Nat.reduceBEq, ] | with_reducible refine vcond_split (fun _ => ?_) (fun _ => ?_) | ((with_reducible refine And.intro ?_ ?_); (focus (first | omega | decide))))
    · rename_i hb
      rw [if_pos (by simpa using hb)] at hout
      exact qr_ren (k + 1, out ++ [x]) 0 2 ⟨by omega, by simp; omega, by simpa [dropR] using hout⟩ (by simp; omega) rfl rfl (weak_mk rfl rfl rfl (by simp [wk_cons, wk_nil, look_cons, closedD, closedC, renT, renD, renC, ]))
    · rename_i hb
      rw [if_neg (by simpa using hb)] at hout
      exact qr_n (k + 1, out) ⟨by omega, by simp; omega, hout⟩ (by simp; omega) (weak_mk rfl rfl rfl (by simp [wk_cons, wk_nil, look_cons, closedD, closedC, ]))
  · have h1 : decide ((k : Int) < (u.length : Int)) = false := decide_eq_false (by omega)
    rw [List.drop_of_length_le (by omega)] at hout
    simp only [dropR, List.filter_nil, List.append_nil] at hout
    repeat' (simp only [*, go_sem, Nat.reduceLT, Nat.reduceEqDiff, ↓reduceIte, ])
    all_goals rfl

theorem targetR_c {d : List UInt8} (hd : d.length ≤ 1000000000) : DCalls Tryz.prog 112 [.c (.p (.sl 1 (encB d)))] [] fun r h => r = .c (.p (.b (targetR d))) ∧ h = [] := by
  refine ent tabOK hmix Tryz.func112 rfl rfl fun X0 hX => ?_
  simp only [Tryz.f112, go_sem]
  repeat' (simp only [*, go_sem, Nat.reduceLT, ])
  refine loop_ren tabOK hmix (α := Nat) (fun k => ⟨23, [(0, .c (.p (.sl 1 (encB d)))), (3, .c (.p (.i .i64 k)))], []⟩) (fun k => k ≤ d.length ∧ (d.drop k).all (fun b => !((b.toNat : Int) == 0)) = d.all (fun b => !((b.toNat : Int) == 0))) (fun k => d.length - k) 0 ⟨Nat.zero_le _, rfl⟩ (.inl (weak_mk (by rw [hX]; rfl) rfl rfl (by simp [wk_cons, wk_nil, look_cons, closedD, closedC, ]))) ?_
  rintro k ⟨hk, hl⟩
  by_cases hlt : k < d.length
  · have hx : d[k]? = some d[k] := List.getElem?_eq_getElem hlt
    have hg := encB_at hx
    have hd := drop_at hx
    have h1 : decide ((k : Int) < (d.length : Int)) = true := decide_eq_true (by omega)
    have w1 : IntKind.i64.wrap ((k : Int) + 1) = k + 1 := wrap_i64 (by omega) (by omega)
    generalize d[k] = x at hx hg hd
    rw [hd, List.all_cons] at hl
    repeat' (first | simp only [*, go_sem, Nat.reduceLT, Nat.reduceEqDiff, ↓reduceIte, ] | with_reducible refine vcond_split (fun _ => ?_) (fun _ => ?_) | ((with_reducible refine And.intro ?_ ?_); (focus (omega))))
    · rename_i hb
      rw [hb, Bool.not_true, Bool.false_and] at hl
      simp only [targetR, ← hl, Bool.false_and]
    · rename_i hb
      rw [hb, Bool.not_false, Bool.true_and] at hl
      exact qr_n (k + 1) ⟨by omega, hl⟩ (by omega) (weak_mk rfl rfl rfl (by simp [wk_cons, wk_nil, look_cons, closedD, closedC, ]))
  · have h1 : decide ((k : Int) < (d.length : Int)) = false := decide_eq_false (by omega)
    rw [List.drop_of_length_le (by omega), List.all_nil] at hl
    unfold targetR
    rw [← hl]
    clear hl
    repeat' (first | simp only [*, go_sem, Nat.reduceLT, Nat.reduceEqDiff, ↓reduceIte, ] | with_reducible refine vg_split (fun _ => ?_) (fun _ => ?_))
    all_goals simp only [*, Bool.true_and, Bool.and_true, Bool.and_false, Bool.false_and, Bool.not_false, Bool.not_true]

theorem setR_c {t : List It} {p : List UInt8} {k m : Int} {tt : Nat} {d : List UInt8} (ht : t.length ≤ 1000000) :
    DCalls Tryz.prog 79 [.c (.p (.sl 5 (encT t))), .c (.p (.s p)), .agg (ndc k m tt d)] [] fun r h => r = .c (.p (.sl 5 (encT (setR t p ⟨k, m, tt, d⟩)))) ∧ h = [] := by
  refine ent tabOK hmix Tryz.func79 rfl rfl fun X0 hX => ?_
  simp only [Tryz.f79, go_sem]
  repeat' (simp only [*, go_sem, Nat.reduceLT, Nat.reduceEqDiff, ↓reduceIte, Nat.reduceAdd, ])
  refine vc_virt tabOK hmix 7 5 rfl ?_
  refine loop_ren tabOK hmix (α := Nat × List It × Bool) (fun x => ⟨56, [(0, .c (.p (.sl 5 (encT t)))), (1, .c (.p (.s p))), (5, .c (.ptr 0 0)), (7, .c (.own 1 0 x.2.1.length)), (8, .c (.p (.b x.2.2))), (9, .c (.p (.i .i64 x.1)))], [.box (ndc k m tt d), .arr 5 (encT x.2.1) false]⟩)
    (fun x => x.1 ≤ t.length ∧ x.2.1.length ≤ 2 * x.1 ∧ x.2.1 ++ setL p ⟨k, m, tt, d⟩ x.2.2 (t.drop x.1) = setR t p ⟨k, m, tt, d⟩) (fun x => t.length - x.1) (0, [], false) ⟨Nat.zero_le _, Nat.le_refl _, by simp [setR]⟩ (.inl (weak_mk (by rw [hX]; rfl) rfl rfl (by simp [wk_cons, wk_nil, look_cons, closedD, closedC, encT_nil, ]))) ?_
  rintro ⟨j, out, done⟩ ⟨hk, hol, hout⟩
  simp only at hk hol hout
  by_cases hlt : j < t.length
  · have hx : t[j]? = some t[j] := List.getElem?_eq_getElem hlt
    have hg := encT_at hx
    have hd := drop_at hx
    have h1 : decide ((j : Int) < (t.length : Int)) = true := decide_eq_true (by omega)
    have w1 : IntKind.i64.wrap ((j : Int) + 1) = j + 1 := wrap_i64 (by omega) (by omega)
    generalize t[j] = x at hx hg hd
    rw [hd, setL] at hout
    cases done
    · repeat' (first | simp only [*, go_sem, Nat.reduceLT, Nat.reduceLeDiff, Nat.reduceEqDiff, ↓reduceIte, Nat.reduceAdd, Nat.reduceMul, Nat.reduceBEq, ] | with_reducible refine vcond_split (fun _ => ?_) (fun _ => ?_) | ((with_reducible refine And.intro ?_ ?_); (focus (first | omega | decide))))
      · rename_i ha hb
        simp only [ha, hb, Bool.not_false, Bool.true_and, if_true, Bool.false_or] at hout
        exact qr_ren (j + 1, out ++ [⟨p, ⟨k, m, tt, d⟩⟩] ++ [x], true) 1 5 ⟨by omega, by simp; omega, by simpa using hout⟩ (by simp; omega) rfl rfl (weak_mk rfl rfl rfl (by simp [wk_cons, wk_nil, look_cons, closedD, closedC, renT, renD, renC, ]))
      · rename_i ha hb
        simp only [ha, hb, Bool.not_false, Bool.true_and, if_true, Bool.false_or, Bool.false_eq_true, if_false] at hout
        exact qr_ren (j + 1, out ++ [⟨p, ⟨k, m, tt, d⟩⟩], true) 1 3 ⟨by omega, by simp; omega, by simpa using hout⟩ (by simp; omega) rfl rfl (weak_mk rfl rfl rfl (by simp [wk_cons, wk_nil, look_cons, closedD, closedC, renT, renD, renC, ]))
      · rename_i ha hb
        simp only [ha, hb, Bool.not_false, Bool.true_and, if_true, Bool.false_or, Bool.false_eq_true, if_false] at hout
        exact qr_ren (j + 1, out ++ [x], false) 1 3 ⟨by omega, by simp; omega, by simpa using hout⟩ (by simp; omega) rfl rfl (weak_mk rfl rfl rfl (by simp [wk_cons, wk_nil, look_cons, closedD, closedC, renT, renD, renC, ]))
      · rename_i ha hb
        simp only [ha, hb, Bool.not_false, Bool.true_and, Bool.false_or, Bool.false_eq_true, if_false] at hout
        exact qr_n (j + 1, out, false) ⟨by omega, by simp; omega, by simpa using hout⟩ (by simp; omega) (weak_mk rfl rfl rfl (by simp [wk_cons, wk_nil, look_cons, closedD, closedC, ]))
    · repeat' (first | simp only [*, go_sem, Nat.reduceLT, Nat.reduceLeDiff, Nat.reduceEqDiff, ↓reduceIte, Nat.reduceAdd, Nat.reduceMul, Nat.reduceBEq, ] | with_reducible refine vcond_split (fun _ => ?_) (fun _ => ?_) | ((with_reducible refine And.intro ?_ ?_); (focus (first | omega | decide))))
      · rename_i hb
        simp only [hb, Bool.not_true, Bool.false_and, if_true, Bool.true_or, Bool.false_eq_true, if_false] at hout
        exact qr_ren (j + 1, out ++ [x], true) 1 3 ⟨by omega, by simp; omega, by simpa using hout⟩ (by simp; omega) rfl rfl (weak_mk rfl rfl rfl (by simp [wk_cons, wk_nil, look_cons, closedD, closedC, renT, renD, renC, ]))
      · rename_i hb
        simp only [hb, Bool.not_true, Bool.false_and, Bool.true_or, Bool.false_eq_true, if_false] at hout
        exact qr_n (j + 1, out, true) ⟨by omega, by simp; omega, by simpa using hout⟩ (by simp; omega) (weak_mk rfl rfl rfl (by simp [wk_cons, wk_nil, look_cons, closedD, closedC, ]))
  · have h1 : decide ((j : Int) < (t.length : Int)) = false := decide_eq_false (by omega)
    rw [List.drop_of_length_le (by omega)] at hout
    cases done
    · simp only [setL, Bool.false_eq_true, if_false] at hout
      repeat' (first | simp only [*, go_sem, Nat.reduceLT, Nat.reduceLeDiff, Nat.reduceEqDiff, ↓reduceIte, Nat.reduceAdd, Nat.reduceMul, Nat.reduceBEq, ] | ((with_reducible refine And.intro ?_ ?_); (focus (first | omega | decide))))
      all_goals rw [List.take_of_length_le (by rw [← hout]; simp)]
    · simp only [setL, if_true, List.append_nil] at hout
      repeat' (simp only [*, go_sem, Nat.reduceLT, Nat.reduceEqDiff, ↓reduceIte, ])
      all_goals rw [hout]

end Go.Proofs.YtnbgaphhhjnjlaaGreatDoor
