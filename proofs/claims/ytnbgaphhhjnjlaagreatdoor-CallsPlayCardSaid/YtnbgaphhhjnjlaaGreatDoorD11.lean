import Derived.Test.YtnbgaphhhjnjlaaGreatDoorD8
import Derived.Test.YtnbgaphhhjnjlaaGreatDoorBB
import Derived.Test.YtnbgaphhhjnjlaaGreatDoorShelf
import Derived.Test.YtnbgaphhhjnjlaaGreatDoorSC

section
/-
  Contracts of the library and of the program on trees, and of a diff.
-/

set_option linter.unusedSimpArgs false
set_option linter.unusedVariables false
namespace Go.Proofs.YtnbgaphhhjnjlaaGreatDoor
open Go Go.Dm Go.Proofs
open Go Go.Dm
set_option maxRecDepth 100000
set_option maxHeartbeats 4000000

theorem strCmp_c {a b : List UInt8} : DCalls Tryz.prog 120 [.c (.p (.s a)), .c (.p (.s b))] [] fun r h => r = .c (.p (.i .i64 (cmpS a b))) ∧ h = [] := by
  rw [← compareBytes_eq]
  exact dcalls_strs (enters Tryz.func120 rfl rfl) (fun a b w => Tryz.strings_Compare a b w)

theorem sort_c {h : DHeap} {id : Nat} {ss : List (List UInt8)} (hid : h[id]? = some (.arr 1 (Go.Dm.encS ss) false)) (hsz : ss.length < 4611686018427387904) :
    DCalls Tryz.prog 100 [.c (.own id 0 ss.length)] h fun d h' => d = .tup [] ∧ h' = h.set id (.arr 1 (Go.Dm.encS (ss.mergeSort fun x y => decide (x ≤ y))) false) :=
  dcalls_sort (enters Tryz.func100 rfl rfl) (fun blk off cap ss w h1 h2 h3 => Tryz.slices_Sort_string blk off cap ss w h1 h2 h3) (fun p cap w => Tryz.slices_Sort_string_none p cap w) hid hsz

theorem find1_c {q : List UInt8} {k m : Int} {tt : Nat} {d p : List UInt8} : DCalls Tryz.prog 119 [.agg [.p (.s q), .p (.i .i64 k), .p (.i .i64 m), .p (.f tt), .p (.sl 1 (encB d))], .c (.p (.s p))] [] fun r h => r = .c (.p (.i .i64 (cmpS q p))) ∧ h = [] := by
  refine ent tabOK hmix Tryz.func119 rfl rfl fun X0 hX => ?_
  simp only [Tryz.f119, go_sem]
  repeat' (first | simp only [*, go_sem, Nat.reduceLT, Nat.reduceEqDiff, ↓reduceIte, ] | ((with_reducible refine useF (strCmp_c) ?_ ?_ ?_); (focus exact rfl); (focus exact rfl)))

def FindC (t : List It) (p : List UInt8) (i : Nat) : Prop := i ≤ t.length ∧ ∀ k x, t[k]? = some x → (k < i → bltL x.p p = true) ∧ (i ≤ k → bltL x.p p = false)
def foundF (t : List It) (p : List UInt8) (i : Nat) : Bool := match t[i]? with
  | some x => x.p == p
  | none => false
def findE (t : List It) (p : List UInt8) (i : Nat) : DV := .tup [.c (.p (.i .i64 i)), .c (.p (.b (foundF t p i)))]
theorem getR_none {p : List UInt8} : ∀ {t : List It}, (∀ x ∈ t, (x.p == p) = false) → getR t p = none
  | [], _ => rfl
  | x :: r, h => by
    rw [getR, if_neg (by rw [h x List.mem_cons_self]; decide)]
    exact getR_none fun y hy => h y (List.mem_cons_of_mem _ hy)
theorem getR_at {p : List UInt8} : ∀ {t : List It} {k : Nat} {x : It}, Srt t → t[k]? = some x → (x.p == p) = true → getR t p = some x.n
  | [], k, x, _, h, _ => by simp at h
  | y :: r, 0, x, _, h, hp => by
    simp only [List.getElem?_cons_zero, Option.some.injEq] at h
    subst h
    rw [getR, if_pos hp]
  | y :: r, k + 1, x, hs, h, hp => by
    simp only [List.getElem?_cons_succ] at h
    have hs := List.pairwise_cons.1 hs
    have := hs.1 x (List.mem_of_getElem? h)
    rw [eq_of_beq hp] at this
    rw [getR, if_neg (by rw [blt_ne this]; decide)]
    exact getR_at hs.2 h hp
theorem find_no {t : List It} {p : List UInt8} {i : Nat} (hs : Srt t) (h : FindC t p i) (hf : foundF t p i = false) : getR t p = none := by
  refine getR_none fun x hx => ?_
  obtain ⟨k, hk⟩ := List.getElem?_of_mem hx
  cases he : x.p == p
  · rfl
  · have h1 := h.2 k x hk
    rcases Nat.lt_trichotomy k i with hki | rfl | hki
    · have := h1.1 hki; rw [eq_of_beq he, blt_irrefl] at this; cases this
    · unfold foundF at hf; rw [hk] at hf; simp only at hf; rw [he] at hf; cases hf
    · have hil : i < t.length := Nat.lt_trans hki (List.getElem?_eq_some_iff.1 hk).1
      have h2 := h.2 i t[i] (List.getElem?_eq_getElem hil)
      have h3 := List.pairwise_iff_getElem.1 hs i k hil (List.getElem?_eq_some_iff.1 hk).1 hki
      rw [(List.getElem?_eq_some_iff.1 hk).2, eq_of_beq he, h2.2 (Nat.le_refl _)] at h3; cases h3

theorem bsearch_c {t : List It} {p : List UInt8} (ht : t.length ≤ 1000000) (hs : Srt t) :
    DCalls Tryz.prog 118 [.c (.p (.sl 5 (encT t))), .c (.p (.s p)), .c (.clo 119 [])] [] fun r h =>
      ∃ i : Nat, FindC t p i ∧ r = findE t p i ∧ h = [] := by
  have hmon : ∀ (k k' : Nat) (x x' : It), t[k]? = some x → t[k']? = some x' → k < k' → bltL x.p x'.p = true := fun k k' x x' h1 h2 h3 => by
    obtain ⟨h4, rfl⟩ := List.getElem?_eq_some_iff.1 h1
    obtain ⟨h5, rfl⟩ := List.getElem?_eq_some_iff.1 h2
    exact List.pairwise_iff_getElem.1 hs _ _ h4 h5 h3
  refine ent tabOK hmix Tryz.func118 rfl rfl fun X0 hX => ?_
  simp only [Tryz.f118, go_sem]
  repeat' (simp only [*, go_sem, Nat.reduceLT, Nat.reduceEqDiff, ↓reduceIte, Nat.reduceAdd, ])
  refine loop_ren tabOK hmix (α := Nat × Nat) (fun x => ⟨49, [(0, .c (.p (.sl 5 (encT t)))), (1, .c (.p (.s p))), (2, .c (.clo 119 [])), (8, .c (.p (.i .i64 t.length))), (9, .c (.p (.i .i64 x.1))), (10, .c (.p (.i .i64 x.2)))], []⟩)
    (fun x => x.1 ≤ x.2 ∧ x.2 ≤ t.length ∧ ∀ k y, t[k]? = some y → (k < x.1 → bltL y.p p = true) ∧ (x.2 ≤ k → bltL y.p p = false)) (fun x => x.2 - x.1) (0, t.length) ⟨Nat.zero_le _, Nat.le_refl _, fun k y hy => ⟨fun h => by omega, fun h => by rw [List.getElem?_eq_none h] at hy; cases hy⟩⟩ (.inl (weak_mk (by rw [hX]; rfl) rfl rfl (by simp [wk_cons, wk_nil, look_cons, closedD, closedC, ]))) ?_
  rintro ⟨i, j⟩ ⟨hij, hj, hl⟩
  simp only at hij hj hl
  by_cases hlt : i < j
  · have h1 : decide ((i : Int) < (j : Int)) = true := decide_eq_true (by omega)
    have w1 : IntKind.i64.wrap ((i : Int) + j) = (i : Int) + j := wrap_i64 (by omega) (by omega)
    have w2 : IntKind.u64.wrap ((i : Int) + j) = (i : Int) + j := wrap_u64 (by omega) (by omega)
    obtain ⟨m, hm, hmi, hmj⟩ : ∃ m : Nat, ((i : Int) + j).fdiv (2 ^ min 1 64) = (m : Int) ∧ i ≤ m ∧ m < j :=
      ⟨(i + j) / 2, by rw [show (2 : Int) ^ min 1 64 = 2 from rfl, Int.fdiv_eq_ediv_of_nonneg _ (by decide)]; omega, by omega, by omega⟩
    have w3 : IntKind.i64.wrap (m : Int) = m := wrap_i64 (by omega) (by omega)
    have w4 : IntKind.i64.wrap ((m : Int) + 1) = m + 1 := wrap_i64 (by omega) (by omega)
    have hml : m < t.length := by omega
    have hx : t[m]? = some t[m] := List.getElem?_eq_getElem hml
    have hg := encT_at hx
    generalize t[m] = x at hx hg
    repeat' (first | simp only [*, go_sem, Nat.reduceLT, Nat.reduceLeDiff, Nat.reduceEqDiff, ↓reduceIte, Nat.reduceAdd, Int.reduceLE, Int.reduceToNat, ] | ((with_reducible refine useF (find1_c) ?_ ?_ ?_); (focus exact rfl); (focus exact rfl)) | with_reducible refine vcond_split (fun _ => ?_) (fun _ => ?_) | ((with_reducible refine And.intro ?_ ?_); (focus (omega))))
    · rename_i hb
      have hb : bltL x.p p = true := by rw [← cmpS_lt]; exact hb
      exact qr_n (m + 1, j) ⟨by simp only; omega, hj, fun k y hy => ⟨fun hk => by
        rcases Nat.lt_or_ge k m with h | h
        · exact blt_trans (hmon _ _ _ _ hy hx h) hb
        · have : k = m := by simp only at hk; omega
          subst this; rw [hx] at hy; cases hy; exact hb, (hl k y hy).2⟩⟩ (by simp only; omega) (weak_mk rfl rfl rfl (by simp [wk_cons, wk_nil, look_cons, closedD, closedC, ]))
    · rename_i hb
      have hb : bltL x.p p = false := by rw [← cmpS_lt]; exact hb
      exact qr_n (i, m) ⟨hmi, by simp only; omega, fun k y hy => ⟨(hl k y hy).1, fun hk => by
        rcases Nat.lt_or_ge m k with h | h
        · cases hc : bltL y.p p
          · rfl
          · have := blt_trans (hmon _ _ _ _ hx hy h) hc
            rw [hb] at this; cases this
        · have : k = m := by simp only at hk; omega
          subst this; rw [hx] at hy; cases hy; exact hb⟩⟩ (by simp only; omega) (weak_mk rfl rfl rfl (by simp [wk_cons, wk_nil, look_cons, closedD, closedC, ]))
  · have h1 : decide ((i : Int) < (j : Int)) = false := decide_eq_false (by omega)
    have : i = j := by omega
    subst this
    by_cases hil : i < t.length
    · have hx : t[i]? = some t[i] := List.getElem?_eq_getElem hil
      have hg := encT_at hx
      have h2 : decide ((i : Int) < (t.length : Int)) = true := decide_eq_true (by omega)
      generalize t[i] = x at hx hg
      repeat' (first | simp only [*, go_sem, Nat.reduceLT, Nat.reduceLeDiff, Nat.reduceEqDiff, ↓reduceIte, Nat.reduceAdd, ] | ((with_reducible refine useF (find1_c) ?_ ?_ ?_); (focus exact rfl); (focus exact rfl)) | ((with_reducible refine And.intro ?_ ?_); (focus (omega))))
      refine ⟨i, ⟨hj, hl⟩, ?_⟩
      simp only [findE, foundF, hx, cmpS_eq]
    · have h2 : decide ((i : Int) < (t.length : Int)) = false := decide_eq_false (by omega)
      repeat' (simp only [*, go_sem, Nat.reduceLT, Nat.reduceEqDiff, ↓reduceIte, ])
      refine ⟨i, ⟨hj, hl⟩, ?_⟩
      simp only [findE, foundF, List.getElem?_eq_none (Nat.le_of_not_lt hil)]

theorem find_c {t : List It} {p : List UInt8} (ht : t.length ≤ 1000000) (hs : Srt t) :
    DCalls Tryz.prog 92 [.c (.p (.sl 5 (encT t))), .c (.p (.s p))] [] fun r h => ∃ i : Nat, FindC t p i ∧ r = findE t p i ∧ h = [] := by
  refine ent tabOK hmix Tryz.func92 rfl rfl fun X0 hX => ?_
  simp only [Tryz.f92, go_sem]
  repeat' (simp only [*, go_sem, Nat.reduceLT, Nat.reduceEqDiff, ↓reduceIte, ])
  refine useFE (bsearch_c ht hs) rfl (fun _ _ => rfl) fun i hi => ?_
  unfold findE
  repeat' (simp only [*, go_sem, Nat.reduceLT, Nat.reduceEqDiff, ↓reduceIte, ])
  exact ⟨i, hi, rfl⟩

theorem treeGet_c {t : List It} {p : List UInt8} (ht : t.length ≤ 1000000) (hs : Srt t) (hne : ∀ x ∈ t, x.p ≠ []) (hdl : ∀ x ∈ t, x.n.d.length ≤ 140737488355328) :
    DCalls Tryz.prog 63 [.c (.p (.sl 5 (encT t))), .c (.p (.s p))] [] fun r h => r = .tup [.agg ((getR t p).getD nd0).cv, .c (.p (.b (getR t p).isSome))] ∧ h = [] := by
  refine dcalls_wk ?_
  refine ent tabOK hmix Tryz.func63 rfl rfl fun X0 hX => ?_
  simp only [Tryz.f63, go_sem]
  repeat' (simp only [*, go_sem, Nat.reduceLT, Nat.reduceEqDiff, ↓reduceIte, ])
  refine useFE (find_c ht hs) rfl (fun _ _ => rfl) fun i hi => ?_
  unfold findE
  cases hf : foundF t p i
  · have hg := find_no hs hi hf
    rw [hg]
    repeat' (simp only [*, go_sem, Nat.reduceLT, Nat.reduceLeDiff, Nat.reduceEqDiff, ↓reduceIte, Nat.reduceAdd, ])
    all_goals simp [nd0, encB_nil]
  · unfold foundF at hf
    cases hx : t[i]? with
    | none => rw [hx] at hf; cases hf
    | some x =>
      rw [hx] at hf
      simp only at hf
      have hg := getR_at hs hx hf
      have hxm := List.mem_of_getElem? hx
      have hpe : (p == []) = false := by
        rw [← eq_of_beq hf]
        have := hne x hxm
        simpa using this
      have he := encT_at hx
      have hil : i < t.length := (List.getElem?_eq_some_iff.1 hx).1
      have hxd := hdl x hxm
      rw [hg]
      clear hg
      repeat' (first | simp only [*, go_sem, Nat.reduceLT, Nat.reduceLeDiff, Nat.reduceEqDiff, ↓reduceIte, Nat.reduceAdd, ] | ((with_reducible refine useN (copy_c hxd) ?_ ?_ ?_); (focus exact rfl); (focus exact fun _ => rfl)) | ((with_reducible refine And.intro ?_ ?_); (focus (omega))))
      all_goals simp

end Go.Proofs.YtnbgaphhhjnjlaaGreatDoor

end

section
/-
  The contract of the program's diff.
-/

set_option linter.unusedSimpArgs false
set_option linter.unusedVariables false
namespace Go.Proofs.YtnbgaphhhjnjlaaGreatDoor
open Go Go.Dm
set_option maxRecDepth 100000
set_option maxHeartbeats 4000000

theorem sort_k {h : DHeap} {id : Nat} {ss : List (List UInt8)} {K : DV → DHeap → Prop} (hid : h[id]? = some (.arr 1 (Go.Dm.encS ss) false)) (hsz : ss.length < 4611686018427387904)
    (hk : K (.tup []) (h.set id (.arr 1 (Go.Dm.encS (ss.mergeSort fun x y => decide (x ≤ y))) false))) : DCalls Tryz.prog 100 [.c (.own id 0 ss.length)] h K :=
  DCalls.mono (sort_c hid hsz) (by rintro d h' ⟨rfl, rfl⟩; exact hk)

end Go.Proofs.YtnbgaphhhjnjlaaGreatDoor

end
