import Derived.Test.YtnbgaphhhjnjlaaGreatDoorE1
import Derived.Test.YtnbgaphhhjnjlaaGreatDoorD11
import Derived.Test.YtnbgaphhhjnjlaaGreatDoorSC
import Derived.Test.YtnbgaphhhjnjlaaGreatDoorVB

section
/-
  Contracts of the program's trees: a path's parts, whether a tree is right, whether a directory is there.
-/

set_option linter.unusedSimpArgs false
set_option linter.unusedVariables false
namespace Go.Proofs.YtnbgaphhhjnjlaaGreatDoor
open Go Go.Dm
set_option maxRecDepth 100000
set_option maxHeartbeats 4000000

theorem lastIndexByte_c {a : List UInt8} {c : Int} (ha : a.length < 4611686018427387904) : DCalls Tryz.prog 93 [.c (.p (.s a)), .c (.p (.i .u8 c))] [] fun r h => r = .c (.p (.i .i64 (Lib.lastIndexByte ⟨a.toArray⟩ c))) ∧ h = [] :=
  dcalls_strbyte (N := 4611686018427387904) (g := fun a c => Lib.lastIndexByte ⟨a.toArray⟩ c) (enters Tryz.func93 rfl rfl) (fun a c w h => Tryz.strings_LastIndexByte ⟨a.toArray⟩ c (by simpa [ByteArray.size] using h) w) ha

theorem hasPrefix_c {a b : List UInt8} : DCalls Tryz.prog 129 [.c (.p (.s a)), .c (.p (.s b))] [] fun r h => r = .c (.p (.b (b.isPrefixOf a))) ∧ h = [] :=
  dcalls_strbool (g := fun a b => b.isPrefixOf a) (enters Tryz.func129 rfl rfl) (fun a b w => Tryz.strings_HasPrefix a b w)

theorem nameDir_c {p : List UInt8} (hp : p.length ≤ 1000000000) : DCalls Tryz.prog 56 [.c (.p (.s p))] [] fun r h => r = .c (.p (.s (dirOfR p))) ∧ h = [] := by
  have hl := lastIndexByte_c (a := p) (c := 47) (by omega)
  rw [lastIndexByte_eq] at hl
  unfold dirOfR
  cases hs : lastSlash p p.length with
  | none =>
    rw [hs] at hl
    simp only at hl ⊢
    clear hs
    refine ent tabOK hmix Tryz.func56 rfl rfl fun X0 hX => ?_
    simp only [Tryz.f56, go_sem]
    repeat' (first | simp only [*, go_sem, Nat.reduceLT, Nat.reduceEqDiff, ↓reduceIte, Int.reduceLT, Int.reduceLE, Int.reduceNeg, Int.reduceToNat, ] | ((with_reducible refine useF (hl) ?_ ?_ ?_); (focus exact rfl); (focus exact rfl)))
    all_goals simp
  | some j =>
    rw [hs] at hl
    have hj := lastSlash_lt hs
    have hm : max (0 : Int) (j : Int) = j := by omega
    simp only at hl ⊢
    clear hs
    have hj2 : (j : Int) ≤ p.length := by omega
    have hj3 : (0 : Int) ≤ j := by omega
    have hj4 : (if (0 : Int) < (j : Int) then (j : Int) else 0) = j := by split <;> omega
    refine ent tabOK hmix Tryz.func56 rfl rfl fun X0 hX => ?_
    simp only [Tryz.f56, go_sem]
    repeat' (first | simp only [*, go_sem, Nat.reduceLT, Nat.reduceEqDiff, ↓reduceIte, Int.reduceLE, Int.reduceToNat, ] | ((with_reducible refine useF (hl) ?_ ?_ ?_); (focus exact rfl); (focus exact rfl)))
    all_goals first | (rw [hj4]; done) | (rw [hj4]; omega) | (rw [hj4]; rfl) | skip

theorem nameBase_c {p : List UInt8} (hp : p.length ≤ 1000000000) : DCalls Tryz.prog 99 [.c (.p (.s p))] [] fun r h => r = .c (.p (.s (baseF p))) ∧ h = [] := by
  have hl := lastIndexByte_c (a := p) (c := 47) (by omega)
  rw [lastIndexByte_eq] at hl
  unfold baseF
  cases hs : lastSlash p p.length with
  | none =>
    rw [hs] at hl
    simp only at hl ⊢
    clear hs
    have w1 : IntKind.i64.wrap (-1 + 1) = 0 := by decide +kernel
    refine ent tabOK hmix Tryz.func99 rfl rfl fun X0 hX => ?_
    simp only [Tryz.f99, go_sem]
    repeat' (first | simp only [*, go_sem, Nat.reduceLT, Nat.reduceEqDiff, ↓reduceIte, Int.reduceLE, Int.reduceAdd, Int.reduceNeg, Int.reduceToNat, ] | ((with_reducible refine useF (hl) ?_ ?_ ?_); (focus exact rfl); (focus exact rfl)) | ((with_reducible refine And.intro ?_ ?_); (focus (omega))))
    all_goals simp
  | some j =>
    rw [hs] at hl
    have hj := lastSlash_lt hs
    have w1 : IntKind.i64.wrap ((j : Int) + 1) = (j + 1 : Nat) := wrap_i64 (by omega) (by omega)
    simp only at hl ⊢
    clear hs
    have hj2 : ((j + 1 : Nat) : Int) ≤ p.length := by omega
    refine ent tabOK hmix Tryz.func99 rfl rfl fun X0 hX => ?_
    simp only [Tryz.f99, go_sem]
    repeat' (first | simp only [*, go_sem, Nat.reduceLT, Nat.reduceEqDiff, ↓reduceIte, ] | ((with_reducible refine useF (hl) ?_ ?_ ?_); (focus exact rfl); (focus exact rfl)) | ((with_reducible refine And.intro ?_ ?_); (focus (omega))))
    all_goals simp

theorem nameBelow_c {p q : List UInt8} (hpl : p.length ≤ 1000000000) : DCalls Tryz.prog 105 [.c (.p (.s p)), .c (.p (.s q))] [] fun r h => r = .c (.p (.b (belowR p q))) ∧ h = [] := by
  by_cases hp : p = []
  · subst hp
    refine ent tabOK hmix Tryz.func105 rfl rfl fun X0 hX => ?_
    simp only [Tryz.f105, go_sem]
    repeat' (simp only [*, go_sem, Nat.reduceLT, Nat.reduceEqDiff, ↓reduceIte, beq_self_eq_true])
    all_goals simp [belowR]
  · have q0 : (p == []) = false := by simpa using hp
    have hb := below_prefix (q := q) hp
    refine ent tabOK hmix Tryz.func105 rfl rfl fun X0 hX => ?_
    simp only [Tryz.f105, go_sem]
    repeat' (first | simp only [*, go_sem, Nat.reduceLT, Nat.reduceLeDiff, Nat.reduceEqDiff, ↓reduceIte, ] | ((with_reducible refine useF (hasPrefix_c) ?_ ?_ ?_); (focus exact rfl); (focus exact rfl)) | ((with_reducible refine And.intro ?_ ?_); (focus (omega))))

theorem treeIsDir_c {t : List It} {p : List UInt8} (ht : t.length ≤ 1000000) (hs : Srt t) :
    DCalls Tryz.prog 55 [.c (.p (.sl 5 (encT t))), .c (.p (.s p))] [] fun r h => r = .c (.p (.b (isDirR t p))) ∧ h = [] := by
  refine ent tabOK hmix Tryz.func55 rfl rfl fun X0 hX => ?_
  simp only [Tryz.f55, go_sem]
  repeat' (simp only [*, go_sem, Nat.reduceLT, Nat.reduceEqDiff, ↓reduceIte, ])
  refine useFE (find_c ht hs) rfl (fun _ _ => rfl) fun i hi => ?_
  unfold findE isDirR
  cases hf : foundF t p i
  · have hg := find_no hs hi hf
    rw [hg]
    cases q : (p == [])
    · repeat' (simp only [*, go_sem, Nat.reduceLT, Nat.reduceEqDiff, ↓reduceIte, ])
    · repeat' (simp only [*, go_sem, Nat.reduceLT, Nat.reduceEqDiff, ↓reduceIte, ])
  · unfold foundF at hf
    cases hx : t[i]? with
    | none => rw [hx] at hf; cases hf
    | some x =>
      rw [hx] at hf
      simp only at hf
      have hg := getR_at hs hx hf
      have he := encT_at hx
      have hil : (i : Int) < t.length := by have := (List.getElem?_eq_some_iff.1 hx).1; omega
      have hi0 : (0 : Int) ≤ i := by omega
      rw [hg]
      clear hg hf hi
      cases q : (p == [])
      · repeat' (simp only [*, go_sem, Nat.reduceLT, Nat.reduceEqDiff, ↓reduceIte, ])
      · repeat' (simp only [*, go_sem, Nat.reduceLT, Nat.reduceEqDiff, ↓reduceIte, ])

end Go.Proofs.YtnbgaphhhjnjlaaGreatDoor

end

section
/-
  Contracts of the program's trees: what goes, names.
-/

set_option linter.unusedSimpArgs false
set_option linter.unusedVariables false
namespace Go.Proofs.YtnbgaphhhjnjlaaGreatDoor
open Go Go.Dm
set_option maxRecDepth 100000
set_option maxHeartbeats 4000000

theorem copyT_c {t : List It} (ht : t.length ≤ 1000000) (hd : ∀ x ∈ t, x.n.d.length ≤ 140737488355328) :
    DCalls Tryz.prog 31 [.c (.p (.sl 5 (encT t)))] [] fun r h => r = .c (.own 0 0 t.length) ∧ h = [.arr 5 (encT t) false] := by
  refine entO tabOK hmix Tryz.func31 rfl rfl fun X0 hX => ?_
  simp only [Tryz.f31, go_sem]
  repeat' (simp only [*, go_sem, Nat.reduceLT, Nat.reduceEqDiff, ↓reduceIte, ])
  refine vc_virt tabOK hmix 3 5 rfl ?_
  refine loop_ren tabOK hmix (α := Nat) (fun k => ⟨23, [(6, .c (.p (.sl 5 (encT t)))), (7, .c (.p (.i .i64 t.length))), (8, .c (.p (.i .i64 k))), (3, .c (.own 0 0 k))], [.arr 5 (encT (t.take k)) false]⟩)
    (fun k => k ≤ t.length) (fun k => t.length - k) 0 (Nat.zero_le _) (.inl (weak_mk (by rw [hX]; rfl) rfl rfl (by simp [wk_cons, wk_nil, look_cons, closedD, closedC, encT_nil, ]))) ?_
  intro k hk
  have hmn : min k t.length = k := Nat.min_eq_left hk
  have hln : (t.take k).length = k := by rw [List.length_take, hmn]
  by_cases hlt : k < t.length
  · have hx : t[k]? = some t[k] := List.getElem?_eq_getElem hlt
    have hg := encT_at hx
    have h1 : decide ((k : Int) < (t.length : Int)) = true := decide_eq_true (by omega)
    have w1 : IntKind.i64.wrap ((k : Int) + 1) = k + 1 := wrap_i64 (by omega) (by omega)
    have hnx : t.take (k + 1) = t.take k ++ [⟨t[k].p, t[k].n⟩] := by rw [List.take_add_one, hx]; rfl
    have hdx := hd _ (List.getElem_mem hlt)
    generalize t[k] = x at hx hg hnx hdx
    generalize hrow : t.take k = row at hln hnx
    clear hx hrow hd
    repeat' (first | simp only [*, go_sem, Nat.reduceLT, Nat.reduceLeDiff, Nat.reduceEqDiff, ↓reduceIte, Nat.reduceAdd, ] | ((refine vc_drawn (id := 5) tabOK hmix [7,8] [1,2,3,4,5,6,7,0,8,9] (by decide +kernel) ?_); (repeat' (first | (refine ds_nil ?_) | ((refine ds_chg ?_ ?_ rfl rfl rfl ?_ ?_); (rotate_left 2); (focus ((repeat' (first | simp only [*, go_sem, Nat.reduceLT, Nat.reduceLeDiff, Nat.reduceEqDiff, ↓reduceIte, Nat.reduceAdd, Nat.reduceMul, Nat.reduceBEq, ] | ((with_reducible refine And.intro ?_ ?_); (focus (first | omega | decide))))); ((refine And.intro ?_ ?_ <;> exact rfl)))); (simp only [putF_some])) | ((refine ds_all ?_ rfl rfl rfl ?_ ?_); (rotate_left 1); (focus ((repeat' (first | exact allH_nil | refine allH_cons ?_ ?_)); (all_goals ((repeat' (first | simp only [*, go_sem, Nat.reduceLT, Nat.reduceLeDiff, Nat.reduceEqDiff, ↓reduceIte, Nat.reduceAdd, ] | ((with_reducible refine useN (copy_c hdx) ?_ ?_ ?_); (focus exact rfl); (focus exact fun _ => rfl)))); (try (exact rfl)))))); (simp only [putF_some]))))) | ((with_reducible refine And.intro ?_ ?_); (focus (omega))))
    exact qr_ren (k + 1) 0 3 (by omega) (by omega) rfl rfl (weak_mk rfl (by rw [hnx]; rfl) rfl (by simp [wk_cons, wk_nil, look_cons, closedD, closedC, renT, renD, renC, ]))
  · have h1 : decide ((k : Int) < (t.length : Int)) = false := decide_eq_false (by omega)
    have hk2 : k = t.length := by omega
    subst hk2
    rw [List.take_length]
    clear hln hmn
    repeat' (simp only [*, go_sem, Nat.reduceLT, Nat.reduceEqDiff, ↓reduceIte, ])
    exact ⟨rfl, Nat.zero_le _, rfl, _, _, rfl, rfl, rfl⟩

/-- What goes with a path. -/
def goF (p : List UInt8) (it : Bool) (x : It) : Bool := belowR p x.p || (it && x.p == p)

theorem del1_c {q p : List UInt8} {it : Bool} {k m : Int} {tt : Nat} {d : List UInt8} {es : List (List PV)} (hp : p.length ≤ 1000000000) :
    DCalls Tryz.prog 135 [.agg [.p (.s q), .p (.i .i64 k), .p (.i .i64 m), .p (.f tt), .p (.sl 1 (encB d))], .c (.ptr 0 0), .c (.ptr 1 0)] [.box [.p (.s p)], .box [.p (.b it)], .arr 5 es false]
      fun r h => r = .c (.p (.b (belowR p q || (it && q == p)))) ∧ h = [.box [.p (.s p)], .box [.p (.b it)], .arr 5 es false] := by
  refine ent tabOK hmix Tryz.func135 rfl rfl fun X0 hX => ?_
  simp only [Tryz.f135, go_sem]
  repeat' (first | simp only [*, go_sem, Nat.reduceLT, Nat.reduceEqDiff, ↓reduceIte, Nat.reduceAdd, closedB, closedC] | ((with_reducible refine useF (nameBelow_c hp) ?_ ?_ ?_); (focus exact rfl); (focus exact rfl)) | with_reducible refine vg_split (fun _ => ?_) (fun _ => ?_))
  all_goals simp_all

theorem del2_c {q p : List UInt8} {it : Bool} {k m : Int} {tt : Nat} {d : List UInt8} {es : List (List PV)} (hp : p.length ≤ 1000000000) :
    DCalls Tryz.prog 135 [.agg [.p (.s q), .p (.i .i64 k), .p (.i .i64 m), .p (.f tt), .p (.sl 1 (encB d))], .c (.ptr 0 0), .c (.ptr 1 0)] [.box [.p (.s p)], .box [.p (.b it)], .arr 5 es false, .box [.p (.s q), .p (.i .i64 k), .p (.i .i64 m), .p (.f tt), .p (.sl 1 (encB d))]]
      fun r h => r = .c (.p (.b (belowR p q || (it && q == p)))) ∧ h = [.box [.p (.s p)], .box [.p (.b it)], .arr 5 es false, .box [.p (.s q), .p (.i .i64 k), .p (.i .i64 m), .p (.f tt), .p (.sl 1 (encB d))]] := by
  refine ent tabOK hmix Tryz.func135 rfl rfl fun X0 hX => ?_
  simp only [Tryz.f135, go_sem]
  repeat' (first | simp only [*, go_sem, Nat.reduceLT, Nat.reduceEqDiff, ↓reduceIte, Nat.reduceAdd, closedB, closedC] | ((with_reducible refine useF (nameBelow_c hp) ?_ ?_ ?_); (focus exact rfl); (focus exact rfl)) | with_reducible refine vg_split (fun _ => ?_) (fun _ => ?_))
  all_goals simp_all

theorem index_c {t : List It} {p : List UInt8} {it : Bool} (hp : p.length ≤ 1000000000) (ht : t.length ≤ 1000000) :
    DCalls Tryz.prog 161 [.c (.own 2 0 t.length), .c (.clo 135 [.ptr 0 0, .ptr 1 0])] [.box [.p (.s p)], .box [.p (.b it)], .arr 5 (encT t) false]
      fun r h => (∃ i : Nat, i ≤ t.length ∧ (∀ j x, t[j]? = some x → j < i → goF p it x = false) ∧ ((∃ x, t[i]? = some x ∧ goF p it x = true ∧ r = .c (.p (.i .i64 i))) ∨ (i = t.length ∧ r = .c (.p (.i .i64 (-1)))))) ∧ h = [.box [.p (.s p)], .box [.p (.b it)], .arr 5 (encT t) false] := by
  refine ent tabOK hmix Tryz.func161 rfl rfl fun X0 hX => ?_
  simp only [Tryz.f161, go_sem]
  repeat' (simp only [*, go_sem, Nat.reduceLT, Nat.reduceEqDiff, ↓reduceIte, Nat.reduceAdd, Int.reduceNeg, ])
  refine loop_ren tabOK hmix (α := Nat) (fun k => ⟨19, [(0, .c (.own 2 0 t.length)), (1, .c (.clo 135 [.ptr 0 0, .ptr 1 0])), (7, .c (.p (.i .i64 t.length))), (8, .c (.p (.i .i64 k)))], [.box [.p (.s p)], .box [.p (.b it)], .arr 5 (encT t) false]⟩)
    (fun k => k ≤ t.length ∧ ∀ j x, t[j]? = some x → j < k → goF p it x = false) (fun k => t.length - k) 0 ⟨Nat.zero_le _, fun j x _ h => by omega⟩ (.inl (weak_mk (by rw [hX]; rfl) rfl rfl (by simp [wk_cons, wk_nil, look_cons, closedD, closedC, closedK]))) ?_
  rintro k ⟨hk, hs⟩
  by_cases hlt : k < t.length
  · have hx : t[k]? = some t[k] := List.getElem?_eq_getElem hlt
    have hg := encT_at hx
    have h1 : decide ((k : Int) < (t.length : Int)) = true := decide_eq_true (by omega)
    have hli : (k : Int) < (t.length : Int) := by omega
    have w1 : IntKind.i64.wrap ((k : Int) + 1) = k + 1 := wrap_i64 (by omega) (by omega)
    generalize t[k] = x at hx hg
    cases hb : goF p it x
    · have hs' : k + 1 ≤ t.length ∧ ∀ j y, t[j]? = some y → j < k + 1 → goF p it y = false := ⟨by omega, fun j y hy hj => by
        rcases Nat.lt_or_ge j k with h | h
        · exact hs j y hy h
        · have : j = k := by omega
          subst this; rw [hx] at hy; cases hy; exact hb⟩
      have hb2 : (belowR p x.p || (it && x.p == p)) = false := hb
      clear hs hx hb
      repeat' (first | simp only [*, go_sem, Nat.reduceLT, Nat.reduceLeDiff, Nat.reduceEqDiff, ↓reduceIte, Nat.reduceAdd, Int.reduceNeg, ] | ((with_reducible refine And.intro ?_ ?_); (focus (omega))))
      refine DCalls.mono (del1_c hp) ?_
      rintro _ _ ⟨rfl, rfl⟩
      rw [hb2]
      repeat' (simp only [*, go_sem, Nat.reduceLT, Nat.reduceEqDiff, ↓reduceIte, Int.reduceNeg, ])
      exact qr_n (k + 1) hs' (by omega) (weak_mk rfl rfl rfl (by simp [wk_cons, wk_nil, look_cons, closedD, closedC, closedK]))
    · have hb2 : (belowR p x.p || (it && x.p == p)) = true := hb
      repeat' (first | simp only [*, go_sem, Nat.reduceLT, Nat.reduceLeDiff, Nat.reduceEqDiff, ↓reduceIte, Nat.reduceAdd, Int.reduceNeg, ] | ((with_reducible refine And.intro ?_ ?_); (focus (omega))))
      refine DCalls.mono (del1_c hp) ?_
      rintro _ _ ⟨rfl, rfl⟩
      rw [hb2]
      clear hb2
      repeat' (simp only [*, go_sem, Nat.reduceLT, Nat.reduceEqDiff, ↓reduceIte, Int.reduceNeg, closedB, closedC])
      exact ⟨k, hk, hs, .inl ⟨x, hx, hb, rfl⟩⟩
  · have h1 : decide ((k : Int) < (t.length : Int)) = false := decide_eq_false (by omega)
    have hk2 : k = t.length := by omega
    subst hk2
    repeat' (simp only [*, go_sem, Nat.reduceLT, Nat.reduceEqDiff, ↓reduceIte, Nat.reduceAdd, Int.reduceNeg, closedB, closedC])
    refine ⟨t.length, Nat.le_refl _, hs, .inr ?_⟩
    first | exact ⟨rfl, rfl⟩ | rfl

theorem encT_set (t : List It) (i : Nat) (x : It) : (encT t).set i [.s x.p, .i .i64 x.n.k, .i .i64 x.n.m, .f x.n.t, .sl 1 (encB x.n.d)] = encT (t.set i x) := by
  unfold encT
  rw [List.map_set]; rfl

theorem delete_c {t : List It} {p : List UInt8} {it : Bool} {K : DV → DHeap → Prop} (hp : p.length ≤ 1000000000) (ht : t.length ≤ 1000000)
    (hk : ∀ es : List (List PV), es.take (t.filter fun x => !goF p it x).length = encT (t.filter fun x => !goF p it x) → K (.c (.own 2 0 (t.filter fun x => !goF p it x).length)) [.box [.p (.s p)], .box [.p (.b it)], .arr 5 es false]) :
    DCalls Tryz.prog 134 [.c (.own 2 0 t.length), .c (.clo 135 [.ptr 0 0, .ptr 1 0])] [.box [.p (.s p)], .box [.p (.b it)], .arr 5 (encT t) false] K := by
  refine entR tabOK hmix Tryz.func134 rfl rfl fun X0 hX => ?_
  simp only [Tryz.f134, go_sem]
  repeat' (simp only [*, go_sem, Nat.reduceLT, Nat.reduceEqDiff, ↓reduceIte, Int.reduceNeg, ])
  refine DCalls.mono (index_c hp ht) ?_
  rintro _ _ ⟨⟨i0, hi0, hbef, hcase⟩, rfl⟩
  rcases hcase with ⟨x0, hx0, hg0, rfl⟩ | ⟨rfl, rfl⟩
  · have hil : i0 < t.length := (List.getElem?_eq_some_iff.1 hx0).1
    have q : ((i0 : Int) == -1) = false := by rw [beq_eq_false_iff_ne]; omega
    have w0 : IntKind.i64.wrap ((i0 : Int) + 1) = (i0 + 1 : Nat) := wrap_i64 (by omega) (by omega)
    repeat' (simp only [*, go_sem, Nat.reduceLT, Nat.reduceEqDiff, ↓reduceIte, Int.reduceNeg, ])
    have hself : (t.take i0).filter (fun x => !goF p it x) = t.take i0 := List.filter_eq_self.2 fun x hx => by
      obtain ⟨j, hj, rfl⟩ := List.mem_iff_getElem.1 hx
      rw [List.getElem_take]
      have hj2 : j < i0 := by simp at hj; omega
      rw [hbef j _ (List.getElem?_eq_getElem (by omega)) hj2]; rfl
    have h0 : (t.take (i0 + 1)).filter (fun x => !goF p it x) = t.take i0 := by
      rw [filter_next hx0, hself, hg0]; simp
    refine loop_ren tabOK hmix (α := Nat × Nat × List It) (fun x => ⟨42, [(0, .c (.own 2 0 t.length)), (1, .c (.clo 135 [.ptr 0 0, .ptr 1 0])), (5, .c (.p (.i .i64 x.2.1))), (6, .c (.p (.i .i64 x.1)))], [.box [.p (.s p)], .box [.p (.b it)], .arr 5 (encT x.2.2) false]⟩)
      (fun x => x.1 ≤ t.length ∧ x.2.1 < x.1 ∧ x.2.2.length = t.length ∧ x.2.2.take x.2.1 = (t.take x.1).filter (fun x => !goF p it x) ∧ x.2.2.drop x.1 = t.drop x.1) (fun x => t.length - x.1) (i0 + 1, i0, t)
      ⟨by omega, by simp, rfl, by rw [h0], rfl⟩ (.inl (weak_mk (by rw [hX]; rfl) rfl rfl (by simp [wk_cons, wk_nil, look_cons, closedD, closedC, closedK]))) ?_
    clear hself h0 hbef hx0 hg0 q w0 hil hi0
    rintro ⟨j, i, R⟩ ⟨hj, hij, hRl, hRt, hRd⟩
    simp only at hj hij hRl hRt hRd
    by_cases hlt : j < t.length
    · have hx : t[j]? = some t[j] := List.getElem?_eq_getElem hlt
      have hxR : R[j]? = some t[j] := by
        have h3 : R[j]? = t[j]? := by
          have := congrArg (·[0]?) hRd
          simpa [List.getElem?_drop] using this
        exact h3.trans hx
      have hg := encT_at hxR
      have h1 : decide ((j : Int) < (t.length : Int)) = true := decide_eq_true (by omega)
      have hli : (j : Int) < (t.length : Int) := by omega
      have hli2 : (i : Int) < (t.length : Int) := by omega
      have w1 : IntKind.i64.wrap ((j : Int) + 1) = (j + 1 : Nat) := wrap_i64 (by omega) (by omega)
      have w2 : IntKind.i64.wrap ((i : Int) + 1) = (i + 1 : Nat) := wrap_i64 (by omega) (by omega)
      have hnx := filter_next (g := fun x => !goF p it x) hx
      generalize t[j] = x at hx hxR hg hnx
      have hRd2 : R.drop (j + 1) = t.drop (j + 1) := by rw [← List.drop_drop, ← List.drop_drop, hRd]
      cases hb : goF p it x
      · rw [hb] at hnx
        have hJ : j + 1 ≤ t.length ∧ i + 1 < j + 1 ∧ (R.set i x).length = t.length ∧ (R.set i x).take (i + 1) = (t.take (j + 1)).filter (fun x => !goF p it x) ∧ (R.set i x).drop (j + 1) = t.drop (j + 1) := by
          refine ⟨by omega, by omega, by simp [hRl], ?_, ?_⟩
          · rw [hnx, List.take_add_one, List.getElem?_set_self (by omega), List.take_set, List.set_eq_of_length_le (by rw [List.length_take]; omega), hRt]
            rfl
          · rw [List.drop_set, if_pos (by omega), hRd2]
        have hb2 : (belowR p x.p || (it && x.p == p)) = false := hb
        have hgi := encT_at (t := R) (k := i) (List.getElem?_eq_getElem (by omega))
        generalize (R[i]'(by omega)) = y at hgi
        clear hnx hRt hRd hRd2 hx hxR hb
        repeat' (first | simp only [*, go_sem, Nat.reduceLT, Nat.reduceLeDiff, Nat.reduceEqDiff, ↓reduceIte, Nat.reduceAdd, ] | ((with_reducible refine And.intro ?_ ?_); (focus (omega))))
        refine DCalls.mono (del2_c hp) ?_
        rintro _ _ ⟨rfl, rfl⟩
        rw [hb2]
        repeat' (first | simp only [*, go_sem, Nat.reduceLT, Nat.reduceLeDiff, Nat.reduceEqDiff, ↓reduceIte, Nat.reduceAdd, ] | ((with_reducible refine And.intro ?_ ?_); (focus (omega))))
        exact qr_n (j + 1, i + 1, R.set i x) hJ (by simp only; omega) (weak_mk rfl (by simp only [← encT_set]; rfl) rfl (by simp [wk_cons, wk_nil, look_cons, closedD, closedC, closedK]))
      · rw [hb] at hnx
        have hJ : j + 1 ≤ t.length ∧ i < j + 1 ∧ R.length = t.length ∧ R.take i = (t.take (j + 1)).filter (fun x => !goF p it x) ∧ R.drop (j + 1) = t.drop (j + 1) := ⟨by omega, by omega, hRl, by rw [hnx, hRt]; simp, hRd2⟩
        have hb2 : (belowR p x.p || (it && x.p == p)) = true := hb
        clear hnx hRt hRd hRd2 hx hxR hb
        repeat' (first | simp only [*, go_sem, Nat.reduceLT, Nat.reduceLeDiff, Nat.reduceEqDiff, ↓reduceIte, Nat.reduceAdd, ] | ((with_reducible refine And.intro ?_ ?_); (focus (omega))))
        refine DCalls.mono (del2_c hp) ?_
        rintro _ _ ⟨rfl, rfl⟩
        rw [hb2]
        repeat' (simp only [*, go_sem, Nat.reduceLT, Nat.reduceEqDiff, ↓reduceIte, ])
        exact qr_n (j + 1, i, R) hJ (by simp only; omega) (weak_mk rfl rfl rfl (by simp [wk_cons, wk_nil, look_cons, closedD, closedC, closedK]))
    · have h1 : decide ((j : Int) < (t.length : Int)) = false := decide_eq_false (by omega)
      have htt : t.take j = t := List.take_of_length_le (by omega)
      rw [htt] at hRt
      have hil : (t.filter fun x => !goF p it x).length = i := by
        rw [← hRt, List.length_take]; omega
      have hli : (i : Int) ≤ (t.length : Int) := by omega
      have hi0 : (0 : Int) ≤ i := by omega
      have hni : i + (t.length - i) = R.length := by omega
      rw [hil] at hk
      clear htt hRd hij
      repeat' (first | simp only [*, go_sem, Nat.reduceLT, Nat.reduceEqDiff, ↓reduceIte, Nat.reduceAdd, Int.reduceLE, Int.reduceToNat, ] | ((with_reducible refine And.intro ?_ ?_); (focus (omega))))
      all_goals first | refine hk _ ?_ | refine ⟨by omega, hk _ ?_⟩
      all_goals exact List.take_left' (by simp [encT, hil])
  · have hself : t.filter (fun x => !goF p it x) = t := List.filter_eq_self.2 fun x hx => by
      obtain ⟨j, hj, rfl⟩ := List.mem_iff_getElem.1 hx
      rw [hbef j _ (List.getElem?_eq_getElem hj) hj]; rfl
    rw [hself] at hk
    clear hself
    repeat' (simp only [*, go_sem, Nat.reduceLT, Nat.reduceEqDiff, ↓reduceIte, Int.reduceNeg, beq_self_eq_true])
    all_goals exact hk _ (List.take_of_length_le (by simp))

theorem without_c {t : List It} {p : List UInt8} {it : Bool} (hp : p.length ≤ 1000000000) (ht : t.length ≤ 1000000) (hd : ∀ x ∈ t, x.n.d.length ≤ 140737488355328) :
    DCalls Tryz.prog 109 [.c (.p (.sl 5 (encT t))), .c (.p (.s p)), .c (.p (.b it))] [] fun r h => r = .c (.p (.sl 5 (encT (t.filter fun x => !goF p it x)))) ∧ h = [] := by
  have hc := copyT_c ht hd
  refine ent tabOK hmix Tryz.func109 rfl rfl fun X0 hX => ?_
  simp only [Tryz.f109, go_sem]
  repeat' (first | simp only [*, go_sem, Nat.reduceLT, Nat.reduceEqDiff, ↓reduceIte, Nat.reduceAdd, ] | refine useO hc rfl ?_)
  refine delete_c hp ht fun es hes => ?_
  repeat' (simp only [*, go_sem, Nat.reduceLT, ↓reduceIte, ])
  all_goals rw [hes]

theorem treeRemove_c {t : List It} {p : List UInt8} (hp : p.length ≤ 1000000000) (ht : t.length ≤ 1000000) (hd : ∀ x ∈ t, x.n.d.length ≤ 140737488355328) :
    DCalls Tryz.prog 75 [.c (.p (.sl 5 (encT t))), .c (.p (.s p))] [] fun r h => r = .c (.p (.sl 5 (encT (removeR t p)))) ∧ h = [] := by
  have hr : removeR t p = t.filter fun x => !goF p true x := by
    rw [removeR_filter]
    congr 1
    funext x
    simp only [goF, Bool.true_and]
    cases belowR p x.p <;> cases x.p == p <;> rfl
  have hw := without_c (p := p) (it := true) hp ht hd
  rw [← hr] at hw
  refine ent tabOK hmix Tryz.func75 rfl rfl fun X0 hX => ?_
  simp only [Tryz.f75, go_sem]
  repeat' (first | simp only [*, go_sem, Nat.reduceLT, Nat.reduceEqDiff, ↓reduceIte, ] | ((with_reducible refine useN (hw) ?_ ?_ ?_); (focus exact rfl); (focus exact fun _ => rfl)))

theorem names_c {t : List It} {p : List UInt8} (h : OkT t) : DCalls Tryz.prog 67 [.c (.p (.sl 5 (encT t))), .c (.p (.s p))] [] fun r h => r = .c (.p (.sl 1 (Go.Dm.encS (namesF t p)))) ∧ h = [] := by
  have hl := h.len
  have hpl := h.plen
  have hne := h.ne
  clear h
  unfold namesF
  refine ent tabOK hmix Tryz.func67 rfl rfl fun X0 hX => ?_
  simp only [Tryz.f67, go_sem]
  repeat' (simp only [*, go_sem, Nat.reduceLT, Nat.reduceEqDiff, ↓reduceIte, ])
  refine vc_virt tabOK hmix 5 1 rfl ?_
  refine loop_ren tabOK hmix (α := Nat × List (List UInt8)) (fun x => ⟨34, [(1, .c (.p (.s p))), (8, .c (.p (.sl 5 (encT t)))), (9, .c (.p (.i .i64 t.length))), (10, .c (.p (.i .i64 x.1))), (5, .c (.own 0 0 x.2.length))], [.arr 1 (Go.Dm.encS x.2) false]⟩)
    (fun x => x.1 ≤ t.length ∧ x.2.length ≤ x.1 ∧ (((t.take x.1).filter fun x => dirOfR x.p == p).map fun x => baseF x.p) = x.2) (fun x => t.length - x.1) (0, []) ⟨Nat.zero_le _, Nat.le_refl _, rfl⟩ (.inl (weak_mk (by rw [hX]; rfl) rfl rfl (by simp [wk_cons, wk_nil, look_cons, closedD, closedC, encS_nil]))) ?_
  rintro ⟨k, out⟩ ⟨hk, hol, hout⟩
  simp only at hk hol hout
  by_cases hlt : k < t.length
  · have hx : t[k]? = some t[k] := List.getElem?_eq_getElem hlt
    have hg := encT_at hx
    have h1 : decide ((k : Int) < (t.length : Int)) = true := decide_eq_true (by omega)
    have w1 : IntKind.i64.wrap ((k : Int) + 1) = k + 1 := wrap_i64 (by omega) (by omega)
    have hnx := filter_next (g := fun x => dirOfR x.p == p) hx
    have hxl := hpl _ (List.getElem_mem hlt)
    have hxn : (t[k].p == []) = false := by
      have := hne _ (List.getElem_mem hlt)
      simpa using this
    generalize t[k] = x at hx hg hnx hxl hxn
    cases hb : (dirOfR x.p == p)
    · have hJ : k + 1 ≤ t.length ∧ out.length ≤ k + 1 ∧ (((t.take (k + 1)).filter fun x => dirOfR x.p == p).map fun x => baseF x.p) = out := ⟨by omega, by omega, by rw [hnx, hb, List.map_append, hout]; simp⟩
      clear hnx hx hout hpl hne
      repeat' (first | simp only [*, go_sem, Nat.reduceLT, Nat.reduceLeDiff, Nat.reduceEqDiff, ↓reduceIte, Nat.reduceAdd, ] | ((with_reducible refine useF (nameDir_c (by omega)) ?_ ?_ ?_); (focus exact rfl); (focus exact rfl)) | ((with_reducible refine And.intro ?_ ?_); (focus (omega))))
      exact qr_n (k + 1, out) hJ (by simp only; omega) (weak_mk rfl rfl rfl (by simp [wk_cons, wk_nil, look_cons, closedD, closedC, ]))
    · have hJ : k + 1 ≤ t.length ∧ (out ++ [baseF x.p]).length ≤ k + 1 ∧ (((t.take (k + 1)).filter fun x => dirOfR x.p == p).map fun x => baseF x.p) = out ++ [baseF x.p] := ⟨by omega, by simp; omega, by rw [hnx, hb, List.map_append, hout]; simp⟩
      clear hnx hx hout hpl hne
      repeat' (first | simp only [*, go_sem, Nat.reduceLT, Nat.reduceLeDiff, Nat.reduceEqDiff, ↓reduceIte, Nat.reduceAdd, Nat.reduceBEq, ] | ((with_reducible refine useF (nameDir_c (by omega)) ?_ ?_ ?_); (focus exact rfl); (focus exact rfl)) | ((with_reducible refine useF (nameBase_c (by omega)) ?_ ?_ ?_); (focus exact rfl); (focus exact rfl)) | ((with_reducible refine And.intro ?_ ?_); (focus (first | omega | decide))))
      exact qr_ren (k + 1, out ++ [baseF x.p]) 0 3 hJ (by simp only; omega) rfl rfl (weak_mk rfl rfl rfl (by simp [wk_cons, wk_nil, look_cons, closedD, closedC, renT, renD, renC, ]))
  · have h1 : decide ((k : Int) < (t.length : Int)) = false := decide_eq_false (by omega)
    rw [List.take_of_length_le (by omega)] at hout
    unfold dirNames
    rw [hout]
    have hsl : (out.mergeSort fun x y => decide (x ≤ y)).length = out.length := List.length_mergeSort ..
    clear hout
    repeat' (first | simp only [*, go_sem, Nat.reduceLT, Nat.reduceEqDiff, ↓reduceIte, List.set_cons_zero] | refine sort_k (id := 0) (ss := out) (by rfl) (by omega) ?_)
    all_goals rw [List.take_of_length_le (by simp)]

def t3 : List It := [⟨[97], ⟨2, 493, 0, []⟩⟩, ⟨[97, 47, 98], ⟨1, 0, 0, []⟩⟩, ⟨[99], ⟨2, 493, 0, []⟩⟩]
end Go.Proofs.YtnbgaphhhjnjlaaGreatDoor

end
