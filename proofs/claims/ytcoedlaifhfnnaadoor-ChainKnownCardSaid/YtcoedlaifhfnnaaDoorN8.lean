import Derived.Test.YtcoedlaifhfnnaaDoorN0
import Derived.Test.YtcoedlaifhfnnaaDoorLA
import Derived.Test.YtcoedlaifhfnnaaDoorVE

section
/-
  Contracts of the program's layers: what goes before an entry is laid over.
-/

set_option linter.unusedSimpArgs false
set_option linter.unusedVariables false
namespace Go.Proofs.YtcoedlaifhfnnaaDoor
open Go Go.Dm Go.Proofs
set_option maxRecDepth 100000
set_option maxHeartbeats 8000000

/-- What goes with an entry. -/
def goC (p : List UInt8) (it : Bool) (x : It) : Bool := x.p == p || (it && belowR p x.p)
theorem encTJ_at {J : List (List PV)} {t : List It} {k : Nat} {x : It} (h : t[k]? = some x) : (encT t ++ J).getD k [] = [.s x.p, .i .i64 x.n.k, .i .i64 x.n.m, .f x.n.t, .sl 1 (encB x.n.d)] := by
  have hk := (List.getElem?_eq_some_iff.1 h).1
  have := encT_at h
  rw [List.getD_eq_getElem?_getD] at this ⊢
  rw [List.getElem?_append_left (by rw [encT_len]; exact hk)]
  exact this
theorem encTJ_set {J : List (List PV)} {t : List It} {i : Nat} (x : It) (h : i < t.length) : (encT t ++ J).set i [.s x.p, .i .i64 x.n.k, .i .i64 x.n.m, .f x.n.t, .sl 1 (encB x.n.d)] = encT (t.set i x) ++ J := by
  rw [List.set_append_left _ _ (by rw [encT_len]; exact h), encT_set]
theorem takeJ {R f : List It} {i : Nat} {es : List (List PV)} {A : List (List PV)} (h : R.take i = f) (hf : f.length = i) (hi : i ≤ R.length) : ((encT R ++ A).take i ++ es).take i = encT f := by
  rw [List.take_left' (by rw [List.length_take, List.length_append, encT_len]; omega), List.take_append_of_le_length (by rw [encT_len]; exact hi), encT_take, h]

theorem ovd1_c {q p : List UInt8} {it eo : Bool} {ek nk nm : Int} {nt : Nat} {nd : List UInt8} {k m : Int} {tt : Nat} {d : List UInt8} {es : List (List PV)} (hp : p.length ≤ 1000000000) :
    DCalls Tryd.prog 47 [.agg [.p (.s q), .p (.i .i64 k), .p (.i .i64 m), .p (.f tt), .p (.sl 1 (encB d))], .c (.ptr 2 0), .c (.ptr 3 0)] [.arr 5 es false, .box [.p (.s p), .p (.i .i64 ek), .p (.b eo), .p (.i .i64 nk), .p (.i .i64 nm), .p (.f nt), .p (.sl 1 (encB nd))], .box [.p (.s p), .p (.i .i64 ek), .p (.b eo), .p (.i .i64 nk), .p (.i .i64 nm), .p (.f nt), .p (.sl 1 (encB nd))], .box [.p (.b it)]]
      fun r h => r = .c (.p (.b (q == p || (it && belowR p q)))) ∧ h = [.arr 5 es false, .box [.p (.s p), .p (.i .i64 ek), .p (.b eo), .p (.i .i64 nk), .p (.i .i64 nm), .p (.f nt), .p (.sl 1 (encB nd))], .box [.p (.s p), .p (.i .i64 ek), .p (.b eo), .p (.i .i64 nk), .p (.i .i64 nm), .p (.f nt), .p (.sl 1 (encB nd))], .box [.p (.b it)]] := by
  refine ent tabOK hmix Tryd.func47 rfl rfl fun X0 hX => ?_
  simp only [Tryd.ntmps47, Tryd.f47, go_sem]
  repeat' (first | simp (maxSteps := 1000000) only [*, go_sem, Nat.reduceLT, Nat.reduceLeDiff, Nat.reduceEqDiff, ↓reduceIte, Nat.reduceAdd, Nat.reduceSub, Nat.reduceMul, Int.reduceLT, Int.reduceLE, Int.reduceAdd, Int.reduceSub, Int.reduceMul, Int.reduceNeg, Int.reduceToNat, Int.reduceEq, Int.reduceBEq, Int.reduceBNe, Nat.reduceBEq, beq_self_eq_true, bne_self_eq_false, closedB, closedC] | ((with_reducible refine useF (nameBelow_c hp) ?_ ?_ ?_); (focus exact rfl); (focus exact rfl)) | with_reducible refine vcond_split (fun _ => ?_) (fun _ => ?_) | with_reducible refine vg_split (fun _ => ?_) (fun _ => ?_) | ((with_reducible apply DCalls.frz); (focus exact rfl); (focus exact rfl)) | ((with_reducible refine And.intro ?_ ?_); (focus (first | omega | decide | assumption | (simp only [decide_eq_true_eq, decide_eq_false_iff_not] at *; omega)))))
  all_goals simp_all

theorem ovd2_c {q p : List UInt8} {it eo : Bool} {ek nk nm : Int} {nt : Nat} {nd : List UInt8} {k m : Int} {tt : Nat} {d : List UInt8} {es : List (List PV)} (hp : p.length ≤ 1000000000) :
    DCalls Tryd.prog 47 [.agg [.p (.s q), .p (.i .i64 k), .p (.i .i64 m), .p (.f tt), .p (.sl 1 (encB d))], .c (.ptr 2 0), .c (.ptr 3 0)] [.arr 5 es false, .box [.p (.s p), .p (.i .i64 ek), .p (.b eo), .p (.i .i64 nk), .p (.i .i64 nm), .p (.f nt), .p (.sl 1 (encB nd))], .box [.p (.s p), .p (.i .i64 ek), .p (.b eo), .p (.i .i64 nk), .p (.i .i64 nm), .p (.f nt), .p (.sl 1 (encB nd))], .box [.p (.b it)], .box [.p (.s q), .p (.i .i64 k), .p (.i .i64 m), .p (.f tt), .p (.sl 1 (encB d))]]
      fun r h => r = .c (.p (.b (q == p || (it && belowR p q)))) ∧ h = [.arr 5 es false, .box [.p (.s p), .p (.i .i64 ek), .p (.b eo), .p (.i .i64 nk), .p (.i .i64 nm), .p (.f nt), .p (.sl 1 (encB nd))], .box [.p (.s p), .p (.i .i64 ek), .p (.b eo), .p (.i .i64 nk), .p (.i .i64 nm), .p (.f nt), .p (.sl 1 (encB nd))], .box [.p (.b it)], .box [.p (.s q), .p (.i .i64 k), .p (.i .i64 m), .p (.f tt), .p (.sl 1 (encB d))]] := by
  refine ent tabOK hmix Tryd.func47 rfl rfl fun X0 hX => ?_
  simp only [Tryd.ntmps47, Tryd.f47, go_sem]
  repeat' (first | simp (maxSteps := 1000000) only [*, go_sem, Nat.reduceLT, Nat.reduceLeDiff, Nat.reduceEqDiff, ↓reduceIte, Nat.reduceAdd, Nat.reduceSub, Nat.reduceMul, Int.reduceLT, Int.reduceLE, Int.reduceAdd, Int.reduceSub, Int.reduceMul, Int.reduceNeg, Int.reduceToNat, Int.reduceEq, Int.reduceBEq, Int.reduceBNe, Nat.reduceBEq, beq_self_eq_true, bne_self_eq_false, closedB, closedC] | ((with_reducible refine useF (nameBelow_c hp) ?_ ?_ ?_); (focus exact rfl); (focus exact rfl)) | with_reducible refine vcond_split (fun _ => ?_) (fun _ => ?_) | with_reducible refine vg_split (fun _ => ?_) (fun _ => ?_) | ((with_reducible apply DCalls.frz); (focus exact rfl); (focus exact rfl)) | ((with_reducible refine And.intro ?_ ?_); (focus (first | omega | decide | assumption | (simp only [decide_eq_true_eq, decide_eq_false_iff_not] at *; omega)))))
  all_goals simp_all

theorem ovIndex_c {J : List (List PV)} {t : List It} {p : List UInt8} {it eo : Bool} {ek nk nm : Int} {nt : Nat} {nd : List UInt8} (hp : p.length ≤ 1000000000) (ht : t.length ≤ 1000000) :
    DCalls Tryd.prog 63 [.c (.own 0 0 t.length), .c (.clo 47 [.ptr 2 0, .ptr 3 0])] [.arr 5 (encT t ++ J) false, .box [.p (.s p), .p (.i .i64 ek), .p (.b eo), .p (.i .i64 nk), .p (.i .i64 nm), .p (.f nt), .p (.sl 1 (encB nd))], .box [.p (.s p), .p (.i .i64 ek), .p (.b eo), .p (.i .i64 nk), .p (.i .i64 nm), .p (.f nt), .p (.sl 1 (encB nd))], .box [.p (.b it)]]
      fun r h => (∃ i : Nat, i ≤ t.length ∧ (∀ j x, t[j]? = some x → j < i → goC p it x = false) ∧ ((∃ x, t[i]? = some x ∧ goC p it x = true ∧ r = .c (.p (.i .i64 i))) ∨ (i = t.length ∧ r = .c (.p (.i .i64 (-1)))))) ∧ h = [.arr 5 (encT t ++ J) false, .box [.p (.s p), .p (.i .i64 ek), .p (.b eo), .p (.i .i64 nk), .p (.i .i64 nm), .p (.f nt), .p (.sl 1 (encB nd))], .box [.p (.s p), .p (.i .i64 ek), .p (.b eo), .p (.i .i64 nk), .p (.i .i64 nm), .p (.f nt), .p (.sl 1 (encB nd))], .box [.p (.b it)]] := by
  refine ent tabOK hmix Tryd.func63 rfl rfl fun X0 hX => ?_
  simp only [Tryd.ntmps63, Tryd.f63, go_sem]
  repeat' (first | simp (maxSteps := 1000000) only [*, go_sem, Nat.reduceLT, Nat.reduceLeDiff, Nat.reduceEqDiff, ↓reduceIte, Nat.reduceAdd, Nat.reduceSub, Nat.reduceMul, Int.reduceLT, Int.reduceLE, Int.reduceAdd, Int.reduceSub, Int.reduceMul, Int.reduceNeg, Int.reduceToNat, Int.reduceEq, Int.reduceBEq, Int.reduceBNe, Nat.reduceBEq, beq_self_eq_true, bne_self_eq_false] | with_reducible refine vcond_split (fun _ => ?_) (fun _ => ?_) | with_reducible refine vg_split (fun _ => ?_) (fun _ => ?_) | ((with_reducible apply DCalls.frz); (focus exact rfl); (focus exact rfl)) | ((with_reducible refine And.intro ?_ ?_); (focus (first | omega | decide | assumption | (simp only [decide_eq_true_eq, decide_eq_false_iff_not] at *; omega)))))
  refine loop_ren tabOK hmix (α := Nat) (fun k => ⟨19, [(0, .c (.own 0 0 t.length)), (1, .c (.clo 47 [.ptr 2 0, .ptr 3 0])), (7, .c (.p (.i .i64 t.length))), (8, .c (.p (.i .i64 k)))], [.arr 5 (encT t ++ J) false, .box [.p (.s p), .p (.i .i64 ek), .p (.b eo), .p (.i .i64 nk), .p (.i .i64 nm), .p (.f nt), .p (.sl 1 (encB nd))], .box [.p (.s p), .p (.i .i64 ek), .p (.b eo), .p (.i .i64 nk), .p (.i .i64 nm), .p (.f nt), .p (.sl 1 (encB nd))], .box [.p (.b it)]]⟩)
    (fun k => k ≤ t.length ∧ ∀ j x, t[j]? = some x → j < k → goC p it x = false) (fun k => t.length - k) 0 ⟨Nat.zero_le _, fun j x _ h => by omega⟩ (.inl (weak_mk (by rw [hX]; rfl) rfl rfl (by simp [wk_cons, wk_nil, look_cons, closedD, closedC, closedK, closedB]))) ?_
  rintro k ⟨hk, hs⟩
  by_cases hlt : k < t.length
  · have hx : t[k]? = some t[k] := List.getElem?_eq_getElem hlt
    have hg := encTJ_at (J := J) hx
    have h1 : decide ((k : Int) < (t.length : Int)) = true := decide_eq_true (by omega)
    have hli : (k : Int) < (t.length : Int) := by omega
    have w1 : IntKind.i64.wrap ((k : Int) + 1) = k + 1 := wrap_i64 (by omega) (by omega)
    generalize t[k] = x at hx hg
    cases hb : goC p it x
    · have hs' : k + 1 ≤ t.length ∧ ∀ j y, t[j]? = some y → j < k + 1 → goC p it y = false := ⟨by omega, fun j y hy hj => by
        rcases Nat.lt_or_ge j k with h | h
        · exact hs j y hy h
        · have : j = k := by omega
          subst this; rw [hx] at hy; cases hy; exact hb⟩
      have hb2 : (x.p == p || (it && belowR p x.p)) = false := hb
      clear hs hx hb
      repeat' (first | simp (maxSteps := 1000000) only [*, go_sem, Nat.reduceLT, Nat.reduceLeDiff, Nat.reduceEqDiff, ↓reduceIte, Nat.reduceAdd, Nat.reduceSub, Nat.reduceMul, Int.reduceLT, Int.reduceLE, Int.reduceAdd, Int.reduceSub, Int.reduceMul, Int.reduceNeg, Int.reduceToNat, Int.reduceEq, Int.reduceBEq, Int.reduceBNe, Nat.reduceBEq, beq_self_eq_true, bne_self_eq_false] | with_reducible refine vcond_split (fun _ => ?_) (fun _ => ?_) | with_reducible refine vg_split (fun _ => ?_) (fun _ => ?_) | ((with_reducible apply DCalls.frz); (focus exact rfl); (focus exact rfl)) | ((with_reducible refine And.intro ?_ ?_); (focus (first | omega | decide | assumption | (simp only [decide_eq_true_eq, decide_eq_false_iff_not] at *; omega)))))
      refine DCalls.mono (ovd1_c hp) ?_
      rintro _ _ ⟨rfl, rfl⟩
      rw [hb2]
      repeat' (first | simp (maxSteps := 1000000) only [*, go_sem, Nat.reduceLT, Nat.reduceLeDiff, Nat.reduceEqDiff, ↓reduceIte, Nat.reduceAdd, Nat.reduceSub, Nat.reduceMul, Int.reduceLT, Int.reduceLE, Int.reduceAdd, Int.reduceSub, Int.reduceMul, Int.reduceNeg, Int.reduceToNat, Int.reduceEq, Int.reduceBEq, Int.reduceBNe, Nat.reduceBEq, beq_self_eq_true, bne_self_eq_false] | with_reducible refine vcond_split (fun _ => ?_) (fun _ => ?_) | with_reducible refine vg_split (fun _ => ?_) (fun _ => ?_) | ((with_reducible apply DCalls.frz); (focus exact rfl); (focus exact rfl)) | ((with_reducible refine And.intro ?_ ?_); (focus (first | omega | decide | assumption | (simp only [decide_eq_true_eq, decide_eq_false_iff_not] at *; omega)))))
      exact qr_n (k + 1) hs' (by omega) (weak_mk rfl rfl rfl (by simp [wk_cons, wk_nil, look_cons, closedD, closedC, closedK, closedB]))
    · have hb2 : (x.p == p || (it && belowR p x.p)) = true := hb
      repeat' (first | simp (maxSteps := 1000000) only [*, go_sem, Nat.reduceLT, Nat.reduceLeDiff, Nat.reduceEqDiff, ↓reduceIte, Nat.reduceAdd, Nat.reduceSub, Nat.reduceMul, Int.reduceLT, Int.reduceLE, Int.reduceAdd, Int.reduceSub, Int.reduceMul, Int.reduceNeg, Int.reduceToNat, Int.reduceEq, Int.reduceBEq, Int.reduceBNe, Nat.reduceBEq, beq_self_eq_true, bne_self_eq_false] | with_reducible refine vcond_split (fun _ => ?_) (fun _ => ?_) | with_reducible refine vg_split (fun _ => ?_) (fun _ => ?_) | ((with_reducible apply DCalls.frz); (focus exact rfl); (focus exact rfl)) | ((with_reducible refine And.intro ?_ ?_); (focus (first | omega | decide | assumption | (simp only [decide_eq_true_eq, decide_eq_false_iff_not] at *; omega)))))
      refine DCalls.mono (ovd1_c hp) ?_
      rintro _ _ ⟨rfl, rfl⟩
      rw [hb2]
      clear hb2
      repeat' (first | simp (maxSteps := 1000000) only [*, go_sem, Nat.reduceLT, Nat.reduceLeDiff, Nat.reduceEqDiff, ↓reduceIte, Nat.reduceAdd, Nat.reduceSub, Nat.reduceMul, Int.reduceLT, Int.reduceLE, Int.reduceAdd, Int.reduceSub, Int.reduceMul, Int.reduceNeg, Int.reduceToNat, Int.reduceEq, Int.reduceBEq, Int.reduceBNe, Nat.reduceBEq, beq_self_eq_true, bne_self_eq_false, closedB, closedC] | with_reducible refine vcond_split (fun _ => ?_) (fun _ => ?_) | with_reducible refine vg_split (fun _ => ?_) (fun _ => ?_) | ((with_reducible apply DCalls.frz); (focus exact rfl); (focus exact rfl)) | ((with_reducible refine And.intro ?_ ?_); (focus (first | omega | decide | assumption | (simp only [decide_eq_true_eq, decide_eq_false_iff_not] at *; omega)))))
      exact ⟨k, hk, hs, .inl ⟨x, hx, hb, rfl⟩⟩
  · have h1 : decide ((k : Int) < (t.length : Int)) = false := decide_eq_false (by omega)
    have hk2 : k = t.length := by omega
    subst hk2
    repeat' (first | simp (maxSteps := 1000000) only [*, go_sem, Nat.reduceLT, Nat.reduceLeDiff, Nat.reduceEqDiff, ↓reduceIte, Nat.reduceAdd, Nat.reduceSub, Nat.reduceMul, Int.reduceLT, Int.reduceLE, Int.reduceAdd, Int.reduceSub, Int.reduceMul, Int.reduceNeg, Int.reduceToNat, Int.reduceEq, Int.reduceBEq, Int.reduceBNe, Nat.reduceBEq, beq_self_eq_true, bne_self_eq_false, closedB, closedC] | with_reducible refine vcond_split (fun _ => ?_) (fun _ => ?_) | with_reducible refine vg_split (fun _ => ?_) (fun _ => ?_) | ((with_reducible apply DCalls.frz); (focus exact rfl); (focus exact rfl)) | ((with_reducible refine And.intro ?_ ?_); (focus (first | omega | decide | assumption | (simp only [decide_eq_true_eq, decide_eq_false_iff_not] at *; omega)))))
    refine ⟨t.length, Nat.le_refl _, hs, .inr ?_⟩
    first | exact ⟨rfl, rfl⟩ | rfl

theorem ovDelete_c {J : List (List PV)} {t : List It} {p : List UInt8} {it eo : Bool} {ek nk nm : Int} {nt : Nat} {nd : List UInt8} {K : DV → DHeap → Prop} (hp : p.length ≤ 1000000000) (ht : t.length ≤ 1000000)
    (hk : ∀ es : List (List PV), es.take (t.filter fun x => !goC p it x).length = encT (t.filter fun x => !goC p it x) → K (.c (.own 0 0 (t.filter fun x => !goC p it x).length)) [.arr 5 es false, .box [.p (.s p), .p (.i .i64 ek), .p (.b eo), .p (.i .i64 nk), .p (.i .i64 nm), .p (.f nt), .p (.sl 1 (encB nd))], .box [.p (.s p), .p (.i .i64 ek), .p (.b eo), .p (.i .i64 nk), .p (.i .i64 nm), .p (.f nt), .p (.sl 1 (encB nd))], .box [.p (.b it)]]) :
    DCalls Tryd.prog 46 [.c (.own 0 0 t.length), .c (.clo 47 [.ptr 2 0, .ptr 3 0])] [.arr 5 (encT t ++ J) false, .box [.p (.s p), .p (.i .i64 ek), .p (.b eo), .p (.i .i64 nk), .p (.i .i64 nm), .p (.f nt), .p (.sl 1 (encB nd))], .box [.p (.s p), .p (.i .i64 ek), .p (.b eo), .p (.i .i64 nk), .p (.i .i64 nm), .p (.f nt), .p (.sl 1 (encB nd))], .box [.p (.b it)]] K := by
  refine entR tabOK hmix Tryd.func46 rfl rfl fun X0 hX => ?_
  simp only [Tryd.ntmps46, Tryd.f46, go_sem]
  repeat' (first | simp (maxSteps := 1000000) only [*, go_sem, Nat.reduceLT, Nat.reduceLeDiff, Nat.reduceEqDiff, ↓reduceIte, Nat.reduceAdd, Nat.reduceSub, Nat.reduceMul, Int.reduceLT, Int.reduceLE, Int.reduceAdd, Int.reduceSub, Int.reduceMul, Int.reduceNeg, Int.reduceToNat, Int.reduceEq, Int.reduceBEq, Int.reduceBNe, Nat.reduceBEq, beq_self_eq_true, bne_self_eq_false] | with_reducible refine vcond_split (fun _ => ?_) (fun _ => ?_) | with_reducible refine vg_split (fun _ => ?_) (fun _ => ?_) | ((with_reducible apply DCalls.frz); (focus exact rfl); (focus exact rfl)) | ((with_reducible refine And.intro ?_ ?_); (focus (first | omega | decide | assumption | (simp only [decide_eq_true_eq, decide_eq_false_iff_not] at *; omega)))))
  refine DCalls.mono (ovIndex_c hp ht) ?_
  rintro _ _ ⟨⟨i0, hi0, hbef, hcase⟩, rfl⟩
  rcases hcase with ⟨x0, hx0, hg0, rfl⟩ | ⟨rfl, rfl⟩
  · have hil : i0 < t.length := (List.getElem?_eq_some_iff.1 hx0).1
    have q : ((i0 : Int) == -1) = false := by rw [beq_eq_false_iff_ne]; omega
    have w0 : IntKind.i64.wrap ((i0 : Int) + 1) = (i0 + 1 : Nat) := wrap_i64 (by omega) (by omega)
    repeat' (first | simp (maxSteps := 1000000) only [*, go_sem, Nat.reduceLT, Nat.reduceLeDiff, Nat.reduceEqDiff, ↓reduceIte, Nat.reduceAdd, Nat.reduceSub, Nat.reduceMul, Int.reduceLT, Int.reduceLE, Int.reduceAdd, Int.reduceSub, Int.reduceMul, Int.reduceNeg, Int.reduceToNat, Int.reduceEq, Int.reduceBEq, Int.reduceBNe, Nat.reduceBEq, beq_self_eq_true, bne_self_eq_false] | with_reducible refine vcond_split (fun _ => ?_) (fun _ => ?_) | with_reducible refine vg_split (fun _ => ?_) (fun _ => ?_) | ((with_reducible apply DCalls.frz); (focus exact rfl); (focus exact rfl)) | ((with_reducible refine And.intro ?_ ?_); (focus (first | omega | decide | assumption | (simp only [decide_eq_true_eq, decide_eq_false_iff_not] at *; omega)))))
    have hself : (t.take i0).filter (fun x => !goC p it x) = t.take i0 := List.filter_eq_self.2 fun x hx => by
      obtain ⟨j, hj, rfl⟩ := List.mem_iff_getElem.1 hx
      rw [List.getElem_take]
      have hj2 : j < i0 := by simp at hj; omega
      rw [hbef j _ (List.getElem?_eq_getElem (by omega)) hj2]; rfl
    have h0 : (t.take (i0 + 1)).filter (fun x => !goC p it x) = t.take i0 := by
      rw [filter_next hx0, hself, hg0]; simp
    refine loop_ren tabOK hmix (α := Nat × Nat × List It) (fun x => ⟨42, [(0, .c (.own 0 0 t.length)), (1, .c (.clo 47 [.ptr 2 0, .ptr 3 0])), (5, .c (.p (.i .i64 x.2.1))), (6, .c (.p (.i .i64 x.1)))], [.arr 5 (encT x.2.2 ++ J) false, .box [.p (.s p), .p (.i .i64 ek), .p (.b eo), .p (.i .i64 nk), .p (.i .i64 nm), .p (.f nt), .p (.sl 1 (encB nd))], .box [.p (.s p), .p (.i .i64 ek), .p (.b eo), .p (.i .i64 nk), .p (.i .i64 nm), .p (.f nt), .p (.sl 1 (encB nd))], .box [.p (.b it)]]⟩)
      (fun x => x.1 ≤ t.length ∧ x.2.1 < x.1 ∧ x.2.2.length = t.length ∧ x.2.2.take x.2.1 = (t.take x.1).filter (fun x => !goC p it x) ∧ x.2.2.drop x.1 = t.drop x.1) (fun x => t.length - x.1) (i0 + 1, i0, t)
      ⟨by omega, by simp, rfl, by rw [h0], rfl⟩ (.inl (weak_mk (by rw [hX]; rfl) rfl rfl (by simp [wk_cons, wk_nil, look_cons, closedD, closedC, closedK, closedB]))) ?_
    clear hself h0 hbef hx0 hg0 q w0 hil hi0
    rintro ⟨j, i, R⟩ ⟨hj, hij, hRl, hRt, hRd⟩
    simp only at hj hij hRl hRt hRd
    by_cases hlt : j < t.length
    · have hx : t[j]? = some t[j] := List.getElem?_eq_getElem hlt
      have hxR : R[j]? = some t[j] := by
        have h3 : R[j]? = t[j]? := by
          have := congrArg (·[0]?) hRd
          simpa [List.getElem?_drop] using this
        exact h3.trans hx
      have hg := encTJ_at (J := J) hxR
      have h1 : decide ((j : Int) < (t.length : Int)) = true := decide_eq_true (by omega)
      have hli : (j : Int) < (t.length : Int) := by omega
      have hli2 : (i : Int) < (t.length : Int) := by omega
      have w1 : IntKind.i64.wrap ((j : Int) + 1) = (j + 1 : Nat) := wrap_i64 (by omega) (by omega)
      have w2 : IntKind.i64.wrap ((i : Int) + 1) = (i + 1 : Nat) := wrap_i64 (by omega) (by omega)
      have hnx := filter_next (g := fun x => !goC p it x) hx
      generalize t[j] = x at hx hxR hg hnx
      have hRd2 : R.drop (j + 1) = t.drop (j + 1) := by rw [← List.drop_drop, ← List.drop_drop, hRd]
      cases hb : goC p it x
      · rw [hb] at hnx
        have hJ : j + 1 ≤ t.length ∧ i + 1 < j + 1 ∧ (R.set i x).length = t.length ∧ (R.set i x).take (i + 1) = (t.take (j + 1)).filter (fun x => !goC p it x) ∧ (R.set i x).drop (j + 1) = t.drop (j + 1) := by
          refine ⟨by omega, by omega, by simp [hRl], ?_, ?_⟩
          · rw [hnx, List.take_add_one, List.getElem?_set_self (by omega), List.take_set, List.set_eq_of_length_le (by rw [List.length_take]; omega), hRt]
            rfl
          · rw [List.drop_set, if_pos (by omega), hRd2]
        have hb2 : (x.p == p || (it && belowR p x.p)) = false := hb
        have hgi := encTJ_at (J := J) (t := R) (k := i) (List.getElem?_eq_getElem (by omega))
        have hsj := encTJ_set (J := J) (t := R) (i := i) x (by omega)
        have hlj : (encT R ++ J).length = R.length + J.length := by rw [List.length_append, encT_len]
        generalize (R[i]'(by omega)) = y at hgi
        clear hnx hRt hRd hRd2 hx hxR hb
        repeat' (first | simp (maxSteps := 1000000) only [*, go_sem, Nat.reduceLT, Nat.reduceLeDiff, Nat.reduceEqDiff, ↓reduceIte, Nat.reduceAdd, Nat.reduceSub, Nat.reduceMul, Int.reduceLT, Int.reduceLE, Int.reduceAdd, Int.reduceSub, Int.reduceMul, Int.reduceNeg, Int.reduceToNat, Int.reduceEq, Int.reduceBEq, Int.reduceBNe, Nat.reduceBEq, beq_self_eq_true, bne_self_eq_false] | with_reducible refine vcond_split (fun _ => ?_) (fun _ => ?_) | with_reducible refine vg_split (fun _ => ?_) (fun _ => ?_) | ((with_reducible apply DCalls.frz); (focus exact rfl); (focus exact rfl)) | ((with_reducible refine And.intro ?_ ?_); (focus (first | omega | decide | assumption | (simp only [decide_eq_true_eq, decide_eq_false_iff_not] at *; omega)))))
        refine DCalls.mono (ovd2_c hp) ?_
        rintro _ _ ⟨rfl, rfl⟩
        rw [hb2]
        repeat' (first | simp (maxSteps := 1000000) only [*, go_sem, Nat.reduceLT, Nat.reduceLeDiff, Nat.reduceEqDiff, ↓reduceIte, Nat.reduceAdd, Nat.reduceSub, Nat.reduceMul, Int.reduceLT, Int.reduceLE, Int.reduceAdd, Int.reduceSub, Int.reduceMul, Int.reduceNeg, Int.reduceToNat, Int.reduceEq, Int.reduceBEq, Int.reduceBNe, Nat.reduceBEq, beq_self_eq_true, bne_self_eq_false] | with_reducible refine vcond_split (fun _ => ?_) (fun _ => ?_) | with_reducible refine vg_split (fun _ => ?_) (fun _ => ?_) | ((with_reducible apply DCalls.frz); (focus exact rfl); (focus exact rfl)) | ((with_reducible refine And.intro ?_ ?_); (focus (first | omega | decide | assumption | (simp only [decide_eq_true_eq, decide_eq_false_iff_not] at *; omega)))))
        exact qr_n (j + 1, i + 1, R.set i x) hJ (by simp only; omega) (weak_mk rfl (by rw [← encTJ_set (J := J) (t := R) (i := i) x (by omega)]; rfl) rfl (by simp [wk_cons, wk_nil, look_cons, closedD, closedC, closedK, closedB]))
      · rw [hb] at hnx
        have hJ : j + 1 ≤ t.length ∧ i < j + 1 ∧ R.length = t.length ∧ R.take i = (t.take (j + 1)).filter (fun x => !goC p it x) ∧ R.drop (j + 1) = t.drop (j + 1) := ⟨by omega, by omega, hRl, by rw [hnx, hRt]; simp, hRd2⟩
        have hb2 : (x.p == p || (it && belowR p x.p)) = true := hb
        clear hnx hRt hRd hRd2 hx hxR hb
        repeat' (first | simp (maxSteps := 1000000) only [*, go_sem, Nat.reduceLT, Nat.reduceLeDiff, Nat.reduceEqDiff, ↓reduceIte, Nat.reduceAdd, Nat.reduceSub, Nat.reduceMul, Int.reduceLT, Int.reduceLE, Int.reduceAdd, Int.reduceSub, Int.reduceMul, Int.reduceNeg, Int.reduceToNat, Int.reduceEq, Int.reduceBEq, Int.reduceBNe, Nat.reduceBEq, beq_self_eq_true, bne_self_eq_false] | with_reducible refine vcond_split (fun _ => ?_) (fun _ => ?_) | with_reducible refine vg_split (fun _ => ?_) (fun _ => ?_) | ((with_reducible apply DCalls.frz); (focus exact rfl); (focus exact rfl)) | ((with_reducible refine And.intro ?_ ?_); (focus (first | omega | decide | assumption | (simp only [decide_eq_true_eq, decide_eq_false_iff_not] at *; omega)))))
        refine DCalls.mono (ovd2_c hp) ?_
        rintro _ _ ⟨rfl, rfl⟩
        rw [hb2]
        repeat' (first | simp (maxSteps := 1000000) only [*, go_sem, Nat.reduceLT, Nat.reduceLeDiff, Nat.reduceEqDiff, ↓reduceIte, Nat.reduceAdd, Nat.reduceSub, Nat.reduceMul, Int.reduceLT, Int.reduceLE, Int.reduceAdd, Int.reduceSub, Int.reduceMul, Int.reduceNeg, Int.reduceToNat, Int.reduceEq, Int.reduceBEq, Int.reduceBNe, Nat.reduceBEq, beq_self_eq_true, bne_self_eq_false] | with_reducible refine vcond_split (fun _ => ?_) (fun _ => ?_) | with_reducible refine vg_split (fun _ => ?_) (fun _ => ?_) | ((with_reducible apply DCalls.frz); (focus exact rfl); (focus exact rfl)) | ((with_reducible refine And.intro ?_ ?_); (focus (first | omega | decide | assumption | (simp only [decide_eq_true_eq, decide_eq_false_iff_not] at *; omega)))))
        exact qr_n (j + 1, i, R) hJ (by simp only; omega) (weak_mk rfl rfl rfl (by simp [wk_cons, wk_nil, look_cons, closedD, closedC, closedK, closedB]))
    · have h1 : decide ((j : Int) < (t.length : Int)) = false := decide_eq_false (by omega)
      have htt : t.take j = t := List.take_of_length_le (by omega)
      rw [htt] at hRt
      have hil : (t.filter fun x => !goC p it x).length = i := by
        rw [← hRt, List.length_take]; omega
      have hli : (i : Int) ≤ (t.length : Int) := by omega
      have hi0 : (0 : Int) ≤ i := by omega
      have hni : i + (t.length - i) = R.length := by omega
      rw [hil] at hk
      clear htt hRd hij
      repeat' (first | simp (maxSteps := 1000000) only [*, go_sem, Nat.reduceLT, Nat.reduceLeDiff, Nat.reduceEqDiff, ↓reduceIte, Nat.reduceAdd, Nat.reduceSub, Nat.reduceMul, Int.reduceLT, Int.reduceLE, Int.reduceAdd, Int.reduceSub, Int.reduceMul, Int.reduceNeg, Int.reduceToNat, Int.reduceEq, Int.reduceBEq, Int.reduceBNe, Nat.reduceBEq, beq_self_eq_true, bne_self_eq_false] | with_reducible refine vcond_split (fun _ => ?_) (fun _ => ?_) | with_reducible refine vg_split (fun _ => ?_) (fun _ => ?_) | ((with_reducible apply DCalls.frz); (focus exact rfl); (focus exact rfl)) | ((with_reducible refine And.intro ?_ ?_); (focus (first | omega | decide | assumption | (simp only [decide_eq_true_eq, decide_eq_false_iff_not] at *; omega)))))
      all_goals first | refine hk _ ?_ | refine ⟨by omega, hk _ ?_⟩
      all_goals exact takeJ hRt hil (by omega)
  · have hself : t.filter (fun x => !goC p it x) = t := List.filter_eq_self.2 fun x hx => by
      obtain ⟨j, hj, rfl⟩ := List.mem_iff_getElem.1 hx
      rw [hbef j _ (List.getElem?_eq_getElem hj) hj]; rfl
    rw [hself] at hk
    clear hself
    repeat' (first | simp (maxSteps := 1000000) only [*, go_sem, Nat.reduceLT, Nat.reduceLeDiff, Nat.reduceEqDiff, ↓reduceIte, Nat.reduceAdd, Nat.reduceSub, Nat.reduceMul, Int.reduceLT, Int.reduceLE, Int.reduceAdd, Int.reduceSub, Int.reduceMul, Int.reduceNeg, Int.reduceToNat, Int.reduceEq, Int.reduceBEq, Int.reduceBNe, Nat.reduceBEq, beq_self_eq_true, bne_self_eq_false] | with_reducible refine vcond_split (fun _ => ?_) (fun _ => ?_) | with_reducible refine vg_split (fun _ => ?_) (fun _ => ?_) | ((with_reducible apply DCalls.frz); (focus exact rfl); (focus exact rfl)) | ((with_reducible refine And.intro ?_ ?_); (focus (first | omega | decide | assumption | (simp only [decide_eq_true_eq, decide_eq_false_iff_not] at *; omega)))))
    all_goals exact hk _ (by rw [List.take_left' (by rw [encT_len])])

end Go.Proofs.YtcoedlaifhfnnaaDoor

end

section
/-
  Contracts of the program's layers: which entries may be, which layers are right.
-/

set_option linter.unusedSimpArgs false
set_option linter.unusedVariables false
namespace Go.Proofs.YtcoedlaifhfnnaaDoor
open Go Go.Dm Go.Proofs
set_option maxRecDepth 100000
set_option maxHeartbeats 8000000

abbrev ecv (p : List UInt8) (k : Int) (o : Bool) (nk nm : Int) (nt : Nat) (nd : List UInt8) : List CV := [.p (.s p), .p (.i .i64 k), .p (.b o), .p (.i .i64 nk), .p (.i .i64 nm), .p (.f nt), .p (.sl 1 (encB nd))]

theorem shutE_c {p : List UInt8} {k nk nm : Int} {o : Bool} {nt : Nat} {nd : List UInt8} : DCalls Tryd.prog 43 [.agg (ecv p k o nk nm nt nd)] [] fun r h => r = .c (.p (.b (shutE ⟨p, k, o, ⟨nk, nm, nt, nd⟩⟩))) ∧ h = [] := by
  refine ent tabOK hmix Tryd.func43 rfl rfl fun X0 hX => ?_
  simp only [Tryd.ntmps43, Tryd.f43, go_sem]
  repeat' (first | simp (maxSteps := 1000000) only [*, go_sem, Nat.reduceLT, Nat.reduceLeDiff, Nat.reduceEqDiff, ↓reduceIte, Nat.reduceAdd, Nat.reduceSub, Nat.reduceMul, Int.reduceLT, Int.reduceLE, Int.reduceAdd, Int.reduceSub, Int.reduceMul, Int.reduceNeg, Int.reduceToNat, Int.reduceEq, Int.reduceBEq, Int.reduceBNe, Nat.reduceBEq, beq_self_eq_true, bne_self_eq_false] | with_reducible refine vcond_split (fun _ => ?_) (fun _ => ?_) | with_reducible refine vg_split (fun _ => ?_) (fun _ => ?_) | ((with_reducible apply DCalls.frz); (focus exact rfl); (focus exact rfl)) | ((with_reducible refine And.intro ?_ ?_); (focus (first | omega | decide | assumption | (simp only [decide_eq_true_eq, decide_eq_false_iff_not] at *; omega)))))
  all_goals simp_all [shutE]

theorem zeroE_c {k m : Int} {t : Nat} {d : List UInt8} : DCalls Tryd.prog 60 [.agg (ndc k m t d)] [] fun r h => r = .c (.p (.b (zeroN ⟨k, m, t, d⟩))) ∧ h = [] := by
  refine ent tabOK hmix Tryd.func60 rfl rfl fun X0 hX => ?_
  simp only [Tryd.ntmps60, Tryd.f60, go_sem]
  repeat' (first | simp (maxSteps := 1000000) only [*, go_sem, Nat.reduceLT, Nat.reduceLeDiff, Nat.reduceEqDiff, ↓reduceIte, Nat.reduceAdd, Nat.reduceSub, Nat.reduceMul, Int.reduceLT, Int.reduceLE, Int.reduceAdd, Int.reduceSub, Int.reduceMul, Int.reduceNeg, Int.reduceToNat, Int.reduceEq, Int.reduceBEq, Int.reduceBNe, Nat.reduceBEq, beq_self_eq_true, bne_self_eq_false] | ((with_reducible refine useF (bits_c _) ?_ ?_ ?_); (focus exact rfl); (focus exact rfl)) | with_reducible refine vcond_split (fun _ => ?_) (fun _ => ?_) | with_reducible refine vg_split (fun _ => ?_) (fun _ => ?_) | ((with_reducible apply DCalls.frz); (focus exact rfl); (focus exact rfl)) | ((with_reducible refine And.intro ?_ ?_); (focus (first | omega | decide | assumption | (simp only [decide_eq_true_eq, decide_eq_false_iff_not] at *; omega)))))
  all_goals first | (simp_all [zeroN]; done) | (simp_all [zeroN]; rw [Bool.eq_iff_iff]; simp)

theorem mayE_c {p : List UInt8} {k nk nm : Int} {o : Bool} {nt : Nat} {nd : List UInt8} (hp : p.length ≤ 1000000000) (ht : nt < 18446744073709551616) :
    DCalls Tryd.prog 42 [.agg (ecv p k o nk nm nt nd)] [] fun r h => r = .c (.p (.b (mayE ⟨p, k, o, ⟨nk, nm, nt, nd⟩⟩))) ∧ h = [] := by
  have hip := isPath_c hp
  have hz := zeroE_c (k := nk) (m := nm) (t := nt) (d := nd)
  have hn := nodeRight_c (k := nk) (m := nm) (d := nd) ht
  unfold mayE
  simp only
  generalize isPathR p = ip at *
  generalize zeroN ⟨nk, nm, nt, nd⟩ = z at *
  generalize rightNodeR ⟨nk, nm, nt, nd⟩ = rn at *
  cases ip <;> cases z <;> cases rn <;> cases o
  all_goals
    refine ent tabOK hmix Tryd.func42 rfl rfl fun X0 hX => ?_
    simp only [Tryd.ntmps42, Tryd.f42, go_sem]
  all_goals repeat' (first | simp (maxSteps := 1000000) only [*, go_sem, Nat.reduceLT, Nat.reduceLeDiff, Nat.reduceEqDiff, ↓reduceIte, Nat.reduceAdd, Nat.reduceSub, Nat.reduceMul, Int.reduceLT, Int.reduceLE, Int.reduceAdd, Int.reduceSub, Int.reduceMul, Int.reduceNeg, Int.reduceToNat, Int.reduceEq, Int.reduceBEq, Int.reduceBNe, Nat.reduceBEq, beq_self_eq_true, bne_self_eq_false, Bool.not_true, Bool.not_false] | ((with_reducible refine useF (hip) ?_ ?_ ?_); (focus exact rfl); (focus exact rfl)) | ((with_reducible refine useF (hz) ?_ ?_ ?_); (focus exact rfl); (focus exact rfl)) | ((with_reducible refine useF (hn) ?_ ?_ ?_); (focus exact rfl); (focus exact rfl)) | with_reducible refine vcond_split (fun _ => ?_) (fun _ => ?_) | with_reducible refine vg_split (fun _ => ?_) (fun _ => ?_) | ((with_reducible apply DCalls.frz); (focus exact rfl); (focus exact rfl)) | ((with_reducible refine And.intro ?_ ?_); (focus (first | omega | decide | assumption | (simp only [decide_eq_true_eq, decide_eq_false_iff_not] at *; omega)))))
  all_goals simp_all

theorem layerRight_c {l : List En} (h : OkE l) : DCalls Tryd.prog 26 [.c (.p (.sl 7 (encE l)))] [] fun r h => r = .c (.p (.b true)) ∧ h = [] := by
  have hll := h.len
  refine ent tabOK hmix Tryd.func26 rfl rfl fun X0 hX => ?_
  simp only [Tryd.ntmps26, Tryd.f26, go_sem]
  repeat' (first | simp (maxSteps := 1000000) only [*, go_sem, Nat.reduceLT, Nat.reduceLeDiff, Nat.reduceEqDiff, ↓reduceIte, Nat.reduceAdd, Nat.reduceSub, Nat.reduceMul, Int.reduceLT, Int.reduceLE, Int.reduceAdd, Int.reduceSub, Int.reduceMul, Int.reduceNeg, Int.reduceToNat, Int.reduceEq, Int.reduceBEq, Int.reduceBNe, Nat.reduceBEq, beq_self_eq_true, bne_self_eq_false] | with_reducible refine vcond_split (fun _ => ?_) (fun _ => ?_) | with_reducible refine vg_split (fun _ => ?_) (fun _ => ?_) | ((with_reducible apply DCalls.frz); (focus exact rfl); (focus exact rfl)) | ((with_reducible refine And.intro ?_ ?_); (focus (first | omega | decide | assumption | (simp only [decide_eq_true_eq, decide_eq_false_iff_not] at *; omega)))))
  refine loop_ren tabOK hmix (α := Nat) (fun k => ⟨51, [(0, .c (.p (.sl 7 (encE l)))), (7, .c (.p (.sl 7 (encE l)))), (8, .c (.p (.i .i64 l.length))), (9, .c (.p (.i .i64 k)))], []⟩)
    (fun k => k ≤ l.length) (fun k => l.length - k) 0 (Nat.zero_le _) (.inl (weak_mk (by rw [hX]; rfl) rfl rfl (by simp [wk_cons, wk_nil, look_cons, closedD, closedC, encT_nil, encS_nil, encC_nil]))) ?_
  intro k hk
  by_cases hlt : k < l.length
  · have hx : l[k]? = some l[k] := List.getElem?_eq_getElem hlt
    have hg := encE_at hx
    have h1 : decide ((k : Int) < (l.length : Int)) = true := decide_eq_true (by omega)
    have w1 : IntKind.i64.wrap ((k : Int) + 1) = k + 1 := wrap_i64 (by omega) (by omega)
    have hk0 : (0 : Int) ≤ k := by omega
    have hkl : (k : Int) ≤ l.length := by omega
    have prev : k = 0 ∨ ∃ m : Nat, ∃ y : En, decide ((0 : Int) < k) = true ∧ IntKind.i64.wrap ((k : Int) - 1) = (m : Int) ∧ m < l.length ∧ l[m]? = some y ∧ (bltL l[k].p y.p || l[k].p == y.p) = false := by
      by_cases h0 : 0 < k
      · have hmk : k - 1 < l.length := by omega
        have h3 := List.pairwise_iff_getElem.1 h.srt (k - 1) k hmk hlt (by omega)
        refine .inr ⟨k - 1, l[k - 1], decide_eq_true (by omega), ?_, hmk, List.getElem?_eq_getElem hmk, ?_⟩
        · rw [wrap_i64 (by omega) (by omega)]; omega
        · rw [blt_asymm h3]
          cases he : (l[k].p == l[k - 1].p)
          · rfl
          · rw [eq_of_beq he, blt_irrefl] at h3; cases h3
      · exact .inl (by omega)
    have hmx := h.may _ (List.getElem_mem hlt)
    have p1 := h.plen _ (List.getElem_mem hlt)
    have p2 := h.tlen _ (List.getElem_mem hlt)
    have hop : ∀ j y, l[j]? = some y → j < k → (shutE y && belowR y.p l[k].p) = false := fun j y hy hj => by
      obtain ⟨hj2, rfl⟩ := List.getElem?_eq_some_iff.1 hy
      exact List.pairwise_iff_getElem.1 h.open_ j k hj2 hlt hj
    have hpl := h.plen
    generalize l[k] = x at hx hg prev hmx p1 p2 hop
    have hc := mayE_c (p := x.p) (k := x.k) (o := x.o) (nk := x.n.k) (nm := x.n.m) (nt := x.n.t) (nd := x.n.d) (by omega) p2
    rw [show (⟨x.p, x.k, x.o, ⟨x.n.k, x.n.m, x.n.t, x.n.d⟩⟩ : En) = x from rfl, hmx] at hc
    have htk : (l.take k).length = k := by rw [List.length_take]; omega
    clear hmx h hx
    rcases prev with h0 | ⟨m, y, b1, b2, b3, b4, b5⟩
    · have b1 : decide ((0 : Int) < (k : Int)) = false := decide_eq_false (by omega)
      clear h0
      repeat' (first | simp (maxSteps := 1000000) only [*, go_sem, Nat.reduceLT, Nat.reduceLeDiff, Nat.reduceEqDiff, ↓reduceIte, Nat.reduceAdd, Nat.reduceSub, Nat.reduceMul, Int.reduceLT, Int.reduceLE, Int.reduceAdd, Int.reduceSub, Int.reduceMul, Int.reduceNeg, Int.reduceToNat, Int.reduceEq, Int.reduceBEq, Int.reduceBNe, Nat.reduceBEq, beq_self_eq_true, bne_self_eq_false, Bool.not_true, Bool.not_false] | ((with_reducible refine useF (hc) ?_ ?_ ?_); (focus exact rfl); (focus exact rfl)) | ((refine vc_drawn (id := 4) tabOK hmix [] [0,1,2,3,4,5,6,7,8,9,10,11,12,13,14,15,16,17] (by decide +kernel) ?_); (repeat' (first | (refine ds_nil ?_) | ((refine ds_one ?_ rfl rfl ?_ ?_); (rotate_left 1); (focus ((repeat' (first | simp (maxSteps := 1000000) only [*, go_sem, Nat.reduceLT, Nat.reduceLeDiff, Nat.reduceEqDiff, ↓reduceIte, Nat.reduceAdd, Nat.reduceSub, Nat.reduceMul, Int.reduceLT, Int.reduceLE, Int.reduceAdd, Int.reduceSub, Int.reduceMul, Int.reduceNeg, Int.reduceToNat, Int.reduceEq, Int.reduceBEq, Int.reduceBNe, Nat.reduceBEq, beq_self_eq_true, bne_self_eq_false, Bool.not_true, Bool.not_false] | ((with_reducible refine useF (hc) ?_ ?_ ?_); (focus exact rfl); (focus exact rfl)) | with_reducible refine vcond_split (fun _ => ?_) (fun _ => ?_) | with_reducible refine vg_split (fun _ => ?_) (fun _ => ?_) | ((with_reducible apply DCalls.frz); (focus exact rfl); (focus exact rfl)) | ((with_reducible refine And.intro ?_ ?_); (focus (first | omega | decide | assumption | (simp only [decide_eq_true_eq, decide_eq_false_iff_not] at *; omega)))))); exact rfl)); (simp only [putF_some, putF_none]))))) | with_reducible refine vcond_split (fun _ => ?_) (fun _ => ?_) | with_reducible refine vg_split (fun _ => ?_) (fun _ => ?_) | ((with_reducible apply DCalls.frz); (focus exact rfl); (focus exact rfl)) | ((with_reducible refine And.intro ?_ ?_); (focus (first | omega | decide | assumption | (simp only [decide_eq_true_eq, decide_eq_false_iff_not] at *; omega)))))
      refine loop_renS (α := Nat) (fun j => ⟨51, [(0, .c (.p (.sl 7 (encE l)))), (7, .c (.p (.sl 7 (encE l)))), (8, .c (.p (.i .i64 l.length))), (9, .c (.p (.i .i64 k))), (4, .c (.ptr 0 0)), (34, .c (.p (.sl 7 (encE (l.take k))))), (35, .c (.p (.i .i64 k))), (36, .c (.p (.i .i64 j)))], [.box (ecv x.p x.k x.o x.n.k x.n.m x.n.t x.n.d)]⟩)
        (fun j => j ≤ k) (fun j => k - j) 0 (Nat.zero_le _) (.inl (weak_mk (by rw [hX]; rfl) rfl rfl (by simp [wk_cons, wk_nil, look_cons, closedD, closedC, closedK, closedB, encE_take, htk]))) ?_
      intro j hj
      by_cases hjk : j < k
      · have hjl : j < l.length := by omega
        have hz : (l.take k)[j]? = some l[j] := by rw [List.getElem?_take, if_pos hjk]; exact List.getElem?_eq_getElem hjl
        have hgz := encE_at hz
        have hoz := hop j l[j] (List.getElem?_eq_getElem hjl) hjk
        have hzp := hpl _ (List.getElem_mem hjl)
        have h2 : decide ((j : Int) < (k : Int)) = true := decide_eq_true (by omega)
        have w2 : IntKind.i64.wrap ((j : Int) + 1) = j + 1 := wrap_i64 (by omega) (by omega)
        have hjk2 : (j : Int) < (k : Int) := by omega
        have hjm : (j : Int) < (min k l.length : Nat) := by omega
        have hj0 : (0 : Int) ≤ j := by omega
        generalize l[j] = z at hz hgz hoz hzp
        have hsh := shutE_c (p := z.p) (k := z.k) (o := z.o) (nk := z.n.k) (nm := z.n.m) (nt := z.n.t) (nd := z.n.d)
        rw [show (⟨z.p, z.k, z.o, ⟨z.n.k, z.n.m, z.n.t, z.n.d⟩⟩ : En) = z from rfl] at hsh
        clear hop hpl hz
        refine swp_vc tabOK hmix ?_
        cases hsz : shutE z
        · rw [hsz] at hsh
          repeat' (first | simp (maxSteps := 1000000) only [*, go_sem, Nat.reduceLT, Nat.reduceLeDiff, Nat.reduceEqDiff, ↓reduceIte, Nat.reduceAdd, Nat.reduceSub, Nat.reduceMul, Int.reduceLT, Int.reduceLE, Int.reduceAdd, Int.reduceSub, Int.reduceMul, Int.reduceNeg, Int.reduceToNat, Int.reduceEq, Int.reduceBEq, Int.reduceBNe, Nat.reduceBEq, beq_self_eq_true, bne_self_eq_false, Bool.not_true, Bool.not_false] | ((with_reducible refine useF (hsh) ?_ ?_ ?_); (focus exact rfl); (focus exact rfl)) | ((with_reducible refine useF (nameBelow_c (p := z.p) (by omega)) ?_ ?_ ?_); (focus exact rfl); (focus exact rfl)) | with_reducible refine vcond_split (fun _ => ?_) (fun _ => ?_) | with_reducible refine vg_split (fun _ => ?_) (fun _ => ?_) | ((with_reducible apply DCalls.frz); (focus exact rfl); (focus exact rfl)) | ((with_reducible refine And.intro ?_ ?_); (focus (first | omega | decide | assumption | (simp only [decide_eq_true_eq, decide_eq_false_iff_not] at *; omega)))))
          exact qr_n (j + 1) (by omega) (by omega) (weak_mk rfl rfl rfl (by simp [wk_cons, wk_nil, look_cons, closedD, closedC, closedK, closedB]))
        · rw [hsz] at hsh hoz
          rw [Bool.true_and] at hoz
          repeat' (first | simp (maxSteps := 1000000) only [*, go_sem, Nat.reduceLT, Nat.reduceLeDiff, Nat.reduceEqDiff, ↓reduceIte, Nat.reduceAdd, Nat.reduceSub, Nat.reduceMul, Int.reduceLT, Int.reduceLE, Int.reduceAdd, Int.reduceSub, Int.reduceMul, Int.reduceNeg, Int.reduceToNat, Int.reduceEq, Int.reduceBEq, Int.reduceBNe, Nat.reduceBEq, beq_self_eq_true, bne_self_eq_false, Bool.not_true, Bool.not_false] | ((with_reducible refine useF (hsh) ?_ ?_ ?_); (focus exact rfl); (focus exact rfl)) | ((with_reducible refine useF (nameBelow_c (p := z.p) (by omega)) ?_ ?_ ?_); (focus exact rfl); (focus exact rfl)) | with_reducible refine vcond_split (fun _ => ?_) (fun _ => ?_) | with_reducible refine vg_split (fun _ => ?_) (fun _ => ?_) | ((with_reducible apply DCalls.frz); (focus exact rfl); (focus exact rfl)) | ((with_reducible refine And.intro ?_ ?_); (focus (first | omega | decide | assumption | (simp only [decide_eq_true_eq, decide_eq_false_iff_not] at *; omega)))))
          exact qr_n (j + 1) (by omega) (by omega) (weak_mk rfl rfl rfl (by simp [wk_cons, wk_nil, look_cons, closedD, closedC, closedK, closedB]))
      · have h2 : decide ((j : Int) < (k : Int)) = false := decide_eq_false (by omega)
        clear hop hpl
        refine swp_vc tabOK hmix ?_
        repeat' (first | simp (maxSteps := 1000000) only [*, go_sem, Nat.reduceLT, Nat.reduceLeDiff, Nat.reduceEqDiff, ↓reduceIte, Nat.reduceAdd, Nat.reduceSub, Nat.reduceMul, Int.reduceLT, Int.reduceLE, Int.reduceAdd, Int.reduceSub, Int.reduceMul, Int.reduceNeg, Int.reduceToNat, Int.reduceEq, Int.reduceBEq, Int.reduceBNe, Nat.reduceBEq, beq_self_eq_true, bne_self_eq_false] | with_reducible refine vcond_split (fun _ => ?_) (fun _ => ?_) | with_reducible refine vg_split (fun _ => ?_) (fun _ => ?_) | ((with_reducible apply DCalls.frz); (focus exact rfl); (focus exact rfl)) | ((with_reducible refine And.intro ?_ ?_); (focus (first | omega | decide | assumption | (simp only [decide_eq_true_eq, decide_eq_false_iff_not] at *; omega)))))
        exact qr_n (k + 1) (by omega) (by omega) (weak_mk rfl rfl rfl (by simp [wk_cons, wk_nil, look_cons, closedD, closedC, renT, renD, renC, encT_nil, encS_nil, encC_nil]))
    · have hgy := encE_at b4
      have b6 : (m : Int) < l.length := by omega
      repeat' (first | simp (maxSteps := 1000000) only [*, go_sem, Nat.reduceLT, Nat.reduceLeDiff, Nat.reduceEqDiff, ↓reduceIte, Nat.reduceAdd, Nat.reduceSub, Nat.reduceMul, Int.reduceLT, Int.reduceLE, Int.reduceAdd, Int.reduceSub, Int.reduceMul, Int.reduceNeg, Int.reduceToNat, Int.reduceEq, Int.reduceBEq, Int.reduceBNe, Nat.reduceBEq, beq_self_eq_true, bne_self_eq_false, Bool.not_true, Bool.not_false] | ((with_reducible refine useF (hc) ?_ ?_ ?_); (focus exact rfl); (focus exact rfl)) | ((refine vc_drawn (id := 4) tabOK hmix [] [0,1,2,3,4,5,6,7,8,9,10,11,12,13,14,15,16,17] (by decide +kernel) ?_); (repeat' (first | (refine ds_nil ?_) | ((refine ds_one ?_ rfl rfl ?_ ?_); (rotate_left 1); (focus ((repeat' (first | simp (maxSteps := 1000000) only [*, go_sem, Nat.reduceLT, Nat.reduceLeDiff, Nat.reduceEqDiff, ↓reduceIte, Nat.reduceAdd, Nat.reduceSub, Nat.reduceMul, Int.reduceLT, Int.reduceLE, Int.reduceAdd, Int.reduceSub, Int.reduceMul, Int.reduceNeg, Int.reduceToNat, Int.reduceEq, Int.reduceBEq, Int.reduceBNe, Nat.reduceBEq, beq_self_eq_true, bne_self_eq_false, Bool.not_true, Bool.not_false] | ((with_reducible refine useF (hc) ?_ ?_ ?_); (focus exact rfl); (focus exact rfl)) | with_reducible refine vcond_split (fun _ => ?_) (fun _ => ?_) | with_reducible refine vg_split (fun _ => ?_) (fun _ => ?_) | ((with_reducible apply DCalls.frz); (focus exact rfl); (focus exact rfl)) | ((with_reducible refine And.intro ?_ ?_); (focus (first | omega | decide | assumption | (simp only [decide_eq_true_eq, decide_eq_false_iff_not] at *; omega)))))); exact rfl)); (simp only [putF_some, putF_none]))))) | with_reducible refine vcond_split (fun _ => ?_) (fun _ => ?_) | with_reducible refine vg_split (fun _ => ?_) (fun _ => ?_) | ((with_reducible apply DCalls.frz); (focus exact rfl); (focus exact rfl)) | ((with_reducible refine And.intro ?_ ?_); (focus (first | omega | decide | assumption | (simp only [decide_eq_true_eq, decide_eq_false_iff_not] at *; omega)))))
      refine loop_renS (α := Nat) (fun j => ⟨51, [(0, .c (.p (.sl 7 (encE l)))), (7, .c (.p (.sl 7 (encE l)))), (8, .c (.p (.i .i64 l.length))), (9, .c (.p (.i .i64 k))), (4, .c (.ptr 0 0)), (34, .c (.p (.sl 7 (encE (l.take k))))), (35, .c (.p (.i .i64 k))), (36, .c (.p (.i .i64 j)))], [.box (ecv x.p x.k x.o x.n.k x.n.m x.n.t x.n.d)]⟩)
        (fun j => j ≤ k) (fun j => k - j) 0 (Nat.zero_le _) (.inl (weak_mk (by rw [hX]; rfl) rfl rfl (by simp [wk_cons, wk_nil, look_cons, closedD, closedC, closedK, closedB, encE_take, htk]))) ?_
      intro j hj
      by_cases hjk : j < k
      · have hjl : j < l.length := by omega
        have hz : (l.take k)[j]? = some l[j] := by rw [List.getElem?_take, if_pos hjk]; exact List.getElem?_eq_getElem hjl
        have hgz := encE_at hz
        have hoz := hop j l[j] (List.getElem?_eq_getElem hjl) hjk
        have hzp := hpl _ (List.getElem_mem hjl)
        have h2 : decide ((j : Int) < (k : Int)) = true := decide_eq_true (by omega)
        have w2 : IntKind.i64.wrap ((j : Int) + 1) = j + 1 := wrap_i64 (by omega) (by omega)
        have hjk2 : (j : Int) < (k : Int) := by omega
        have hjm : (j : Int) < (min k l.length : Nat) := by omega
        have hj0 : (0 : Int) ≤ j := by omega
        generalize l[j] = z at hz hgz hoz hzp
        have hsh := shutE_c (p := z.p) (k := z.k) (o := z.o) (nk := z.n.k) (nm := z.n.m) (nt := z.n.t) (nd := z.n.d)
        rw [show (⟨z.p, z.k, z.o, ⟨z.n.k, z.n.m, z.n.t, z.n.d⟩⟩ : En) = z from rfl] at hsh
        clear hop hpl hz
        refine swp_vc tabOK hmix ?_
        cases hsz : shutE z
        · rw [hsz] at hsh
          repeat' (first | simp (maxSteps := 1000000) only [*, go_sem, Nat.reduceLT, Nat.reduceLeDiff, Nat.reduceEqDiff, ↓reduceIte, Nat.reduceAdd, Nat.reduceSub, Nat.reduceMul, Int.reduceLT, Int.reduceLE, Int.reduceAdd, Int.reduceSub, Int.reduceMul, Int.reduceNeg, Int.reduceToNat, Int.reduceEq, Int.reduceBEq, Int.reduceBNe, Nat.reduceBEq, beq_self_eq_true, bne_self_eq_false, Bool.not_true, Bool.not_false] | ((with_reducible refine useF (hsh) ?_ ?_ ?_); (focus exact rfl); (focus exact rfl)) | ((with_reducible refine useF (nameBelow_c (p := z.p) (by omega)) ?_ ?_ ?_); (focus exact rfl); (focus exact rfl)) | with_reducible refine vcond_split (fun _ => ?_) (fun _ => ?_) | with_reducible refine vg_split (fun _ => ?_) (fun _ => ?_) | ((with_reducible apply DCalls.frz); (focus exact rfl); (focus exact rfl)) | ((with_reducible refine And.intro ?_ ?_); (focus (first | omega | decide | assumption | (simp only [decide_eq_true_eq, decide_eq_false_iff_not] at *; omega)))))
          exact qr_n (j + 1) (by omega) (by omega) (weak_mk rfl rfl rfl (by simp [wk_cons, wk_nil, look_cons, closedD, closedC, closedK, closedB]))
        · rw [hsz] at hsh hoz
          rw [Bool.true_and] at hoz
          repeat' (first | simp (maxSteps := 1000000) only [*, go_sem, Nat.reduceLT, Nat.reduceLeDiff, Nat.reduceEqDiff, ↓reduceIte, Nat.reduceAdd, Nat.reduceSub, Nat.reduceMul, Int.reduceLT, Int.reduceLE, Int.reduceAdd, Int.reduceSub, Int.reduceMul, Int.reduceNeg, Int.reduceToNat, Int.reduceEq, Int.reduceBEq, Int.reduceBNe, Nat.reduceBEq, beq_self_eq_true, bne_self_eq_false, Bool.not_true, Bool.not_false] | ((with_reducible refine useF (hsh) ?_ ?_ ?_); (focus exact rfl); (focus exact rfl)) | ((with_reducible refine useF (nameBelow_c (p := z.p) (by omega)) ?_ ?_ ?_); (focus exact rfl); (focus exact rfl)) | with_reducible refine vcond_split (fun _ => ?_) (fun _ => ?_) | with_reducible refine vg_split (fun _ => ?_) (fun _ => ?_) | ((with_reducible apply DCalls.frz); (focus exact rfl); (focus exact rfl)) | ((with_reducible refine And.intro ?_ ?_); (focus (first | omega | decide | assumption | (simp only [decide_eq_true_eq, decide_eq_false_iff_not] at *; omega)))))
          exact qr_n (j + 1) (by omega) (by omega) (weak_mk rfl rfl rfl (by simp [wk_cons, wk_nil, look_cons, closedD, closedC, closedK, closedB]))
      · have h2 : decide ((j : Int) < (k : Int)) = false := decide_eq_false (by omega)
        clear hop hpl
        refine swp_vc tabOK hmix ?_
        repeat' (first | simp (maxSteps := 1000000) only [*, go_sem, Nat.reduceLT, Nat.reduceLeDiff, Nat.reduceEqDiff, ↓reduceIte, Nat.reduceAdd, Nat.reduceSub, Nat.reduceMul, Int.reduceLT, Int.reduceLE, Int.reduceAdd, Int.reduceSub, Int.reduceMul, Int.reduceNeg, Int.reduceToNat, Int.reduceEq, Int.reduceBEq, Int.reduceBNe, Nat.reduceBEq, beq_self_eq_true, bne_self_eq_false] | with_reducible refine vcond_split (fun _ => ?_) (fun _ => ?_) | with_reducible refine vg_split (fun _ => ?_) (fun _ => ?_) | ((with_reducible apply DCalls.frz); (focus exact rfl); (focus exact rfl)) | ((with_reducible refine And.intro ?_ ?_); (focus (first | omega | decide | assumption | (simp only [decide_eq_true_eq, decide_eq_false_iff_not] at *; omega)))))
        exact qr_n (k + 1) (by omega) (by omega) (weak_mk rfl rfl rfl (by simp [wk_cons, wk_nil, look_cons, closedD, closedC, renT, renD, renC, encT_nil, encS_nil, encC_nil]))
  · have h1 : decide ((k : Int) < (l.length : Int)) = false := decide_eq_false (by omega)
    repeat' (first | simp (maxSteps := 1000000) only [*, go_sem, Nat.reduceLT, Nat.reduceLeDiff, Nat.reduceEqDiff, ↓reduceIte, Nat.reduceAdd, Nat.reduceSub, Nat.reduceMul, Int.reduceLT, Int.reduceLE, Int.reduceAdd, Int.reduceSub, Int.reduceMul, Int.reduceNeg, Int.reduceToNat, Int.reduceEq, Int.reduceBEq, Int.reduceBNe, Nat.reduceBEq, beq_self_eq_true, bne_self_eq_false] | with_reducible refine vcond_split (fun _ => ?_) (fun _ => ?_) | with_reducible refine vg_split (fun _ => ?_) (fun _ => ?_) | ((with_reducible apply DCalls.frz); (focus exact rfl); (focus exact rfl)) | ((with_reducible refine And.intro ?_ ?_); (focus (first | omega | decide | assumption | (simp only [decide_eq_true_eq, decide_eq_false_iff_not] at *; omega)))))
end Go.Proofs.YtcoedlaifhfnnaaDoor

end
