import Derived.Test.YtjpmajeekikdhaaGreatDoorF1
import Derived.Test.YtjpmajeekikdhaaGreatDoorSD
import Derived.Test.YtjpmajeekikdhaaGreatDoorVB
import Derived.Test.YtjpmajeekikdhaaGreatDoorD6

section
/-
  Contracts of the program's writers and readers of bytes.
-/

set_option linter.unusedSimpArgs false
set_option linter.unusedVariables false
namespace Go.Proofs.YtjpmajeekikdhaaGreatDoor
open Go Go.Dm
set_option maxRecDepth 100000
set_option maxHeartbeats 4000000

theorem take13 (a1 a2 a3 a4 a5 a6 a7 a8 a9 a10 a11 a12 a13 : UInt8) (d : List UInt8) : List.take (13 + d.length) (a1 :: a2 :: a3 :: a4 :: a5 :: a6 :: a7 :: a8 :: a9 :: a10 :: a11 :: a12 :: a13 :: d) = a1 :: a2 :: a3 :: a4 :: a5 :: a6 :: a7 :: a8 :: a9 :: a10 :: a11 :: a12 :: a13 :: d := List.take_of_length_le (by simp only [List.length_cons]; omega)

theorem newWriter_k {h : DHeap} {K : DV → DHeap → Prop} (hk : K (.c (.ptr h.length 0)) (h ++ [.box [.p .nil]])) : DCalls Tryz.prog 39 [] h K := by
  refine entR tabOK hmix Tryz.func39 rfl rfl fun X0 hX => ?_
  simp only [Tryz.f39, go_sem]
  repeat' (simp only [*, go_sem, Nat.reduceLT, Nat.reduceEqDiff, ↓reduceIte, ])

theorem layNode_c {k m : Int} {t : Nat} {d : List UInt8} (ht : t < 18446744073709551616) (hr : rightNodeR ⟨k, m, t, d⟩ = true) :
    DCalls Tryz.prog 43 [.agg (ndc k m t d)] [] fun r h => r = .tup [.c (.p (.sl 1 (encB (layNode ⟨k, m, t, d⟩)))), .c (.p (.i .i64 0))] ∧ h = [] := by
  have hd := rightNodeR_len hr
  simp only at hd
  have hdl : decide ((65535 : Int) < (d.length : Int)) = false := decide_eq_false (by omega)
  refine ent tabOK hmix Tryz.func43 rfl rfl fun X0 hX => ?_
  simp only [Tryz.f43, go_sem]
  repeat' (first | simp only [*, go_sem, Nat.reduceLT, Nat.reduceLeDiff, Nat.reduceEqDiff, ↓reduceIte, Nat.reduceAdd, Int.reduceLE, Int.reduceSub, Int.reduceNeg, Nat.reduceBEq, wrap_i64_lit, wrap_i64_m1, decide_true, decide_false, encB_app, take13, List.length_cons] | ((with_reducible refine useF (nodeRight_c ht) ?_ ?_ ?_); (focus exact rfl); (focus exact rfl)) | refine newWriter_k ?_ | ((with_reducible refine entK tabOK hmix Tryz.func42 rfl rfl fun _ _ => ?_); simp only [Tryz.f42, go_sem]) | ((with_reducible refine entK tabOK hmix Tryz.func40 rfl rfl fun _ _ => ?_); simp only [Tryz.f40, go_sem]) | ((with_reducible refine entK tabOK hmix Tryz.func87 rfl rfl fun _ _ => ?_); simp only [Tryz.f87, go_sem]) | ((with_reducible refine entR tabOK hmix Tryz.func41 rfl rfl fun _ _ => ?_); simp only [Tryz.f41, go_sem]) | ((with_reducible refine entK tabOK hmix Tryz.func44 rfl rfl fun _ _ => ?_); simp only [Tryz.f44, go_sem]) | ((with_reducible refine entR tabOK hmix Tryz.func45 rfl rfl fun _ _ => ?_); simp only [Tryz.f45, go_sem]) | ((with_reducible refine entK tabOK hmix Tryz.func86 rfl rfl fun _ _ => ?_); simp only [Tryz.f86, go_sem]) | ((with_reducible refine useF (bits_c _) ?_ ?_ ?_); (focus exact rfl); (focus exact rfl)) | ((refine vc_drawn (id := 3) tabOK hmix [10,11,14] [5,6,7,8,9,10,1,2,3,4,11,0,12,13,14] (by decide +kernel) ?_); (repeat' (first | (refine ds_nil ?_) | ((refine ds_chg ?_ ?_ rfl rfl rfl ?_ ?_); (rotate_left 2); (focus ((repeat' (first | simp only [*, go_sem, Nat.reduceLT, Nat.reduceLeDiff, Nat.reduceEqDiff, ↓reduceIte, Nat.reduceAdd, Nat.reduceBEq, encB_one1, encB_app, List.length_cons] | ((with_reducible refine And.intro ?_ ?_); (focus (decide))))); ((refine And.intro ?_ ?_ <;> exact rfl)))); (simp only [putF_some, putF_none])) | ((refine ds_all ?_ rfl rfl rfl ?_ ?_); (rotate_left 1); (focus ((repeat' (first | exact allH_nil | refine allH_cons ?_ ?_)); (all_goals ((repeat' (simp only [*, go_sem, Nat.reduceLT, Nat.reduceLeDiff, Nat.reduceEqDiff, ↓reduceIte, Int.reduceLE, Int.reduceMul, Int.reduceToNat, wrap_i64_lit, Nat.min_def, ])); (try (exact rfl)))))); (simp only [putF_some]))))) | refine loop_rounds tabOK hmix 9 ?_ | ((with_reducible refine And.intro ?_ ?_); (focus (first | omega | decide))))
  all_goals first | (refine ⟨?_, ?_, rfl, rfl⟩ <;> omega) | exact ⟨rfl, rfl⟩ | exact rfl | trace_state

theorem rdRaw_c {r : Rd} {n : Nat} (hn : n ≤ 140737488355328) (hb : r.b.length ≤ 140737488355328) :
    DCalls Tryz.prog 97 [.c (.ptr 0 0), .c (.p (.i .i64 n))] [.box [.p (.sl 1 (encB r.b)), .p (.b r.l)]] fun d h => d = .c (.p (.sl 1 (encB (r.raw n).1))) ∧ h = [.box [.p (.sl 1 (encB (r.raw n).2.b)), .p (.b (r.raw n).2.l)]] := by
  obtain ⟨b, l⟩ := r
  simp only at hb
  have n1 : decide ((n : Int) < 0) = false := decide_eq_false (by omega)
  have n2 : (0 : Int) ≤ (n : Int) := by omega
  unfold Rd.raw
  cases l
  · by_cases hl : b.length < n
    · have n3 : decide ((b.length : Int) < (n : Int)) = true := decide_eq_true (by omega)
      simp only [Bool.false_or, decide_eq_true hl, if_true]
      refine dcalls_wkb rfl ?_
      refine ent tabOK hmix Tryz.func97 rfl rfl fun X0 hX => ?_
      simp only [Tryz.f97, go_sem]
      repeat' (simp only [*, go_sem, Nat.reduceLT, Nat.reduceLeDiff, Nat.reduceEqDiff, ↓reduceIte, Nat.reduceAdd, ])
      exact ⟨.inr ⟨1, rfl⟩, rfl, .inr ⟨rfl, 1, rfl⟩, .inl rfl, True.intro⟩
    · have n3 : decide ((b.length : Int) < (n : Int)) = false := decide_eq_false (by omega)
      have n4 : (n : Int) ≤ (b.length : Int) := by omega
      simp only [Bool.false_or, decide_eq_false hl, Bool.false_eq_true, if_false]
      refine ent tabOK hmix Tryz.func97 rfl rfl fun X0 hX => ?_
      simp only [Tryz.f97, go_sem]
      repeat' (first | simp only [*, go_sem, Nat.reduceLT, Nat.reduceLeDiff, Nat.reduceEqDiff, ↓reduceIte, Nat.reduceAdd, Int.reduceLE, Int.reduceToNat, ] | ((with_reducible refine And.intro ?_ ?_); (focus (decide))))
      all_goals (simp only [List.length_take]; omega)
  · simp only [Bool.true_or, if_true]
    refine dcalls_wkb rfl ?_
    refine ent tabOK hmix Tryz.func97 rfl rfl fun X0 hX => ?_
    simp only [Tryz.f97, go_sem]
    repeat' (simp only [*, go_sem, Nat.reduceLT, Nat.reduceLeDiff, Nat.reduceEqDiff, ↓reduceIte, Nat.reduceAdd, ])
    exact ⟨.inr ⟨1, rfl⟩, rfl, .inr ⟨rfl, 1, rfl⟩, .inl rfl, True.intro⟩

theorem rdNum_c {r : Rd} {n : Nat} (hn : n ≤ 8) (hb : r.b.length ≤ 140737488355328) :
    DCalls Tryz.prog 96 [.c (.ptr 0 0), .c (.p (.i .i64 n))] [.box [.p (.sl 1 (encB r.b)), .p (.b r.l)]] fun d h => d = .c (.p (.i .u64 (r.num n).1)) ∧ h = [.box [.p (.sl 1 (encB (r.num n).2.b)), .p (.b (r.num n).2.l)]] := by
  have hc := rdRaw_c (r := r) (n := n) (by omega) hb
  have hz := r.raw_le n
  unfold Rd.num
  generalize (r.raw n).1 = z at hc hz
  generalize (r.raw n).2 = q at hc
  refine ent tabOK hmix Tryz.func96 rfl rfl fun X0 hX => ?_
  simp only [Tryz.f96, go_sem]
  repeat' (first | simp only [*, go_sem, Nat.reduceLT, Nat.reduceEqDiff, ↓reduceIte, ] | ((with_reducible refine useB1 (hc) ?_ ?_ ?_); (focus exact rfl); (focus exact rfl)))
  refine loop_ren tabOK hmix (α := Nat × Nat) (fun x => ⟨23, [(4, .c (.p (.i .u64 0))), (0, .c (.ptr 0 0)), (10, .c (.p (.sl 1 (encB z)))), (11, .c (.p (.i .i64 z.length))), (5, .c (.p (.i .u64 x.2))), (12, .c (.p (.i .i64 x.1)))], [.box [.p (.sl 1 (encB q.b)), .p (.b q.l)]]⟩)
    (fun x => x.1 ≤ z.length ∧ natOf (z.take x.1) = x.2) (fun x => z.length - x.1) (0, 0) ⟨Nat.zero_le _, rfl⟩ (.inl (weak_mk (by rw [hX]; rfl) rfl rfl (by simp [wk_cons, wk_nil, look_cons, closedD, closedC, ]))) ?_
  rintro ⟨k, v⟩ ⟨hk, hv⟩
  simp only at hk hv
  by_cases hlt : k < z.length
  · have hx : z[k]? = some z[k] := List.getElem?_eq_getElem hlt
    have hg := encB_at hx
    have h1 : decide ((k : Int) < (z.length : Int)) = true := decide_eq_true (by omega)
    have h3 : (k : Int) < (z.length : Int) := by omega
    have hk0 : (0 : Int) ≤ k := by omega
    have w1 : IntKind.i64.wrap ((k : Int) + 1) = k + 1 := wrap_i64 (by omega) (by omega)
    have hv1 := natOf_take_lt (by omega) hlt
    rw [hv] at hv1
    have hc1 : z[k].toNat < 256 := z[k].toNat_lt
    have hs := or_shift hv1 hc1
    have wc : IntKind.u64.wrap (z[k].toNat : Int) = (z[k].toNat : Int) := wrap_u64_nat (by omega)
    have hJ : k + 1 ≤ z.length ∧ natOf (z.take (k + 1)) = v * 256 + z[k].toNat := ⟨by omega, by rw [List.take_add_one, hx]; show natOf (z.take k ++ [z[k]]) = _; rw [natOf_snoc, hv]⟩
    repeat' (simp only [*, go_sem, Nat.reduceLT, Nat.reduceLeDiff, Nat.reduceEqDiff, ↓reduceIte, Int.reduceLE, Int.reduceToNat, Nat.min_def])
    (refine qr_n (k + 1, v * 256 + z[k].toNat) hJ ?_ (weak_mk rfl rfl rfl ?_) <;> first | omega | (simp only; omega; done) | exact hgt _ | exact bitsF_lt (timeF_lt hxx) | (simp [wk_cons, wk_nil, look_cons, closedD, closedC, ]; done))
  · have h1 : decide ((k : Int) < (z.length : Int)) = false := decide_eq_false (by omega)
    rw [List.take_of_length_le (by omega)] at hv
    subst hv
    repeat' (simp only [*, go_sem, Nat.reduceLT, Nat.reduceEqDiff, ↓reduceIte, ])

theorem rdU8_c {r : Rd} (hb : r.b.length ≤ 140737488355328) :
    DCalls Tryz.prog 60 [.c (.ptr 0 0)] [.box [.p (.sl 1 (encB r.b)), .p (.b r.l)]] fun d h => d = .c (.p (.i .i64 (r.num 1).1)) ∧ h = [.box [.p (.sl 1 (encB (r.num 1).2.b)), .p (.b (r.num 1).2.l)]] := by
  have hc := rdNum_c (r := r) (n := 1) (by omega) hb
  have hl := r.num_lt1
  have hw : IntKind.i64.wrap ((r.num 1).1 : Int) = (r.num 1).1 := wrap_i64 (by omega) (by omega)
  refine ent tabOK hmix Tryz.func60 rfl rfl fun X0 hX => ?_
  simp only [Tryz.f60, go_sem]
  repeat' (first | simp only [*, go_sem, Nat.reduceLT, Nat.reduceEqDiff, ↓reduceIte, ] | ((with_reducible refine useB1 (hc) ?_ ?_ ?_); (focus exact rfl); (focus exact rfl)))

theorem rdU16_c {r : Rd} (hb : r.b.length ≤ 140737488355328) :
    DCalls Tryz.prog 57 [.c (.ptr 0 0)] [.box [.p (.sl 1 (encB r.b)), .p (.b r.l)]] fun d h => d = .c (.p (.i .i64 (r.num 2).1)) ∧ h = [.box [.p (.sl 1 (encB (r.num 2).2.b)), .p (.b (r.num 2).2.l)]] := by
  have hc := rdNum_c (r := r) (n := 2) (by omega) hb
  have hl := r.num_lt2
  have hw : IntKind.i64.wrap ((r.num 2).1 : Int) = (r.num 2).1 := wrap_i64 (by omega) (by omega)
  refine ent tabOK hmix Tryz.func57 rfl rfl fun X0 hX => ?_
  simp only [Tryz.f57, go_sem]
  repeat' (first | simp only [*, go_sem, Nat.reduceLT, Nat.reduceEqDiff, ↓reduceIte, ] | ((with_reducible refine useB1 (hc) ?_ ?_ ?_); (focus exact rfl); (focus exact rfl)))

theorem rdF64_c {r : Rd} (hb : r.b.length ≤ 140737488355328) :
    DCalls Tryz.prog 98 [.c (.ptr 0 0)] [.box [.p (.sl 1 (encB r.b)), .p (.b r.l)]] fun d h => d = .c (.p (.f (r.num 8).1)) ∧ h = [.box [.p (.sl 1 (encB (r.num 8).2.b)), .p (.b (r.num 8).2.l)]] := by
  have hc := rdNum_c (r := r) (n := 8) (by omega) hb
  have hf := frombits_c ((r.num 8).1 : Int) (by omega)
  rw [Int.toNat_natCast] at hf
  refine ent tabOK hmix Tryz.func98 rfl rfl fun X0 hX => ?_
  simp only [Tryz.f98, go_sem]
  repeat' (first | simp only [*, go_sem, Nat.reduceLT, Nat.reduceEqDiff, ↓reduceIte, ] | ((with_reducible refine useB1 (hc) ?_ ?_ ?_); (focus exact rfl); (focus exact rfl)) | ((with_reducible refine useF (hf) ?_ ?_ ?_); (focus exact rfl); (focus exact rfl)))

theorem rdText_c {r : Rd} (hb : r.b.length ≤ 140737488355328) :
    DCalls Tryz.prog 59 [.c (.ptr 0 0)] [.box [.p (.sl 1 (encB r.b)), .p (.b r.l)]] fun d h => d = .c (.p (.sl 1 (encB r.text.1))) ∧ h = [.box [.p (.sl 1 (encB r.text.2.b)), .p (.b r.text.2.l)]] := by
  have hc := rdU16_c hb
  have hl := r.num_lt2
  have hd := rdRaw_c (r := (r.num 2).2) (n := (r.num 2).1) (by omega) (Nat.le_trans (r.len_num 2) hb)
  unfold Rd.text
  refine ent tabOK hmix Tryz.func59 rfl rfl fun X0 hX => ?_
  simp only [Tryz.f59, go_sem]
  repeat' (first | simp only [*, go_sem, Nat.reduceLT, Nat.reduceEqDiff, ↓reduceIte, ] | ((with_reducible refine useB (hc) ?_ ?_ ?_); (focus exact rfl); (focus exact rfl)) | ((with_reducible refine useB1 (hd) ?_ ?_ ?_); (focus exact rfl); (focus exact rfl)))

theorem rdLack_c {b : List (List PV)} {l : Bool} : DCalls Tryz.prog 58 [.c (.ptr 0 0)] [.box [.p (.sl 1 b), .p (.b l)]] fun d h => d = .c (.p (.b l)) ∧ h = [.box [.p (.sl 1 b), .p (.b l)]] := by
  refine ent tabOK hmix Tryz.func58 rfl rfl fun X0 hX => ?_
  simp only [Tryz.f58, go_sem]
  repeat' (simp only [*, go_sem, Nat.reduceLT, Nat.reduceEqDiff, ↓reduceIte, ])

theorem take_c {r : Rd} (hb : r.b.length ≤ 140737488355328) :
    DCalls Tryz.prog 61 [.c (.ptr 0 0)] [.box [.p (.sl 1 (encB r.b)), .p (.b r.l)]] fun d h => d = .tup [.agg (ndc r.take.1.k r.take.1.m r.take.1.t r.take.1.d), .c (.p (.b r.take.2))] ∧ h = [.box [.p (.sl 1 (encB r.node.2.b)), .p (.b r.node.2.l)]] := by
  have b1 := Nat.le_trans (r.len_num 1) hb
  have c1 := rdU8_c (r := r) hb
  unfold Rd.take Rd.node
  generalize r.num 1 = x1 at c1 b1 ⊢
  obtain ⟨k, r1⟩ := x1
  simp only at c1 b1 ⊢
  have b2 := Nat.le_trans (r1.len_num 2) b1
  have c2 := rdU16_c (r := r1) b1
  generalize r1.num 2 = x2 at c2 b2 ⊢
  obtain ⟨m, r2⟩ := x2
  simp only at c2 b2 ⊢
  have b3 := Nat.le_trans (r2.len_num 8) b2
  have c3 := rdF64_c (r := r2) b2
  have t3 := r2.num_lt8
  generalize r2.num 8 = x3 at c3 b3 t3 ⊢
  obtain ⟨t, r3⟩ := x3
  simp only at c3 b3 t3 ⊢
  have c4 := rdText_c (r := r3) b3
  have t4 := r3.text_le
  generalize r3.text = x4 at c4 t4 ⊢
  obtain ⟨d, r4⟩ := x4
  obtain ⟨b4, l4⟩ := r4
  simp only at c4 t4 ⊢
  have hn := nodeRight_c (k := (k : Int)) (m := (m : Int)) (d := d) t3
  have c5 := rdLack_c (b := encB b4) (l := l4)
  cases l4
  · cases hr : rightNodeR ⟨k, m, t, d⟩
    · simp only [Bool.false_or, Bool.not_false, if_true]
      rw [hr] at hn
      refine dcalls_wk ?_
      refine ent tabOK hmix Tryz.func61 rfl rfl fun X0 hX => ?_
      simp only [Tryz.f61, go_sem]
      repeat' (first | simp only [*, go_sem, Nat.reduceLT, Nat.reduceLeDiff, Nat.reduceEqDiff, ↓reduceIte, Nat.reduceAdd, ] | ((with_reducible refine useB (c1) ?_ ?_ ?_); (focus exact rfl); (focus exact rfl)) | ((with_reducible refine useB (c2) ?_ ?_ ?_); (focus exact rfl); (focus exact rfl)) | ((with_reducible refine useB (c3) ?_ ?_ ?_); (focus exact rfl); (focus exact rfl)) | ((with_reducible refine useB (c4) ?_ ?_ ?_); (focus exact rfl); (focus exact rfl)) | ((with_reducible refine useB (c5) ?_ ?_ ?_); (focus exact rfl); (focus exact rfl)) | ((with_reducible refine useF (hn) ?_ ?_ ?_); (focus exact rfl); (focus exact rfl)))
      all_goals first | (simp []; done) | trace_state
    · simp only [Bool.false_or, Bool.not_true, Bool.false_eq_true, if_false]
      rw [hr] at hn
      refine ent tabOK hmix Tryz.func61 rfl rfl fun X0 hX => ?_
      simp only [Tryz.f61, go_sem]
      repeat' (first | simp only [*, go_sem, Nat.reduceLT, Nat.reduceLeDiff, Nat.reduceEqDiff, ↓reduceIte, Nat.reduceAdd, ] | ((with_reducible refine useB (c1) ?_ ?_ ?_); (focus exact rfl); (focus exact rfl)) | ((with_reducible refine useB (c2) ?_ ?_ ?_); (focus exact rfl); (focus exact rfl)) | ((with_reducible refine useB (c3) ?_ ?_ ?_); (focus exact rfl); (focus exact rfl)) | ((with_reducible refine useB (c4) ?_ ?_ ?_); (focus exact rfl); (focus exact rfl)) | ((with_reducible refine useB (c5) ?_ ?_ ?_); (focus exact rfl); (focus exact rfl)) | ((with_reducible refine useF (hn) ?_ ?_ ?_); (focus exact rfl); (focus exact rfl)))
      all_goals first | exact ⟨rfl, rfl⟩ | trace_state
  · simp only [Bool.true_or, if_true]
    refine dcalls_wk ?_
    refine ent tabOK hmix Tryz.func61 rfl rfl fun X0 hX => ?_
    simp only [Tryz.f61, go_sem]
    repeat' (first | simp only [*, go_sem, Nat.reduceLT, Nat.reduceLeDiff, Nat.reduceEqDiff, ↓reduceIte, Nat.reduceAdd, ] | ((with_reducible refine useB (c1) ?_ ?_ ?_); (focus exact rfl); (focus exact rfl)) | ((with_reducible refine useB (c2) ?_ ?_ ?_); (focus exact rfl); (focus exact rfl)) | ((with_reducible refine useB (c3) ?_ ?_ ?_); (focus exact rfl); (focus exact rfl)) | ((with_reducible refine useB (c4) ?_ ?_ ?_); (focus exact rfl); (focus exact rfl)) | ((with_reducible refine useB (c5) ?_ ?_ ?_); (focus exact rfl); (focus exact rfl)))
    all_goals first | (simp []; done) | trace_state

end Go.Proofs.YtjpmajeekikdhaaGreatDoor

end

section
/-
  Contracts of the document's writers and readers of bytes.
-/

set_option linter.unusedSimpArgs false
set_option linter.unusedVariables false
namespace Go.Proofs.YtjpmajeekikdhaaGreatDoor
open Go Go.Dm
set_option maxRecDepth 100000
set_option maxHeartbeats 4000000

theorem take13r (a1 a2 a3 a4 a5 a6 a7 a8 a9 a10 a11 a12 a13 : UInt8) (d : List UInt8) : List.take (13 + d.length) (a1 :: a2 :: a3 :: a4 :: a5 :: a6 :: a7 :: a8 :: a9 :: a10 :: a11 :: a12 :: a13 :: d) = a1 :: a2 :: a3 :: a4 :: a5 :: a6 :: a7 :: a8 :: a9 :: a10 :: a11 :: a12 :: a13 :: d := List.take_of_length_le (by simp only [List.length_cons]; omega)

theorem refLayNode_c {k m : Int} {t : Nat} {d : List UInt8} (hr : rightNodeR ⟨k, m, t, d⟩ = true) :
    DCalls Tryz.prog 49 [.agg (ndc k m t d)] [] fun r h => r = .tup [.c (.p (.sl 1 (encB (layNode ⟨k, m, t, d⟩)))), .c (.p (.i .i64 0))] ∧ h = [] := by
  have hd := rightNodeR_len hr
  simp only at hd
  have hdl : decide ((65535 : Int) < (d.length : Int)) = false := decide_eq_false (by omega)
  refine ent tabOK hmix Tryz.func49 rfl rfl fun X0 hX => ?_
  simp only [Tryz.f49, go_sem]
  repeat' (first | simp (maxSteps := 1000000) only [*, go_sem, Nat.reduceLT, Nat.reduceLeDiff, Nat.reduceEqDiff, ↓reduceIte, Nat.reduceAdd, Int.reduceLE, Int.reduceSub, Int.reduceMul, Int.reduceNeg, Int.reduceToNat, Nat.reduceBEq, wrap_i64_lit, wrap_u64_lit, wrap_i64_m1, Nat.min_def, decide_true, decide_false, encB_one1, take13r, List.length_cons] | ((with_reducible refine useF (rightNodeR_c (by omega)) ?_ ?_ ?_); (focus exact rfl); (focus exact rfl)) | ((with_reducible refine entK tabOK hmix Tryz.func48 rfl rfl fun _ _ => ?_); simp only [Tryz.f48, go_sem]) | ((with_reducible refine entK tabOK hmix Tryz.func46 rfl rfl fun _ _ => ?_); simp only [Tryz.f46, go_sem]) | ((with_reducible refine entK tabOK hmix Tryz.func89 rfl rfl fun _ _ => ?_); simp only [Tryz.f89, go_sem]) | ((with_reducible refine entR tabOK hmix Tryz.func47 rfl rfl fun _ _ => ?_); simp only [Tryz.f47, go_sem]) | ((with_reducible refine entK tabOK hmix Tryz.func50 rfl rfl fun _ _ => ?_); simp only [Tryz.f50, go_sem]) | ((with_reducible refine entK tabOK hmix Tryz.func88 rfl rfl fun _ _ => ?_); simp only [Tryz.f88, go_sem]) | ((with_reducible refine useF (bits_c _) ?_ ?_ ?_); (focus exact rfl); (focus exact rfl)) | refine loop_rounds tabOK hmix 9 ?_ | ((with_reducible refine And.intro ?_ ?_); (focus (first | omega | decide))))
  all_goals first | (refine ⟨?_, ?_, rfl, rfl⟩ <;> omega) | exact ⟨rfl, rfl⟩ | exact rfl | trace_state

theorem rfRaw_c {r : Rd} {n : Nat} (hn : n ≤ 140737488355328) (hb : r.b.length ≤ 140737488355328) :
    DCalls Tryz.prog 100 [.c (.ptr 0 0), .c (.p (.i .i64 n))] [.box [.p (.sl 1 (encB r.b)), .p (.b r.l)]] fun d h => d = .c (.p (.sl 1 (encB (r.raw n).1))) ∧ h = [.box [.p (.sl 1 (encB (r.raw n).2.b)), .p (.b (r.raw n).2.l)]] := by
  obtain ⟨b, l⟩ := r
  simp only at hb
  have n1 : decide ((n : Int) < 0) = false := decide_eq_false (by omega)
  have n2 : (0 : Int) ≤ (n : Int) := by omega
  unfold Rd.raw
  cases l
  · by_cases hl : b.length < n
    · have n3 : decide ((b.length : Int) < (n : Int)) = true := decide_eq_true (by omega)
      simp only [Bool.false_or, decide_eq_true hl, if_true]
      refine dcalls_wkb rfl ?_
      refine ent tabOK hmix Tryz.func100 rfl rfl fun X0 hX => ?_
      simp only [Tryz.f100, go_sem]
      repeat' (simp (maxSteps := 1000000) only [*, go_sem, Nat.reduceLT, Nat.reduceLeDiff, Nat.reduceEqDiff, ↓reduceIte, Nat.reduceAdd, ])
      exact ⟨.inr ⟨1, rfl⟩, rfl, .inr ⟨rfl, 1, rfl⟩, .inl rfl, True.intro⟩
    · have n3 : decide ((b.length : Int) < (n : Int)) = false := decide_eq_false (by omega)
      have n4 : (n : Int) ≤ (b.length : Int) := by omega
      simp only [Bool.false_or, decide_eq_false hl, Bool.false_eq_true, if_false]
      refine ent tabOK hmix Tryz.func100 rfl rfl fun X0 hX => ?_
      simp only [Tryz.f100, go_sem]
      repeat' (first | simp (maxSteps := 1000000) only [*, go_sem, Nat.reduceLT, Nat.reduceLeDiff, Nat.reduceEqDiff, ↓reduceIte, Nat.reduceAdd, Int.reduceLE, Int.reduceToNat, ] | ((with_reducible refine And.intro ?_ ?_); (focus (decide))))
      all_goals (simp only [List.length_take]; omega)
  · simp only [Bool.true_or, if_true]
    refine dcalls_wkb rfl ?_
    refine ent tabOK hmix Tryz.func100 rfl rfl fun X0 hX => ?_
    simp only [Tryz.f100, go_sem]
    repeat' (simp (maxSteps := 1000000) only [*, go_sem, Nat.reduceLT, Nat.reduceLeDiff, Nat.reduceEqDiff, ↓reduceIte, Nat.reduceAdd, ])
    exact ⟨.inr ⟨1, rfl⟩, rfl, .inr ⟨rfl, 1, rfl⟩, .inl rfl, True.intro⟩

theorem rfNum_c {r : Rd} {n : Nat} (hn : n ≤ 8) (hb : r.b.length ≤ 140737488355328) :
    DCalls Tryz.prog 99 [.c (.ptr 0 0), .c (.p (.i .i64 n))] [.box [.p (.sl 1 (encB r.b)), .p (.b r.l)]] fun d h => d = .c (.p (.i .u64 (r.num n).1)) ∧ h = [.box [.p (.sl 1 (encB (r.num n).2.b)), .p (.b (r.num n).2.l)]] := by
  have hc := rfRaw_c (r := r) (n := n) (by omega) hb
  have hz := r.raw_le n
  unfold Rd.num
  generalize (r.raw n).1 = z at hc hz
  generalize (r.raw n).2 = q at hc
  refine ent tabOK hmix Tryz.func99 rfl rfl fun X0 hX => ?_
  simp only [Tryz.f99, go_sem]
  repeat' (first | simp (maxSteps := 1000000) only [*, go_sem, Nat.reduceLT, Nat.reduceEqDiff, ↓reduceIte, ] | ((with_reducible refine useB1 (hc) ?_ ?_ ?_); (focus exact rfl); (focus exact rfl)))
  refine loop_ren tabOK hmix (α := Nat × Nat) (fun x => ⟨26, [(4, .c (.p (.i .u64 0))), (0, .c (.ptr 0 0)), (5, .c (.p (.sl 1 (encB z)))), (6, .c (.p (.i .u64 x.2))), (7, .c (.p (.i .i64 x.1)))], [.box [.p (.sl 1 (encB q.b)), .p (.b q.l)]]⟩)
    (fun x => x.1 ≤ z.length ∧ natOf (z.take x.1) = x.2) (fun x => z.length - x.1) (0, 0) ⟨Nat.zero_le _, rfl⟩ (.inl (weak_mk (by rw [hX]; rfl) rfl rfl (by simp [wk_cons, wk_nil, look_cons, closedD, closedC, ]))) ?_
  rintro ⟨k, v⟩ ⟨hk, hv⟩
  simp only at hk hv
  by_cases hlt : k < z.length
  · have hx : z[k]? = some z[k] := List.getElem?_eq_getElem hlt
    have hg := encB_at hx
    have h1 : decide ((k : Int) < (z.length : Int)) = true := decide_eq_true (by omega)
    have h3 : (k : Int) < (z.length : Int) := by omega
    have hk0 : (0 : Int) ≤ k := by omega
    have w1 : IntKind.i64.wrap ((k : Int) + 1) = k + 1 := wrap_i64 (by omega) (by omega)
    have hv1 := natOf_take_lt (by omega) hlt
    rw [hv] at hv1
    have hc1 : z[k].toNat < 256 := z[k].toNat_lt
    have hs := add_shift hv1 hc1
    have wc : IntKind.u64.wrap (z[k].toNat : Int) = (z[k].toNat : Int) := wrap_u64_nat (by omega)
    have hJ : k + 1 ≤ z.length ∧ natOf (z.take (k + 1)) = v * 256 + z[k].toNat := ⟨by omega, by rw [List.take_add_one, hx]; show natOf (z.take k ++ [z[k]]) = _; rw [natOf_snoc, hv]⟩
    repeat' (simp (maxSteps := 1000000) only [*, go_sem, Nat.reduceLT, Nat.reduceLeDiff, Nat.reduceEqDiff, ↓reduceIte, Int.reduceLE, Int.reduceToNat, Nat.min_def])
    (refine qr_n (k + 1, v * 256 + z[k].toNat) hJ ?_ (weak_mk rfl rfl rfl ?_) <;> first | omega | (simp only; omega; done) | exact hgt _ | exact bitsF_lt (timeF_lt hxx) | (simp [wk_cons, wk_nil, look_cons, closedD, closedC, ]; done))
  · have h1 : decide ((k : Int) < (z.length : Int)) = false := decide_eq_false (by omega)
    rw [List.take_of_length_le (by omega)] at hv
    subst hv
    repeat' (simp (maxSteps := 1000000) only [*, go_sem, Nat.reduceLT, Nat.reduceEqDiff, ↓reduceIte, ])

theorem rfU8_c {r : Rd} (hb : r.b.length ≤ 140737488355328) :
    DCalls Tryz.prog 65 [.c (.ptr 0 0)] [.box [.p (.sl 1 (encB r.b)), .p (.b r.l)]] fun d h => d = .c (.p (.i .i64 (r.num 1).1)) ∧ h = [.box [.p (.sl 1 (encB (r.num 1).2.b)), .p (.b (r.num 1).2.l)]] := by
  have hc := rfNum_c (r := r) (n := 1) (by omega) hb
  have hl := r.num_lt1
  have hw : IntKind.i64.wrap ((r.num 1).1 : Int) = (r.num 1).1 := wrap_i64 (by omega) (by omega)
  refine ent tabOK hmix Tryz.func65 rfl rfl fun X0 hX => ?_
  simp only [Tryz.f65, go_sem]
  repeat' (first | simp (maxSteps := 1000000) only [*, go_sem, Nat.reduceLT, Nat.reduceEqDiff, ↓reduceIte, ] | ((with_reducible refine useB1 (hc) ?_ ?_ ?_); (focus exact rfl); (focus exact rfl)))

theorem rfU16_c {r : Rd} (hb : r.b.length ≤ 140737488355328) :
    DCalls Tryz.prog 63 [.c (.ptr 0 0)] [.box [.p (.sl 1 (encB r.b)), .p (.b r.l)]] fun d h => d = .c (.p (.i .i64 (r.num 2).1)) ∧ h = [.box [.p (.sl 1 (encB (r.num 2).2.b)), .p (.b (r.num 2).2.l)]] := by
  have hc := rfNum_c (r := r) (n := 2) (by omega) hb
  have hl := r.num_lt2
  have hw : IntKind.i64.wrap ((r.num 2).1 : Int) = (r.num 2).1 := wrap_i64 (by omega) (by omega)
  refine ent tabOK hmix Tryz.func63 rfl rfl fun X0 hX => ?_
  simp only [Tryz.f63, go_sem]
  repeat' (first | simp (maxSteps := 1000000) only [*, go_sem, Nat.reduceLT, Nat.reduceEqDiff, ↓reduceIte, ] | ((with_reducible refine useB1 (hc) ?_ ?_ ?_); (focus exact rfl); (focus exact rfl)))

theorem rfF64_c {r : Rd} (hb : r.b.length ≤ 140737488355328) :
    DCalls Tryz.prog 101 [.c (.ptr 0 0)] [.box [.p (.sl 1 (encB r.b)), .p (.b r.l)]] fun d h => d = .c (.p (.f (r.num 8).1)) ∧ h = [.box [.p (.sl 1 (encB (r.num 8).2.b)), .p (.b (r.num 8).2.l)]] := by
  have hc := rfNum_c (r := r) (n := 8) (by omega) hb
  have hf := frombits_c ((r.num 8).1 : Int) (by omega)
  rw [Int.toNat_natCast] at hf
  refine ent tabOK hmix Tryz.func101 rfl rfl fun X0 hX => ?_
  simp only [Tryz.f101, go_sem]
  repeat' (first | simp (maxSteps := 1000000) only [*, go_sem, Nat.reduceLT, Nat.reduceEqDiff, ↓reduceIte, ] | ((with_reducible refine useB1 (hc) ?_ ?_ ?_); (focus exact rfl); (focus exact rfl)) | ((with_reducible refine useF (hf) ?_ ?_ ?_); (focus exact rfl); (focus exact rfl)))

theorem rfText_c {r : Rd} (hb : r.b.length ≤ 140737488355328) :
    DCalls Tryz.prog 64 [.c (.ptr 0 0)] [.box [.p (.sl 1 (encB r.b)), .p (.b r.l)]] fun d h => d = .c (.p (.sl 1 (encB r.text.1))) ∧ h = [.box [.p (.sl 1 (encB r.text.2.b)), .p (.b r.text.2.l)]] := by
  have hc := rfU16_c hb
  have hl := r.num_lt2
  have hd := rfRaw_c (r := (r.num 2).2) (n := (r.num 2).1) (by omega) (Nat.le_trans (r.len_num 2) hb)
  unfold Rd.text
  refine ent tabOK hmix Tryz.func64 rfl rfl fun X0 hX => ?_
  simp only [Tryz.f64, go_sem]
  repeat' (first | simp (maxSteps := 1000000) only [*, go_sem, Nat.reduceLT, Nat.reduceEqDiff, ↓reduceIte, ] | ((with_reducible refine useB (hc) ?_ ?_ ?_); (focus exact rfl); (focus exact rfl)) | ((with_reducible refine useB1 (hd) ?_ ?_ ?_); (focus exact rfl); (focus exact rfl)))

theorem rfTake_c {r : Rd} (hb : r.b.length ≤ 140737488355328) :
    DCalls Tryz.prog 66 [.c (.ptr 0 0)] [.box [.p (.sl 1 (encB r.b)), .p (.b r.l)]] fun d h => d = .tup [.agg (ndc r.take.1.k r.take.1.m r.take.1.t r.take.1.d), .c (.p (.b r.take.2))] ∧ h = [.box [.p (.sl 1 (encB r.node.2.b)), .p (.b r.node.2.l)]] := by
  have b1 := Nat.le_trans (r.len_num 1) hb
  have c1 := rfU8_c (r := r) hb
  unfold Rd.take Rd.node
  generalize r.num 1 = x1 at c1 b1 ⊢
  obtain ⟨k, r1⟩ := x1
  simp only at c1 b1 ⊢
  have b2 := Nat.le_trans (r1.len_num 2) b1
  have c2 := rfU16_c (r := r1) b1
  generalize r1.num 2 = x2 at c2 b2 ⊢
  obtain ⟨m, r2⟩ := x2
  simp only at c2 b2 ⊢
  have b3 := Nat.le_trans (r2.len_num 8) b2
  have c3 := rfF64_c (r := r2) b2
  have t3 := r2.num_lt8
  generalize r2.num 8 = x3 at c3 b3 t3 ⊢
  obtain ⟨t, r3⟩ := x3
  simp only at c3 b3 t3 ⊢
  have c4 := rfText_c (r := r3) b3
  have t4 := r3.text_le
  generalize r3.text = x4 at c4 t4 ⊢
  obtain ⟨d, r4⟩ := x4
  obtain ⟨b4, l4⟩ := r4
  simp only at c4 t4 ⊢
  have hn := rightNodeR_c (k := (k : Int)) (m := (m : Int)) (t := t) (d := d) (by omega)
  cases l4
  · cases hr : rightNodeR ⟨k, m, t, d⟩
    · simp only [Bool.false_or, Bool.not_false, if_true]
      rw [hr] at hn
      refine dcalls_wk ?_
      refine ent tabOK hmix Tryz.func66 rfl rfl fun X0 hX => ?_
      simp only [Tryz.f66, go_sem]
      repeat' (first | simp (maxSteps := 1000000) only [*, go_sem, Nat.reduceLT, Nat.reduceLeDiff, Nat.reduceEqDiff, ↓reduceIte, Nat.reduceAdd, ] | ((with_reducible refine useB (c1) ?_ ?_ ?_); (focus exact rfl); (focus exact rfl)) | ((with_reducible refine useB (c2) ?_ ?_ ?_); (focus exact rfl); (focus exact rfl)) | ((with_reducible refine useB (c3) ?_ ?_ ?_); (focus exact rfl); (focus exact rfl)) | ((with_reducible refine useB (c4) ?_ ?_ ?_); (focus exact rfl); (focus exact rfl)) | ((with_reducible refine useF (hn) ?_ ?_ ?_); (focus exact rfl); (focus exact rfl)))
      all_goals first | (simp []; done) | trace_state
    · simp only [Bool.false_or, Bool.not_true, Bool.false_eq_true, if_false]
      rw [hr] at hn
      refine ent tabOK hmix Tryz.func66 rfl rfl fun X0 hX => ?_
      simp only [Tryz.f66, go_sem]
      repeat' (first | simp (maxSteps := 1000000) only [*, go_sem, Nat.reduceLT, Nat.reduceLeDiff, Nat.reduceEqDiff, ↓reduceIte, Nat.reduceAdd, ] | ((with_reducible refine useB (c1) ?_ ?_ ?_); (focus exact rfl); (focus exact rfl)) | ((with_reducible refine useB (c2) ?_ ?_ ?_); (focus exact rfl); (focus exact rfl)) | ((with_reducible refine useB (c3) ?_ ?_ ?_); (focus exact rfl); (focus exact rfl)) | ((with_reducible refine useB (c4) ?_ ?_ ?_); (focus exact rfl); (focus exact rfl)) | ((with_reducible refine useF (hn) ?_ ?_ ?_); (focus exact rfl); (focus exact rfl)))
      all_goals first | exact ⟨rfl, rfl⟩ | trace_state
  · simp only [Bool.true_or, if_true]
    refine dcalls_wk ?_
    refine ent tabOK hmix Tryz.func66 rfl rfl fun X0 hX => ?_
    simp only [Tryz.f66, go_sem]
    repeat' (first | simp (maxSteps := 1000000) only [*, go_sem, Nat.reduceLT, Nat.reduceLeDiff, Nat.reduceEqDiff, ↓reduceIte, Nat.reduceAdd, ] | ((with_reducible refine useB (c1) ?_ ?_ ?_); (focus exact rfl); (focus exact rfl)) | ((with_reducible refine useB (c2) ?_ ?_ ?_); (focus exact rfl); (focus exact rfl)) | ((with_reducible refine useB (c3) ?_ ?_ ?_); (focus exact rfl); (focus exact rfl)) | ((with_reducible refine useB (c4) ?_ ?_ ?_); (focus exact rfl); (focus exact rfl)))
    all_goals first | (simp []; done) | trace_state

end Go.Proofs.YtjpmajeekikdhaaGreatDoor

end
