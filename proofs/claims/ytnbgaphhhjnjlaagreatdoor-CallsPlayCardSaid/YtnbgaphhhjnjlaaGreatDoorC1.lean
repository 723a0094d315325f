import Derived.Test.YtnbgaphhhjnjlaaGreatDoorTab
import Derived.Test.YtnbgaphhhjnjlaaGreatDoorSA

section
/-
  Contracts of functions on numbers and nodes.
-/

set_option linter.unusedSimpArgs false
set_option linter.unusedVariables false
namespace Go.Proofs.YtnbgaphhhjnjlaaGreatDoor
open Go Go.Dm
set_option maxRecDepth 100000
set_option maxHeartbeats 4000000

theorem natCast_beq (a b : Nat) : ((a : Int) == (b : Int)) = (a == b) := by
  rw [Bool.eq_iff_iff]; simp only [beq_iff_eq]; omega

theorem isNaN_c (x : Nat) : DCalls Tryz.prog 117 [.c (.p (.f x))] [] fun d h => d = .c (.p (.b (isNaN x))) ∧ h = [] := by
  refine ent tabOK hmix Tryz.func117 rfl rfl fun X0 hX => ?_
  simp only [Tryz.f117, go_sem]
  repeat' (simp only [*, go_sem, Nat.reduceLT, Nat.reduceEqDiff, ↓reduceIte, ])
  all_goals ((simp_all [isNaN]; done))

theorem bits_c (x : Nat) : DCalls Tryz.prog 86 [.c (.p (.f x))] [] fun d h => d = .c (.p (.i .u64 x)) ∧ h = [] := by
  intro X vals hh hi _ hr
  match vals, hr with
  | [v], ⟨h1, _⟩ =>
    simp only [RelD, RelC, RelP] at h1
    subst h1
    refine .inr ⟨.int .u64 x, X.w, ?_, _, X, rfl, hi, Step.refl hi, relC (x := .p (.i .u64 x)) rfl, rfl, hh⟩
    kernel_rfl

theorem frombits_c (z : Int) (hz : 0 ≤ z) : DCalls Tryz.prog 47 [.c (.p (.i .u64 z))] [] fun d h => d = .c (.p (.f z.toNat)) ∧ h = [] := by
  intro X vals hh hi _ hr
  match vals, hr with
  | [v], ⟨h1, _⟩ =>
    simp only [RelD, RelC, RelP] at h1
    obtain ⟨n, rfl⟩ := Int.eq_ofNat_of_zero_le hz
    subst h1
    refine .inr ⟨.float .f64 n, X.w, ?_, _, X, rfl, hi, Step.refl hi, relC (x := .p (.f n)) rfl, rfl, hh⟩
    kernel_rfl

theorem Bits_c (x : Nat) : DCalls Tryz.prog 48 [.c (.p (.f x))] [] fun d h => d = .c (.p (.i .u64 (bitsF x))) ∧ h = [] := by
  refine ent tabOK hmix Tryz.func48 rfl rfl fun X0 hX => ?_
  simp only [Tryz.f48, go_sem]
  repeat' (first | simp only [*, go_sem, Nat.reduceLT, Nat.reduceEqDiff, ↓reduceIte, ] | ((with_reducible refine useF (bits_c _) ?_ ?_ ?_); (focus exact rfl); (focus exact rfl)) | with_reducible refine vcond_split (fun _ => ?_) (fun _ => ?_))
  all_goals ((simp_all [bitsF, isNaN, theNaN]; done))

theorem Plain_c (x : Nat) : DCalls Tryz.prog 84 [.c (.p (.f x))] [] fun d h => d = .c (.p (.f (bitsF x))) ∧ h = [] := by
  refine ent tabOK hmix Tryz.func84 rfl rfl fun X0 hX => ?_
  simp only [Tryz.f84, go_sem]
  repeat' (first | simp only [*, go_sem, Nat.reduceLT, Nat.reduceEqDiff, ↓reduceIte, ] | ((with_reducible refine useF (Bits_c _) ?_ ?_ ?_); (focus exact rfl); (focus exact rfl)) | ((with_reducible refine useF (frombits_c _ (by omega)) ?_ ?_ ?_); (focus exact rfl); (focus exact rfl)))
  all_goals (first | (with_reducible rfl) | (simp_all []; done) | (simp_all []; omega) | (simp_all []; (repeat' split) <;> omega))

theorem PlainTime_c (x : Nat) : DCalls Tryz.prog 80 [.c (.p (.f x))] [] fun d h => d = .c (.p (.f (bitsF x))) ∧ h = [] := by
  refine ent tabOK hmix Tryz.func80 rfl rfl fun X0 hX => ?_
  simp only [Tryz.f80, go_sem]
  repeat' (first | simp only [*, go_sem, Nat.reduceLT, Nat.reduceEqDiff, ↓reduceIte, ] | ((with_reducible refine useF (Plain_c _) ?_ ?_ ?_); (focus exact rfl); (focus exact rfl)))
  all_goals (first | (with_reducible rfl) | (simp_all []; done) | (simp_all []; omega) | (simp_all []; (repeat' split) <;> omega))

theorem ref1Same_c (x y : Nat) : DCalls Tryz.prog 23 [.c (.p (.f x)), .c (.p (.f y))] [] fun d h => d = .c (.p (.b (bitsF x == bitsF y))) ∧ h = [] := by
  refine ent tabOK hmix Tryz.func23 rfl rfl fun X0 hX => ?_
  simp only [Tryz.f23, go_sem]
  repeat' (first | simp only [*, go_sem, Nat.reduceLT, Nat.reduceEqDiff, ↓reduceIte, ] | ((with_reducible refine useF (Bits_c _) ?_ ?_ ?_); (focus exact rfl); (focus exact rfl)))
  all_goals ((simp_all [natCast_beq]; done))

theorem copysign_c : DCalls Tryz.prog 44 [.c (.p (.f 0)), .c (.p (.f 13830554455654793216))] [] fun d h => d = .c (.p (.f 9223372036854775808)) ∧ h = [] := by
  have e : Dm.bits .or .u64 (Dm.bits .andNot .u64 0 9223372036854775808) (Dm.bits .and .u64 13830554455654793216 9223372036854775808) = 9223372036854775808 := by kernel_rfl
  refine ent tabOK hmix Tryz.func44 rfl rfl fun X0 hX => ?_
  simp only [Tryz.f44, go_sem]
  repeat' (first | simp only [*, go_sem, Nat.reduceLT, Nat.reduceEqDiff, ↓reduceIte, Int.reduceToNat, ] | ((with_reducible refine useF (bits_c _) ?_ ?_ ?_); (focus exact rfl); (focus exact rfl)) | ((with_reducible refine useF (frombits_c _ (by omega)) ?_ ?_ ?_); (focus exact rfl); (focus exact rfl)))
  all_goals (first | (with_reducible rfl) | (simp_all []; done) | (simp_all []; omega) | (simp_all []; (repeat' split) <;> omega))

theorem inf_c (n : Int) : DCalls Tryz.prog 45 [.c (.p (.i .i64 n))] [] fun d h => d = .c (.p (.f (if 0 ≤ n then 9218868437227405312 else 18442240474082181120))) ∧ h = [] := by
  refine ent tabOK hmix Tryz.func45 rfl rfl fun X0 hX => ?_
  simp only [Tryz.f45, go_sem]
  repeat' (first | simp only [*, go_sem, Nat.reduceLT, Nat.reduceEqDiff, ↓reduceIte, Int.reduceToNat, ] | ((with_reducible refine useF (frombits_c _ (by omega)) ?_ ?_ ?_); (focus exact rfl); (focus exact rfl)) | with_reducible refine vcond_split (fun _ => ?_) (fun _ => ?_))
  all_goals ((simp_all []; done))

theorem NaN_c : DCalls Tryz.prog 46 [] [] fun d h => d = .c (.p (.f theNaN)) ∧ h = [] := by
  refine ent tabOK hmix Tryz.func46 rfl rfl fun X0 hX => ?_
  simp only [Tryz.f46, go_sem]
  repeat' (first | simp only [*, go_sem, Nat.reduceLT, ↓reduceIte, Int.reduceToNat, ] | ((with_reducible refine useF (frombits_c _ (by omega)) ?_ ?_ ?_); (focus exact rfl); (focus exact rfl)))
  all_goals ((simp_all [theNaN]; done))

theorem numPlain_c (x : Nat) : DCalls Tryz.prog 90 [.c (.p (.f x))] [] fun d h => d = .c (.p (.f (bitsF x))) ∧ h = [] := by
  refine ent tabOK hmix Tryz.func90 rfl rfl fun X0 hX => ?_
  simp only [Tryz.f90, go_sem]
  repeat' (first | simp only [*, go_sem, Nat.reduceLT, Nat.reduceEqDiff, ↓reduceIte, Int.reduceToNat, ] | ((with_reducible refine useF (isNaN_c _) ?_ ?_ ?_); (focus exact rfl); (focus exact rfl)) | ((with_reducible refine useF (frombits_c _ (by omega)) ?_ ?_ ?_); (focus exact rfl); (focus exact rfl)) | with_reducible refine vcond_split (fun _ => ?_) (fun _ => ?_))
  all_goals ((simp_all [bitsF, theNaN]; done))

theorem clone_c {a : List UInt8} (ha : a.length ≤ 140737488355328) : DCalls Tryz.prog 65 [.c (.p (.sl 1 (encB a)))] [] fun d h => d = .c (.p (.sl 1 (encB a))) ∧ h = [] := by
  refine dcalls_wk ?_
  refine ent tabOK hmix Tryz.func65 rfl rfl fun X0 hX => ?_
  simp only [Tryz.f65, go_sem]
  cases a with
  | nil =>
    repeat' (simp only [*, go_sem, Nat.reduceLT, Nat.reduceLeDiff, Nat.reduceEqDiff, ↓reduceIte, Nat.reduceAdd, ])
    simp [List.range_succ]
  | cons x l =>
    repeat' (first | simp only [*, go_sem, Nat.reduceLT, Nat.reduceLeDiff, Nat.reduceEqDiff, ↓reduceIte, Nat.reduceAdd, ] | ((with_reducible refine And.intro ?_ ?_); (focus (decide))))
    simp only [List.length_cons] at ha
    exact ⟨by omega, by omega⟩

theorem sameNode_c {k m k' m' : Int} {t t' : Nat} {d d' : List UInt8} : DCalls Tryz.prog 28 [.agg (ndc k m t d), .agg (ndc k' m' t' d')] [] fun r h => r = .c (.p (.b (sameNd ⟨k, m, t, d⟩ ⟨k', m', t', d'⟩))) ∧ h = [] := by
  refine ent tabOK hmix Tryz.func28 rfl rfl fun X0 hX => ?_
  simp only [Tryz.f28, go_sem]
  repeat' (first | simp only [*, go_sem, Nat.reduceLT, Nat.reduceEqDiff, ↓reduceIte, ] | ((with_reducible refine useF (ref1Same_c _ _) ?_ ?_ ?_); (focus exact rfl); (focus exact rfl)) | with_reducible refine vg_split (fun _ => ?_) (fun _ => ?_))
  all_goals ((simp_all [sameNd]; done))

theorem copy_c {k m : Int} {t : Nat} {d : List UInt8} (hd : d.length ≤ 140737488355328) : DCalls Tryz.prog 60 [.agg (ndc k m t d)] [] fun r h => r = .agg (ndc k m t d) ∧ h = [] := by
  refine ent tabOK hmix Tryz.func60 rfl rfl fun X0 hX => ?_
  simp only [Tryz.f60, go_sem]
  repeat' (first | simp only [*, go_sem, Nat.reduceLT, Nat.reduceLeDiff, Nat.reduceEqDiff, ↓reduceIte, Nat.reduceAdd, ] | ((with_reducible refine useN (clone_c hd) ?_ ?_ ?_); (focus exact rfl); (focus exact fun _ => rfl)))
  all_goals (first | (with_reducible rfl) | (simp_all []; done) | (simp_all []; omega) | (simp_all []; (repeat' split) <;> omega))

end Go.Proofs.YtnbgaphhhjnjlaaGreatDoor

end

section
/-
  Contracts of the functions that draw nodes.
-/

set_option linter.unusedSimpArgs false
set_option linter.unusedVariables false
namespace Go.Proofs.YtnbgaphhhjnjlaaGreatDoor
open Go Go.Dm
set_option maxRecDepth 100000
set_option maxHeartbeats 4000000

theorem Pick_c {n m : Int} (hm : 0 < m) (hm2 : m ≤ 9223372036854775807) : DCalls Tryz.prog 21 [.c (.p (.i .i64 n)), .c (.p (.i .i64 m))] [] fun r h => r = .c (.p (.i .i64 (n % m))) ∧ h = [] := by
  refine ent tabOK hmix Tryz.func21 rfl rfl fun X0 hX => ?_
  simp only [Tryz.f21, go_sem]
  have h0 := Int.emod_nonneg n (show m ≠ 0 by omega)
  have h1 := Int.emod_lt_of_pos n hm
  repeat' (first | simp only [*, go_sem, Nat.reduceLT, Nat.reduceEqDiff, ↓reduceIte, ] | with_reducible refine vcond_split (fun _ => ?_) (fun _ => ?_) | ((with_reducible refine And.intro ?_ ?_); (focus (omega))))
  · rename_i h
    rw [tmod_neg hm (of_decide_eq_true h), wrap_i64 (by omega) (by omega)]
  · rename_i h
    rw [tmod_pos hm (of_decide_eq_false h)]

theorem Few_c {b : List UInt8} {n : Int} (hn : 0 ≤ n) (hn2 : n ≤ 140737488355328) (hb : b.length ≤ 9223372036854775807) : DCalls Tryz.prog 20 [.c (.p (.sl 1 (encB b))), .c (.p (.i .i64 n))] [] fun r h => r = .c (.p (.sl 1 (encB (b.take n.toNat)))) ∧ h = [] := by
  refine ent tabOK hmix Tryz.func20 rfl rfl fun X0 hX => ?_
  simp only [Tryz.f20, go_sem]
  repeat' (first | simp only [*, go_sem, Nat.reduceLT, Nat.reduceLeDiff, Nat.reduceEqDiff, ↓reduceIte, Nat.reduceAdd, Int.reduceLE, Int.reduceToNat, ] | ((with_reducible refine And.intro ?_ ?_); (focus (first | omega | decide))))
  by_cases h : n < (b.length : Int)
  · simp only [if_pos h, List.length_take]
    refine ⟨by omega, by omega, ?_⟩
    first | trivial | rfl
  · simp only [if_neg h, List.length_take]
    refine ⟨by omega, by omega, ?_⟩
    rw [List.take_of_length_le (by omega), List.take_of_length_le (by omega)]

theorem Name_c {n : Int} : DCalls Tryz.prog 49 [.c (.p (.i .i64 n))] [] fun r h => r = .c (.p (.s (nameF n))) ∧ h = [] := by
  refine ent tabOK hmix Tryz.func49 rfl rfl fun X0 hX => ?_
  simp only [Tryz.f49, go_sem]
  repeat' (first | simp only [*, go_sem, Nat.reduceLT, Nat.reduceLeDiff, Nat.reduceEqDiff, ↓reduceIte, Nat.reduceAdd, ] | ((with_reducible refine useF (Pick_c (by omega) (by omega)) ?_ ?_ ?_); (focus exact rfl); (focus exact rfl)) | ((with_reducible refine And.intro ?_ ?_); (focus (omega))))
  unfold nameF
  have h1 := Int.emod_nonneg n (show (6 : Int) ≠ 0 by decide)
  have h2 := Int.emod_lt_of_pos n (show (0 : Int) < 6 by decide)
  generalize n % 6 = k at h1 h2
  have : k = 0 ∨ k = 1 ∨ k = 2 ∨ k = 3 ∨ k = 4 ∨ k = 5 := by omega
  rcases this with rfl | rfl | rfl | rfl | rfl | rfl <;> rfl

theorem Path_c {n : Int} : DCalls Tryz.prog 24 [.c (.p (.i .i64 n))] [] fun r h => r = .c (.p (.s (pathF n))) ∧ h = [] := by
  unfold pathF
  have h1 := Int.emod_nonneg n (show (1073741824 : Int) ≠ 0 by decide)
  have h2 := Int.emod_lt_of_pos n (show (0 : Int) < 1073741824 by decide)
  have e1 : IntKind.i64.wrap ((n % 1073741824).tdiv 6) = n % 1073741824 / 6 := by rw [Int.tdiv_eq_ediv_of_nonneg h1]; exact wrap_i64 (by omega) (by omega)
  have e2 : (n % 1073741824 / 6).tmod 3 = n % 1073741824 / 6 % 3 := Int.tmod_eq_emod_of_nonneg (by omega)
  have e3 : IntKind.i64.wrap ((n % 1073741824).tdiv 7) = n % 1073741824 / 7 := by rw [Int.tdiv_eq_ediv_of_nonneg h1]; exact wrap_i64 (by omega) (by omega)
  have e4 : IntKind.i64.wrap ((n % 1073741824 / 7).tdiv 7) = n % 1073741824 / 7 / 7 := by rw [Int.tdiv_eq_ediv_of_nonneg (by omega)]; exact wrap_i64 (by omega) (by omega)
  have l1 := nameF_len (n % 1073741824)
  have l2 := nameF_len (n % 1073741824 / 7)
  have l3 := nameF_len (n % 1073741824 / 7 / 7)
  have hk : n % 1073741824 / 6 % 3 = 0 ∨ n % 1073741824 / 6 % 3 = 1 ∨ n % 1073741824 / 6 % 3 = 2 := by omega
  refine ent tabOK hmix Tryz.func24 rfl rfl fun X0 hX => ?_
  simp only [Tryz.f24, go_sem]
  rcases hk with hk | hk | hk
  · repeat' (first | simp only [*, go_sem, Nat.reduceLT, Nat.reduceEqDiff, ↓reduceIte, Int.reduceToNat, Int.reduceEq, ] | ((with_reducible refine useF (Pick_c (by omega) (by omega)) ?_ ?_ ?_); (focus exact rfl); (focus exact rfl)) | ((with_reducible refine useF (Name_c) ?_ ?_ ?_); (focus exact rfl); (focus exact rfl)))
    refine loop_rounds tabOK hmix 1 ?_
    repeat' (simp only [*, go_sem, Nat.reduceLT, Nat.reduceEqDiff, ↓reduceIte, Int.reduceLT, ])
    simp only [pathL]
  · repeat' (first | simp only [*, go_sem, Nat.reduceLT, Nat.reduceEqDiff, ↓reduceIte, Int.reduceToNat, Int.reduceEq, ] | ((with_reducible refine useF (Pick_c (by omega) (by omega)) ?_ ?_ ?_); (focus exact rfl); (focus exact rfl)) | ((with_reducible refine useF (Name_c) ?_ ?_ ?_); (focus exact rfl); (focus exact rfl)))
    refine loop_rounds tabOK hmix 2 ?_
    repeat' (first | simp only [*, go_sem, Nat.reduceLT, Nat.reduceLeDiff, Nat.reduceEqDiff, ↓reduceIte, Int.reduceLT, Int.reduceLE, Int.reduceSub, Int.reduceNeg, Int.reduceEq, ] | ((with_reducible refine useF (Name_c) ?_ ?_ ?_); (focus exact rfl); (focus exact rfl)) | ((with_reducible refine And.intro ?_ ?_); (focus (omega))))
    all_goals simp [pathL]
  · repeat' (first | simp only [*, go_sem, Nat.reduceLT, Nat.reduceEqDiff, ↓reduceIte, Int.reduceToNat, Int.reduceEq, ] | ((with_reducible refine useF (Pick_c (by omega) (by omega)) ?_ ?_ ?_); (focus exact rfl); (focus exact rfl)) | ((with_reducible refine useF (Name_c) ?_ ?_ ?_); (focus exact rfl); (focus exact rfl)))
    refine loop_rounds tabOK hmix 3 ?_
    repeat' (first | simp only [*, go_sem, Nat.reduceLT, Nat.reduceLeDiff, Nat.reduceEqDiff, ↓reduceIte, Int.reduceLT, Int.reduceLE, Int.reduceSub, Int.reduceNeg, Int.reduceEq, ] | ((with_reducible refine useF (Name_c) ?_ ?_ ?_); (focus exact rfl); (focus exact rfl)) | ((with_reducible refine And.intro ?_ ?_); (focus (omega))))
    all_goals simp [pathL]

theorem Time_c {n : Int} {x : Nat} : DCalls Tryz.prog 22 [.c (.p (.i .i64 n)), .c (.p (.f x))] [] fun r h => r = .c (.p (.f (timeF n x))) ∧ h = [] := by
  refine ent tabOK hmix Tryz.func22 rfl rfl fun X0 hX => ?_
  simp only [Tryz.f22, go_sem]
  repeat' (first | simp only [*, go_sem, Nat.reduceLT, Nat.reduceLeDiff, Nat.reduceEqDiff, ↓reduceIte, Nat.reduceAdd, Int.reduceLE, Int.reduceNeg, Int.reduceToNat, ] | ((with_reducible refine useF (Pick_c (by omega) (by omega)) ?_ ?_ ?_); (focus exact rfl); (focus exact rfl)) | ((with_reducible refine useF (copysign_c) ?_ ?_ ?_); (focus exact rfl); (focus exact rfl)) | ((with_reducible refine useF (inf_c _) ?_ ?_ ?_); (focus exact rfl); (focus exact rfl)) | ((with_reducible refine useF (NaN_c) ?_ ?_ ?_); (focus exact rfl); (focus exact rfl)) | ((with_reducible refine useF (frombits_c _ (by omega)) ?_ ?_ ?_); (focus exact rfl); (focus exact rfl)) | with_reducible refine vcond_split (fun _ => ?_) (fun _ => ?_) | ((with_reducible refine And.intro ?_ ?_); (focus (first | omega | (simp only [decide_eq_true_eq] at *; omega)))))
  · rename_i h
    have h := of_decide_eq_true h
    try refine ⟨h, ?_⟩
    unfold timeF
    have h1 := Int.emod_nonneg n (show (15 : Int) ≠ 0 by decide)
    generalize n % 15 = k at h h1
    have : k = 0 ∨ k = 1 ∨ k = 2 ∨ k = 3 ∨ k = 4 ∨ k = 5 ∨ k = 6 ∨ k = 7 ∨ k = 8 ∨ k = 9 ∨ k = 10 ∨ k = 11 := by omega
    rcases this with rfl | rfl | rfl | rfl | rfl | rfl | rfl | rfl | rfl | rfl | rfl | rfl <;> rfl
  · rename_i h
    have h := of_decide_eq_false h
    unfold timeF
    rw [if_neg h]

theorem nodeF_c {k m t : Int} {x : Nat} {d : List UInt8} (hd : d.length ≤ 9223372036854775807) : DCalls Tryz.prog 39 [.agg (rnc k m t x d)] [] fun r h => r = .agg (nodeF ⟨k, m, t, x, d⟩).cv ∧ h = [] := by
  have hp := pathF_len m
  have e0 := Int.emod_nonneg k (show (3 : Int) ≠ 0 by decide)
  have e1 := Int.emod_lt_of_pos k (show (0 : Int) < 3 by decide)
  have e2 : IntKind.i64.wrap (1 + k % 3) = 1 + k % 3 := wrap_i64 (by omega) (by omega)
  refine dcalls_wk ?_
  refine ent tabOK hmix Tryz.func39 rfl rfl fun X0 hX => ?_
  simp only [Tryz.f39, go_sem]
  repeat' (first | simp only [*, go_sem, Nat.reduceLT, Nat.reduceLeDiff, Nat.reduceEqDiff, ↓reduceIte, Nat.reduceAdd, Int.reduceLE, Int.reduceToNat, Int.reduceEq, Nat.reduceBEq, ] | ((with_reducible refine useF (Path_c) ?_ ?_ ?_); (focus exact rfl); (focus exact rfl)) | ((with_reducible refine useN (Few_c (by omega) (by omega) hd) ?_ ?_ ?_); (focus exact rfl); (focus exact fun _ => rfl)) | ((refine vc_drawn (id := 1) tabOK hmix [14,15] [14,0,1,2,3,4,5,6,7,8,9,10,11,12,13,15] (by decide +kernel) ?_); (repeat' (first | (refine ds_nil ?_) | ((refine ds_chg ?_ ?_ rfl rfl rfl ?_ ?_); (rotate_left 2); (focus ((repeat' (simp only [*, go_sem, Nat.reduceLT, Nat.reduceLeDiff, Nat.reduceEqDiff, ↓reduceIte, Nat.reduceAdd, ])); ((refine And.intro ?_ ?_ <;> exact rfl)))); (simp only [putF_some, putF_none])) | ((refine ds_all ?_ rfl rfl rfl ?_ ?_); (rotate_left 1); (focus ((repeat' (first | exact allH_nil | refine allH_cons ?_ ?_)); (all_goals ((repeat' (first | simp only [*, go_sem, Nat.reduceLT, Nat.reduceLeDiff, Nat.reduceEqDiff, ↓reduceIte, Nat.reduceAdd, ] | ((with_reducible refine useF (Pick_c (by omega) (by omega)) ?_ ?_ ?_); (focus exact rfl); (focus exact rfl)) | ((with_reducible refine useF (Time_c) ?_ ?_ ?_); (focus exact rfl); (focus exact rfl)) | ((with_reducible refine useF (PlainTime_c _) ?_ ?_ ?_); (focus exact rfl); (focus exact rfl)))); (try (exact rfl)))))); (simp only [putF_some]))))) | with_reducible refine vcond_split (fun _ => ?_) (fun _ => ?_) | ((with_reducible refine And.intro ?_ ?_); (focus (first | omega | decide))))
  all_goals (simp_all [nodeF, nodeD, linkF, encB_nil, ]; try omega)

end Go.Proofs.YtnbgaphhhjnjlaaGreatDoor

end
