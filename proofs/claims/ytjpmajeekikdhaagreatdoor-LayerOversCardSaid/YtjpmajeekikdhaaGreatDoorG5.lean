/-
  Contracts: rows alike, a new reader.
-/
import Derived.Test.YtjpmajeekikdhaaGreatDoorC1
import Derived.Test.YtjpmajeekikdhaaGreatDoorSB
import Derived.Test.YtjpmajeekikdhaaGreatDoorSD
import Derived.Test.YtjpmajeekikdhaaGreatDoorVB
set_option linter.unusedSimpArgs false
set_option linter.unusedVariables false
namespace Go.Proofs.YtjpmajeekikdhaaGreatDoor
open Go Go.Dm
set_option maxRecDepth 100000
set_option maxHeartbeats 4000000

theorem take_next_eq {a b : List UInt8} {k : Nat} {x y : UInt8} (hx : a[k]? = some x) (hy : b[k]? = some y) (h : a.take k = b.take k) (he : x = y) : a.take (k + 1) = b.take (k + 1) := by
  rw [List.take_add_one, List.take_add_one, hx, hy, h, he]

theorem sliceEq_c {a b : List UInt8} (hl : a.length ≤ 140737488355328) : DCalls Tryz.prog 62 [.c (.p (.sl 1 (encB a))), .c (.p (.sl 1 (encB b)))] [] fun r h => r = .c (.p (.b (a == b))) ∧ h = [] := by
  by_cases hab : a.length = b.length
  · have q0 : ((a.length : Int) != (b.length : Int)) = false := by simp [hab]
    have q1 : ((a.length : Int) == (b.length : Int)) = true := by simp [hab]
    have l1 : a.length ≤ b.length := by omega
    have l2 : b.length ≤ a.length := by omega
    clear hab
    refine ent tabOK hmix Tryz.func62 rfl rfl fun X0 hX => ?_
    simp only [Tryz.f62, go_sem]
    repeat' (simp only [*, go_sem, Nat.reduceLT, Nat.reduceEqDiff, ↓reduceIte, ])
    refine loop_ren tabOK hmix (α := Nat) (fun k => ⟨26, [(0, .c (.p (.sl 1 (encB a)))), (1, .c (.p (.sl 1 (encB b)))), (12, .c (.p (.i .i64 a.length))), (13, .c (.p (.i .i64 k)))], []⟩)
      (fun k => k ≤ a.length ∧ a.take k = b.take k) (fun k => a.length - k) 0 ⟨Nat.zero_le _, rfl⟩ (.inl (weak_mk (by rw [hX]; rfl) rfl rfl (by simp [wk_cons, wk_nil, look_cons, closedD, closedC, ]))) ?_
    rintro k ⟨hk, ht⟩
    by_cases hlt : k < a.length
    · have hx : a[k]? = some a[k] := List.getElem?_eq_getElem hlt
      have hy : b[k]? = some (b[k]'(by omega)) := List.getElem?_eq_getElem (by omega)
      have hgx := encB_at hx
      have hgy := encB_at hy
      have h1 : decide ((k : Int) < (a.length : Int)) = true := decide_eq_true (by omega)
      have h2 : (k : Int) < (a.length : Int) := by omega
      have h3 : (k : Int) < (b.length : Int) := by omega
      have hk0 : (0 : Int) ≤ k := by omega
      have w1 : IntKind.i64.wrap ((k : Int) + 1) = k + 1 := wrap_i64 (by omega) (by omega)
      have hne : a[k] ≠ b[k]'(by omega) → (a == b) = false := fun h => by
        cases he : (a == b)
        · rfl
        · have e := eq_of_beq he
          subst e
          exact absurd rfl h
      have hJ := take_next_eq hx hy ht
      generalize a[k] = x at *
      generalize b[k]'(by omega) = y at *
      by_cases he : x = y
      · have hJ2 : k + 1 ≤ a.length ∧ a.take (k + 1) = b.take (k + 1) := ⟨by omega, hJ he⟩
        subst he
        clear hne hJ ht hx hy
        repeat' (first | simp only [*, go_sem, Nat.reduceLT, Nat.reduceEqDiff, ↓reduceIte, ] | ((refine vc_drawn (id := 6) tabOK hmix [] [0,1,2,3,4,5,6,7,8] (by decide +kernel) ?_); (repeat' (first | (refine ds_nil ?_) | ((refine ds_one ?_ rfl rfl ?_ ?_); (rotate_left 1); (focus ((repeat' (simp only [*, go_sem, Nat.reduceLT, Nat.reduceEqDiff, ↓reduceIte, bne_self_eq_false, bne_self_eq_false])); exact rfl)); (simp only [putF_some]))))))
        exact qr_n (k + 1) hJ2 (by omega) (weak_mk rfl rfl rfl (by simp [wk_cons, wk_nil, look_cons, closedD, closedC, ]))
      · have hn : ((x.toNat : Int) != (y.toNat : Int)) = true := by
          simp only [bne_iff_ne, ne_eq]
          intro h
          exact he (UInt8.toNat_inj.1 (by omega))
        have hn2 : ((x.toNat : Int) == (y.toNat : Int)) = false := by
          rw [← Bool.not_eq_true']; exact hn
        rw [hne he]
        clear hne hJ ht hx hy
        repeat' (first | simp only [*, go_sem, Nat.reduceLT, Nat.reduceEqDiff, ↓reduceIte, ] | ((refine vc_drawn (id := 6) tabOK hmix [] [0,1,2,3,4,5,6,7,8] (by decide +kernel) ?_); (repeat' (first | (refine ds_nil ?_) | ((refine ds_one ?_ rfl rfl ?_ ?_); (rotate_left 1); (focus ((repeat' (simp only [*, go_sem, Nat.reduceLT, Nat.reduceEqDiff, ↓reduceIte, ])); exact rfl)); (simp only [putF_some]))))))
    · have h1 : decide ((k : Int) < (a.length : Int)) = false := decide_eq_false (by omega)
      rw [List.take_of_length_le (by omega), List.take_of_length_le (by omega)] at ht
      subst ht
      repeat' (simp only [*, go_sem, Nat.reduceLT, Nat.reduceEqDiff, ↓reduceIte, beq_self_eq_true])
      all_goals simp
  · have q0 : ((a.length : Int) != (b.length : Int)) = true := by simp only [bne_iff_ne, ne_eq]; omega
    have q1 : ((a.length : Int) == (b.length : Int)) = false := by rw [← Bool.not_eq_true']; exact q0
    have e : (a == b) = false := by
      cases he : (a == b)
      · rfl
      · exact absurd (congrArg List.length (eq_of_beq he)) hab
    rw [e]
    refine ent tabOK hmix Tryz.func62 rfl rfl fun X0 hX => ?_
    simp only [Tryz.f62, go_sem]
    repeat' (simp only [*, go_sem, Nat.reduceLT, Nat.reduceEqDiff, ↓reduceIte, ])

theorem sameT_c {a : List It} (ha : a.length ≤ 1000000) : DCalls Tryz.prog 11 [.c (.p (.sl 5 (encT a))), .c (.p (.sl 5 (encT a)))] [] fun r h => r = .c (.p (.b true)) ∧ h = [] := by
  refine ent tabOK hmix Tryz.func11 rfl rfl fun X0 hX => ?_
  simp only [Tryz.f11, go_sem]
  repeat' (simp only [*, go_sem, Nat.reduceLT, Nat.reduceEqDiff, ↓reduceIte, bne_self_eq_false])
  refine loop_ren tabOK hmix (α := Nat) (fun k => ⟨42, [(0, .c (.p (.sl 5 (encT a)))), (1, .c (.p (.sl 5 (encT a)))), (5, .c (.p (.i .i64 k)))], []⟩)
    (fun k => k ≤ a.length) (fun k => a.length - k) 0 (Nat.zero_le _) (.inl (weak_mk (by rw [hX]; rfl) rfl rfl (by simp [wk_cons, wk_nil, look_cons, closedD, closedC, ]))) ?_
  intro k hk
  by_cases hlt : k < a.length
  · have hx : a[k]? = some a[k] := List.getElem?_eq_getElem hlt
    have hg := encT_at hx
    have h1 : decide ((k : Int) < (a.length : Int)) = true := decide_eq_true (by omega)
    have hli : (k : Int) < (a.length : Int) := by omega
    have hk0 : (0 : Int) ≤ k := by omega
    have w1 : IntKind.i64.wrap ((k : Int) + 1) = k + 1 := wrap_i64 (by omega) (by omega)
    generalize a[k] = x at hx hg
    have e1 := sameNd_refl x.n
    clear hx
    repeat' (first | simp only [*, go_sem, Nat.reduceLT, Nat.reduceEqDiff, ↓reduceIte, ] | ((refine vc_drawn (id := 6) tabOK hmix [] [0,1,2,3,4,5,6,7,8,9,10,11,12,13,14,15,16,17,18,19,20,21,22,23,24] (by decide +kernel) ?_); (repeat' (first | (refine ds_nil ?_) | ((refine ds_one ?_ rfl rfl ?_ ?_); (rotate_left 1); (focus ((repeat' (first | simp only [*, go_sem, Nat.reduceLT, Nat.reduceLeDiff, Nat.reduceEqDiff, ↓reduceIte, Nat.reduceAdd, beq_self_eq_true, Bool.not_true] | ((with_reducible refine useF (sameNode_c) ?_ ?_ ?_); (focus exact rfl); (focus exact rfl)))); exact rfl)); (simp only [putF_some]))))))
    exact qr_n (k + 1) (by omega) (by omega) (weak_mk rfl rfl rfl (by simp [wk_cons, wk_nil, look_cons, closedD, closedC, ]))
  · have h1 : decide ((k : Int) < (a.length : Int)) = false := decide_eq_false (by omega)
    repeat' (simp only [*, go_sem, Nat.reduceLT, Nat.reduceEqDiff, ↓reduceIte, ])

theorem newReader_c {b : List UInt8} (hb : b.length ≤ 140737488355328) : DCalls Tryz.prog 56 [.c (.p (.sl 1 (encB b)))] [] fun d h => d = .c (.ptr 0 0) ∧ h = [.box [.p (.sl 1 (encB b)), .p (.b false)]] := by
  refine DCalls.boxed (j := 2) (cs := [.own 1 0 b.length, .p (.b false)]) (xs := [.sl 1 (encB b), .b false]) (H := [.dead, .arr 1 (encB b) false, .box [.own 1 0 b.length, .p (.b false)]]) ?_ rfl ?_
  ·
    refine entR tabOK hmix Tryz.func56 rfl rfl fun X0 hX => ?_
    simp only [Tryz.f56, go_sem]
    repeat' (first | simp only [*, go_sem, Nat.reduceLT, Nat.reduceLeDiff, Nat.reduceEqDiff, ↓reduceIte, Nat.reduceAdd, ] | ((with_reducible refine And.intro ?_ ?_); (focus (decide))))
    all_goals omega
  · have e : (encB b).take b.length = encB b := take_enc b _ rfl
    simp [pvs, pvOf, e]

end Go.Proofs.YtjpmajeekikdhaaGreatDoor
