import Derived.Test.YtjpmajeekikdhaaGreatDoorF1
import Derived.Test.YtjpmajeekikdhaaGreatDoorSD
import Derived.Test.YtjpmajeekikdhaaGreatDoorD6

section
/-
  Whether any list of items is a right tree, as the program asks it.
-/

set_option linter.unusedSimpArgs false
set_option linter.unusedVariables false
namespace Go.Proofs.YtjpmajeekikdhaaGreatDoor
open Go Go.Dm
set_option maxRecDepth 100000
set_option maxHeartbeats 4000000

theorem le_not_lt (x y : List UInt8) : (bltL x y || x == y) = !bltL y x := by
  cases h : bltL y x
  · cases h2 : bltL x y
    · rw [blt_tri h2 h]; simp
    · rfl
  · rw [blt_asymm h, Bool.false_or]
    cases he : (x == y)
    · rfl
    · rw [eq_of_beq he, blt_irrefl] at h; cases h

theorem treeRightG_c {t : List It} (hl : t.length ≤ 1000000) (hp : ∀ x ∈ t, x.p.length ≤ 1000000000) (ht : ∀ x ∈ t, x.n.t < 18446744073709551616) :
    DCalls Tryz.prog 34 [.c (.p (.sl 5 (encT t)))] [] fun r h => r = .c (.p (.b (rightT t))) ∧ h = [] := by
  refine ent tabOK hmix Tryz.func34 rfl rfl fun X0 hX => ?_
  simp only [Tryz.f34, go_sem]
  repeat' (simp only [*, go_sem, Nat.reduceLT, Nat.reduceEqDiff, ↓reduceIte, ])
  refine loop_ren tabOK hmix (α := Nat) (fun k => ⟨56, [(0, .c (.p (.sl 5 (encT t)))), (5, .c (.p (.sl 5 (encT t)))), (6, .c (.p (.i .i64 t.length))), (7, .c (.p (.i .i64 k)))], []⟩)
    (fun k => k ≤ t.length ∧ Srt (t.take k) ∧ rightGo (t.take k) (t.drop k) = rightGo [] t) (fun k => t.length - k) 0 ⟨Nat.zero_le _, by simp, rfl⟩ (.inl (weak_mk (by rw [hX]; rfl) rfl rfl (by simp [wk_cons, wk_nil, look_cons, closedD, closedC, ]))) ?_
  rintro k ⟨hk, hst, hgo⟩
  by_cases hlt : k < t.length
  · have hx : t[k]? = some t[k] := List.getElem?_eq_getElem hlt
    have hg := encT_at hx
    have h1 : decide ((k : Int) < (t.length : Int)) = true := decide_eq_true (by omega)
    have hki : (k : Int) ≤ (t.length : Int) := by omega
    have hk0 : (0 : Int) ≤ k := by omega
    have w1 : IntKind.i64.wrap ((k : Int) + 1) = k + 1 := wrap_i64 (by omega) (by omega)
    have prev : (decide ((0 : Int) < k) = false ∧ aheadT (t.take k) t[k].p = true) ∨ ∃ m : Nat, ∃ y : It, decide ((0 : Int) < k) = true ∧ IntKind.i64.wrap ((k : Int) - 1) = (m : Int) ∧ (m : Int) < t.length ∧ t[m]? = some y ∧ (bltL t[k].p y.p || t[k].p == y.p) = !aheadT (t.take k) t[k].p := by
      by_cases h0 : 0 < k
      · have hmk : k - 1 < t.length := by omega
        refine .inr ⟨k - 1, t[k - 1], decide_eq_true (by omega), ?_, by omega, List.getElem?_eq_getElem hmk, ?_⟩
        · rw [wrap_i64 (by omega) (by omega)]; omega
        · rw [le_not_lt]
          unfold aheadT
          rw [getLast_take h0 (by omega), List.getElem?_eq_getElem hmk]
      · refine .inl ⟨decide_eq_false (by omega), ?_⟩
        have : k = 0 := by omega
        subst this; rfl
    have hpl := hp _ (List.getElem_mem hlt)
    have i4 := ht _ (List.getElem_mem hlt)
    have hisd := treeIsDir_c (t := t.take k) (p := dirOfR t[k].p) (by rw [List.length_take]; omega) hst
    have htk : (encT t).take k = encT (t.take k) := encT_take t k
    have hdr : t.drop k = t[k] :: t.drop (k + 1) := List.drop_eq_getElem_cons hlt
    have hnx : t.take (k + 1) = t.take k ++ [t[k]] := by rw [List.take_add_one, hx]; rfl
    rw [hdr, rightGo] at hgo
    have hsn : aheadT (t.take k) t[k].p = true → Srt (t.take k ++ [t[k]]) := fun h => srt_snoc hst h
    rw [← hnx] at hgo hsn
    have hbad : rightStep (t.take k) t[k] = false → rightT t = false := fun h => by
      rw [h, Bool.false_and] at hgo
      rw [rightT, ← hgo]; rfl
    have hgood : rightStep (t.take k) t[k] = true → rightGo (t.take (k + 1)) (t.drop (k + 1)) = rightGo [] t := fun h => by
      rw [h, Bool.true_and] at hgo; exact hgo
    clear hgo hdr hnx
    unfold rightStep at hbad hgood
    generalize t[k] = x at hx hg prev hpl i4 hisd hsn hbad hgood
    generalize aheadT (t.take k) x.p = a3 at prev hsn hbad hgood
    generalize isDirR (t.take k) (dirOfR x.p) = a5 at hisd hbad hgood
    cases c1 : (x.p == [])
    · cases c2 : isPathR x.p
      · have hf := hbad (by rw [c1, c2]; rfl)
        rw [hf]
        clear hf hbad hgood hsn hst hisd prev hp ht hx
        repeat' (first | simp only [*, go_sem, Nat.reduceLT, Nat.reduceLeDiff, Nat.reduceEqDiff, ↓reduceIte, Nat.reduceAdd, ] | ((refine vc_drawn (id := 4) tabOK hmix [] [0,1,2,3,4,5,6,7,8,9,10,11,12,13,14,15,16,17,18,19,20,21,22,23,24,25,26,27,28,29,30,31,32,33,34,35,36,37,38,39] (by decide +kernel) ?_); (repeat' (first | (refine ds_nil ?_) | ((refine ds_one ?_ rfl rfl ?_ ?_); (rotate_left 1); (focus ((repeat' (first | simp only [*, go_sem, Nat.reduceLT, Nat.reduceEqDiff, ↓reduceIte, Bool.not_false] | ((with_reducible refine useF (isPath_c (by omega)) ?_ ?_ ?_); (focus exact rfl); (focus exact rfl)))); exact rfl)); (simp only [putF_some]))))) | ((with_reducible refine And.intro ?_ ?_); (focus (omega))))
      · rcases prev with ⟨b1, rfl⟩ | ⟨m, y, b1, b2, b3, b4, b5⟩
        · cases c4 : rightNodeR x.n
          · have hf := hbad (by rw [c1, c2, c4]; rfl)
            rw [hf]
            clear hf hbad hgood hsn hst hisd hp ht hx
            repeat' (first | simp only [*, go_sem, Nat.reduceLT, Nat.reduceLeDiff, Nat.reduceEqDiff, ↓reduceIte, Nat.reduceAdd, ] | ((refine vc_drawn (id := 4) tabOK hmix [] [0,1,2,3,4,5,6,7,8,9,10,11,12,13,14,15,16,17,18,19,20,21,22,23,24,25,26,27,28,29,30,31,32,33,34,35,36,37,38,39] (by decide +kernel) ?_); (repeat' (first | (refine ds_nil ?_) | ((refine ds_one ?_ rfl rfl ?_ ?_); (rotate_left 1); (focus ((repeat' (first | simp only [*, go_sem, Nat.reduceLT, Nat.reduceLeDiff, Nat.reduceEqDiff, ↓reduceIte, Nat.reduceAdd, Bool.not_true, Bool.not_false] | ((with_reducible refine useF (isPath_c (by omega)) ?_ ?_ ?_); (focus exact rfl); (focus exact rfl)) | ((with_reducible refine useF (nodeRight_c i4) ?_ ?_ ?_); (focus exact rfl); (focus exact rfl)))); exact rfl)); (simp only [putF_some]))))) | ((with_reducible refine And.intro ?_ ?_); (focus (omega))))
          · cases a5
            · have hf := hbad (by rw [c1, c2, c4]; rfl)
              rw [hf]
              clear hf hbad hgood hsn hst hp ht hx
              repeat' (first | simp only [*, go_sem, Nat.reduceLT, Nat.reduceLeDiff, Nat.reduceEqDiff, ↓reduceIte, Nat.reduceAdd, ] | ((refine vc_drawn (id := 4) tabOK hmix [] [0,1,2,3,4,5,6,7,8,9,10,11,12,13,14,15,16,17,18,19,20,21,22,23,24,25,26,27,28,29,30,31,32,33,34,35,36,37,38,39] (by decide +kernel) ?_); (repeat' (first | (refine ds_nil ?_) | ((refine ds_one ?_ rfl rfl ?_ ?_); (rotate_left 1); (focus ((repeat' (first | simp only [*, go_sem, Nat.reduceLT, Nat.reduceLeDiff, Nat.reduceEqDiff, ↓reduceIte, Nat.reduceAdd, Int.reduceLE, Int.reduceToNat, Bool.not_true, Bool.not_false] | ((with_reducible refine useF (isPath_c (by omega)) ?_ ?_ ?_); (focus exact rfl); (focus exact rfl)) | ((with_reducible refine useF (nodeRight_c i4) ?_ ?_ ?_); (focus exact rfl); (focus exact rfl)) | ((with_reducible refine useF (nameDir_c (by omega)) ?_ ?_ ?_); (focus exact rfl); (focus exact rfl)) | ((with_reducible refine useF (hisd) ?_ ?_ ?_); (focus exact rfl); (focus exact rfl)))); exact rfl)); (simp only [putF_some]))))) | ((with_reducible refine And.intro ?_ ?_); (focus (omega))))
            · have hJ : k + 1 ≤ t.length ∧ Srt (t.take (k + 1)) ∧ rightGo (t.take (k + 1)) (t.drop (k + 1)) = rightGo [] t := ⟨by omega, hsn rfl, hgood (by rw [c1, c2, c4]; rfl)⟩
              clear hbad hgood hsn hst hp ht hx
              repeat' (first | simp only [*, go_sem, Nat.reduceLT, Nat.reduceLeDiff, Nat.reduceEqDiff, ↓reduceIte, Nat.reduceAdd, ] | ((refine vc_drawn (id := 4) tabOK hmix [] [0,1,2,3,4,5,6,7,8,9,10,11,12,13,14,15,16,17,18,19,20,21,22,23,24,25,26,27,28,29,30,31,32,33,34,35,36,37,38,39] (by decide +kernel) ?_); (repeat' (first | (refine ds_nil ?_) | ((refine ds_one ?_ rfl rfl ?_ ?_); (rotate_left 1); (focus ((repeat' (first | simp only [*, go_sem, Nat.reduceLT, Nat.reduceLeDiff, Nat.reduceEqDiff, ↓reduceIte, Nat.reduceAdd, Int.reduceLE, Int.reduceToNat, Bool.not_true] | ((with_reducible refine useF (isPath_c (by omega)) ?_ ?_ ?_); (focus exact rfl); (focus exact rfl)) | ((with_reducible refine useF (nodeRight_c i4) ?_ ?_ ?_); (focus exact rfl); (focus exact rfl)) | ((with_reducible refine useF (nameDir_c (by omega)) ?_ ?_ ?_); (focus exact rfl); (focus exact rfl)) | ((with_reducible refine useF (hisd) ?_ ?_ ?_); (focus exact rfl); (focus exact rfl)))); exact rfl)); (simp only [putF_some]))))) | ((with_reducible refine And.intro ?_ ?_); (focus (omega))))
              exact qr_n (k + 1) hJ (by omega) (weak_mk rfl rfl rfl (by simp [wk_cons, wk_nil, look_cons, closedD, closedC, ]))
        · have hgy := encT_at b4
          cases a3
          · have hf := hbad (by rw [c1, c2]; rfl)
            rw [hf]
            rw [Bool.not_false] at b5
            clear hf hbad hgood hsn hst hisd hp ht hx b4
            repeat' (first | simp only [*, go_sem, Nat.reduceLT, Nat.reduceLeDiff, Nat.reduceEqDiff, ↓reduceIte, Nat.reduceAdd, ] | ((refine vc_drawn (id := 4) tabOK hmix [] [0,1,2,3,4,5,6,7,8,9,10,11,12,13,14,15,16,17,18,19,20,21,22,23,24,25,26,27,28,29,30,31,32,33,34,35,36,37,38,39] (by decide +kernel) ?_); (repeat' (first | (refine ds_nil ?_) | ((refine ds_one ?_ rfl rfl ?_ ?_); (rotate_left 1); (focus ((repeat' (first | simp only [*, go_sem, Nat.reduceLT, Nat.reduceEqDiff, ↓reduceIte, Bool.not_true] | ((with_reducible refine useF (isPath_c (by omega)) ?_ ?_ ?_); (focus exact rfl); (focus exact rfl)) | ((with_reducible refine And.intro ?_ ?_); (focus (omega))))); exact rfl)); (simp only [putF_some]))))) | ((with_reducible refine And.intro ?_ ?_); (focus (omega))))
          · rw [Bool.not_true] at b5
            cases c4 : rightNodeR x.n
            · have hf := hbad (by rw [c1, c2, c4]; rfl)
              rw [hf]
              clear hf hbad hgood hsn hst hisd hp ht hx b4
              repeat' (first | simp only [*, go_sem, Nat.reduceLT, Nat.reduceLeDiff, Nat.reduceEqDiff, ↓reduceIte, Nat.reduceAdd, ] | ((refine vc_drawn (id := 4) tabOK hmix [] [0,1,2,3,4,5,6,7,8,9,10,11,12,13,14,15,16,17,18,19,20,21,22,23,24,25,26,27,28,29,30,31,32,33,34,35,36,37,38,39] (by decide +kernel) ?_); (repeat' (first | (refine ds_nil ?_) | ((refine ds_one ?_ rfl rfl ?_ ?_); (rotate_left 1); (focus ((repeat' (first | simp only [*, go_sem, Nat.reduceLT, Nat.reduceLeDiff, Nat.reduceEqDiff, ↓reduceIte, Nat.reduceAdd, Bool.not_true, Bool.not_false] | ((with_reducible refine useF (isPath_c (by omega)) ?_ ?_ ?_); (focus exact rfl); (focus exact rfl)) | ((with_reducible refine useF (nodeRight_c i4) ?_ ?_ ?_); (focus exact rfl); (focus exact rfl)) | ((with_reducible refine And.intro ?_ ?_); (focus (omega))))); exact rfl)); (simp only [putF_some]))))) | ((with_reducible refine And.intro ?_ ?_); (focus (omega))))
            · cases a5
              · have hf := hbad (by rw [c1, c2, c4]; rfl)
                rw [hf]
                clear hf hbad hgood hsn hst hp ht hx b4
                repeat' (first | simp only [*, go_sem, Nat.reduceLT, Nat.reduceLeDiff, Nat.reduceEqDiff, ↓reduceIte, Nat.reduceAdd, ] | ((refine vc_drawn (id := 4) tabOK hmix [] [0,1,2,3,4,5,6,7,8,9,10,11,12,13,14,15,16,17,18,19,20,21,22,23,24,25,26,27,28,29,30,31,32,33,34,35,36,37,38,39] (by decide +kernel) ?_); (repeat' (first | (refine ds_nil ?_) | ((refine ds_one ?_ rfl rfl ?_ ?_); (rotate_left 1); (focus ((repeat' (first | simp only [*, go_sem, Nat.reduceLT, Nat.reduceLeDiff, Nat.reduceEqDiff, ↓reduceIte, Nat.reduceAdd, Int.reduceLE, Int.reduceToNat, Bool.not_true, Bool.not_false] | ((with_reducible refine useF (isPath_c (by omega)) ?_ ?_ ?_); (focus exact rfl); (focus exact rfl)) | ((with_reducible refine useF (nodeRight_c i4) ?_ ?_ ?_); (focus exact rfl); (focus exact rfl)) | ((with_reducible refine useF (nameDir_c (by omega)) ?_ ?_ ?_); (focus exact rfl); (focus exact rfl)) | ((with_reducible refine useF (hisd) ?_ ?_ ?_); (focus exact rfl); (focus exact rfl)) | ((with_reducible refine And.intro ?_ ?_); (focus (omega))))); exact rfl)); (simp only [putF_some]))))) | ((with_reducible refine And.intro ?_ ?_); (focus (omega))))
              · have hJ : k + 1 ≤ t.length ∧ Srt (t.take (k + 1)) ∧ rightGo (t.take (k + 1)) (t.drop (k + 1)) = rightGo [] t := ⟨by omega, hsn rfl, hgood (by rw [c1, c2, c4]; rfl)⟩
                clear hbad hgood hsn hst hp ht hx b4
                repeat' (first | simp only [*, go_sem, Nat.reduceLT, Nat.reduceLeDiff, Nat.reduceEqDiff, ↓reduceIte, Nat.reduceAdd, ] | ((refine vc_drawn (id := 4) tabOK hmix [] [0,1,2,3,4,5,6,7,8,9,10,11,12,13,14,15,16,17,18,19,20,21,22,23,24,25,26,27,28,29,30,31,32,33,34,35,36,37,38,39] (by decide +kernel) ?_); (repeat' (first | (refine ds_nil ?_) | ((refine ds_one ?_ rfl rfl ?_ ?_); (rotate_left 1); (focus ((repeat' (first | simp only [*, go_sem, Nat.reduceLT, Nat.reduceLeDiff, Nat.reduceEqDiff, ↓reduceIte, Nat.reduceAdd, Int.reduceLE, Int.reduceToNat, Bool.not_true] | ((with_reducible refine useF (isPath_c (by omega)) ?_ ?_ ?_); (focus exact rfl); (focus exact rfl)) | ((with_reducible refine useF (nodeRight_c i4) ?_ ?_ ?_); (focus exact rfl); (focus exact rfl)) | ((with_reducible refine useF (nameDir_c (by omega)) ?_ ?_ ?_); (focus exact rfl); (focus exact rfl)) | ((with_reducible refine useF (hisd) ?_ ?_ ?_); (focus exact rfl); (focus exact rfl)) | ((with_reducible refine And.intro ?_ ?_); (focus (omega))))); exact rfl)); (simp only [putF_some]))))) | ((with_reducible refine And.intro ?_ ?_); (focus (omega))))
                exact qr_n (k + 1) hJ (by omega) (weak_mk rfl rfl rfl (by simp [wk_cons, wk_nil, look_cons, closedD, closedC, ]))
    · have hf := hbad (by rw [c1]; rfl)
      rw [hf]
      clear hf hbad hgood hsn hst hisd prev hp ht hx
      repeat' (first | simp only [*, go_sem, Nat.reduceLT, Nat.reduceLeDiff, Nat.reduceEqDiff, ↓reduceIte, Nat.reduceAdd, ] | ((refine vc_drawn (id := 4) tabOK hmix [] [0,1,2,3,4,5,6,7,8,9,10,11,12,13,14,15,16,17,18,19,20,21,22,23,24,25,26,27,28,29,30,31,32,33,34,35,36,37,38,39] (by decide +kernel) ?_); (repeat' (first | (refine ds_nil ?_) | ((refine ds_one ?_ rfl rfl ?_ ?_); (rotate_left 1); (focus ((repeat' (simp only [*, go_sem, Nat.reduceLT, Nat.reduceEqDiff, ↓reduceIte, ])); exact rfl)); (simp only [putF_some]))))) | ((with_reducible refine And.intro ?_ ?_); (focus (omega))))
  · have h1 : decide ((k : Int) < (t.length : Int)) = false := decide_eq_false (by omega)
    rw [List.drop_of_length_le (by omega), rightGo] at hgo
    rw [rightT, ← hgo, Bool.true_and]
    clear hgo hst
    repeat' (simp only [*, go_sem, Nat.reduceLT, Nat.reduceEqDiff, ↓reduceIte, ])

end Go.Proofs.YtjpmajeekikdhaaGreatDoor

end

section
/-
  Whether any list of items is a right tree, as the document asks it.
-/

set_option linter.unusedSimpArgs false
set_option linter.unusedVariables false
namespace Go.Proofs.YtjpmajeekikdhaaGreatDoor
open Go Go.Dm
set_option maxRecDepth 100000
set_option maxHeartbeats 4000000

theorem refRight_c {t : List It} (hl : t.length ≤ 1000000) (hp : ∀ x ∈ t, x.p.length ≤ 1000000000) (ht : ∀ x ∈ t, x.n.d.length ≤ 1000000000) :
    DCalls Tryz.prog 38 [.c (.p (.sl 5 (encT t)))] [] fun r h => r = .c (.p (.b (refT t))) ∧ h = [] := by
  refine ent tabOK hmix Tryz.func38 rfl rfl fun X0 hX => ?_
  simp only [Tryz.f38, go_sem]
  repeat' (simp only [*, go_sem, Nat.reduceLT, ])
  refine loop_ren tabOK hmix (α := Nat) (fun k => ⟨56, [(0, .c (.p (.sl 5 (encT t)))), (3, .c (.p (.i .i64 k)))], []⟩)
    (fun k => k ≤ t.length ∧ refGo t (t.take k) (t.drop k) = refGo t [] t) (fun k => t.length - k) 0 ⟨Nat.zero_le _, rfl⟩ (.inl (weak_mk (by rw [hX]; rfl) rfl rfl (by simp [wk_cons, wk_nil, look_cons, closedD, closedC, ]))) ?_
  rintro k ⟨hk, hgo⟩
  by_cases hlt : k < t.length
  · have hx : t[k]? = some t[k] := List.getElem?_eq_getElem hlt
    have hg := encT_at hx
    have h1 : decide ((k : Int) < (t.length : Int)) = true := decide_eq_true (by omega)
    have hki : (k : Int) ≤ (t.length : Int) := by omega
    have hkl : (k : Int) < (t.length : Int) := by omega
    have hk0 : (0 : Int) ≤ k := by omega
    have w1 : IntKind.i64.wrap ((k : Int) + 1) = k + 1 := wrap_i64 (by omega) (by omega)
    have prev : (decide ((0 : Int) < k) = false ∧ aheadT (t.take k) t[k].p = true) ∨ ∃ m : Nat, ∃ y : It, decide ((0 : Int) < k) = true ∧ IntKind.i64.wrap ((k : Int) - 1) = (m : Int) ∧ (m : Int) < t.length ∧ t[m]? = some y ∧ (bltL t[k].p y.p || t[k].p == y.p) = !aheadT (t.take k) t[k].p := by
      by_cases h0 : 0 < k
      · have hmk : k - 1 < t.length := by omega
        refine .inr ⟨k - 1, t[k - 1], decide_eq_true (by omega), ?_, by omega, List.getElem?_eq_getElem hmk, ?_⟩
        · rw [wrap_i64 (by omega) (by omega)]; omega
        · rw [le_not_lt]
          unfold aheadT
          rw [getLast_take h0 (by omega), List.getElem?_eq_getElem hmk]
      · refine .inl ⟨decide_eq_false (by omega), ?_⟩
        have : k = 0 := by omega
        subst this; rfl
    have hpl := hp _ (List.getElem_mem hlt)
    have i4 := ht _ (List.getElem_mem hlt)
    have hisd := isDirR_c (t := t) (p := dirOfR t[k].p) (by omega)
    have hdr : t.drop k = t[k] :: t.drop (k + 1) := List.drop_eq_getElem_cons hlt
    have hnx : t.take (k + 1) = t.take k ++ [t[k]] := by rw [List.take_add_one, hx]; rfl
    rw [hdr, refGo] at hgo
    rw [← hnx] at hgo
    have hbad : refStep t (t.take k) t[k] = false → refT t = false := fun h => by
      rw [h, Bool.false_and] at hgo
      rw [refT, ← hgo]; rfl
    have hgood : refStep t (t.take k) t[k] = true → refGo t (t.take (k + 1)) (t.drop (k + 1)) = refGo t [] t := fun h => by
      rw [h, Bool.true_and] at hgo; exact hgo
    clear hgo hdr hnx
    unfold refStep at hbad hgood
    generalize t[k] = x at hx hg prev hpl i4 hisd hbad hgood
    generalize aheadT (t.take k) x.p = a3 at prev hbad hgood
    generalize isDirR t (dirOfR x.p) = a5 at hisd hbad hgood
    cases c1 : (x.p == [])
    · cases c2 : isPathR x.p
      · have hf := hbad (by rw [c1, c2]; rfl)
        rw [hf]
        clear hf hbad hgood hisd prev hp ht hx
        repeat' (first | simp only [*, go_sem, Nat.reduceLT, Nat.reduceEqDiff, ↓reduceIte, Bool.not_false] | ((with_reducible refine useF (isPathR_c (by omega)) ?_ ?_ ?_); (focus exact rfl); (focus exact rfl)))
      · rcases prev with ⟨b1, rfl⟩ | ⟨m, y, b1, b2, b3, b4, b5⟩
        · cases c4 : rightNodeR x.n
          · have hf := hbad (by rw [c1, c2, c4]; rfl)
            rw [hf]
            clear hf hbad hgood hisd hp ht hx
            repeat' (first | simp only [*, go_sem, Nat.reduceLT, Nat.reduceLeDiff, Nat.reduceEqDiff, ↓reduceIte, Nat.reduceAdd, Bool.not_true, Bool.not_false] | ((with_reducible refine useF (isPathR_c (by omega)) ?_ ?_ ?_); (focus exact rfl); (focus exact rfl)) | ((with_reducible refine useF (rightNodeR_c (by omega)) ?_ ?_ ?_); (focus exact rfl); (focus exact rfl)))
          · cases a5
            · have hf := hbad (by rw [c1, c2, c4]; rfl)
              rw [hf]
              clear hf hbad hgood hp ht hx
              repeat' (first | simp only [*, go_sem, Nat.reduceLT, Nat.reduceLeDiff, Nat.reduceEqDiff, ↓reduceIte, Nat.reduceAdd, Bool.not_true, Bool.not_false] | ((with_reducible refine useF (isPathR_c (by omega)) ?_ ?_ ?_); (focus exact rfl); (focus exact rfl)) | ((with_reducible refine useF (rightNodeR_c (by omega)) ?_ ?_ ?_); (focus exact rfl); (focus exact rfl)) | ((with_reducible refine useF (dirOfR_c (by omega)) ?_ ?_ ?_); (focus exact rfl); (focus exact rfl)) | ((with_reducible refine useF (hisd) ?_ ?_ ?_); (focus exact rfl); (focus exact rfl)))
            · have hJ : k + 1 ≤ t.length ∧ refGo t (t.take (k + 1)) (t.drop (k + 1)) = refGo t [] t := ⟨by omega, hgood (by rw [c1, c2, c4]; rfl)⟩
              clear hbad hgood hp ht hx
              repeat' (first | simp only [*, go_sem, Nat.reduceLT, Nat.reduceLeDiff, Nat.reduceEqDiff, ↓reduceIte, Nat.reduceAdd, Bool.not_true] | ((with_reducible refine useF (isPathR_c (by omega)) ?_ ?_ ?_); (focus exact rfl); (focus exact rfl)) | ((with_reducible refine useF (rightNodeR_c (by omega)) ?_ ?_ ?_); (focus exact rfl); (focus exact rfl)) | ((with_reducible refine useF (dirOfR_c (by omega)) ?_ ?_ ?_); (focus exact rfl); (focus exact rfl)) | ((with_reducible refine useF (hisd) ?_ ?_ ?_); (focus exact rfl); (focus exact rfl)))
              exact qr_n (k + 1) hJ (by omega) (weak_mk rfl rfl rfl (by simp [wk_cons, wk_nil, look_cons, closedD, closedC, ]))
        · have hgy := encT_at b4
          have hm0 : (0 : Int) ≤ (m : Int) := by omega
          cases a3
          · have hf := hbad (by rw [c1, c2]; rfl)
            rw [hf]
            rw [Bool.not_false] at b5
            clear hf hbad hgood hisd hp ht hx b4
            repeat' (first | simp only [*, go_sem, Nat.reduceLT, Nat.reduceEqDiff, ↓reduceIte, Bool.not_true] | ((with_reducible refine useF (isPathR_c (by omega)) ?_ ?_ ?_); (focus exact rfl); (focus exact rfl)))
          · rw [Bool.not_true] at b5
            cases c4 : rightNodeR x.n
            · have hf := hbad (by rw [c1, c2, c4]; rfl)
              rw [hf]
              clear hf hbad hgood hisd hp ht hx b4
              repeat' (first | simp only [*, go_sem, Nat.reduceLT, Nat.reduceLeDiff, Nat.reduceEqDiff, ↓reduceIte, Nat.reduceAdd, Bool.not_true, Bool.not_false] | ((with_reducible refine useF (isPathR_c (by omega)) ?_ ?_ ?_); (focus exact rfl); (focus exact rfl)) | ((with_reducible refine useF (rightNodeR_c (by omega)) ?_ ?_ ?_); (focus exact rfl); (focus exact rfl)))
            · cases a5
              · have hf := hbad (by rw [c1, c2, c4]; rfl)
                rw [hf]
                clear hf hbad hgood hp ht hx b4
                repeat' (first | simp only [*, go_sem, Nat.reduceLT, Nat.reduceLeDiff, Nat.reduceEqDiff, ↓reduceIte, Nat.reduceAdd, Bool.not_true, Bool.not_false] | ((with_reducible refine useF (isPathR_c (by omega)) ?_ ?_ ?_); (focus exact rfl); (focus exact rfl)) | ((with_reducible refine useF (rightNodeR_c (by omega)) ?_ ?_ ?_); (focus exact rfl); (focus exact rfl)) | ((with_reducible refine useF (dirOfR_c (by omega)) ?_ ?_ ?_); (focus exact rfl); (focus exact rfl)) | ((with_reducible refine useF (hisd) ?_ ?_ ?_); (focus exact rfl); (focus exact rfl)))
              · have hJ : k + 1 ≤ t.length ∧ refGo t (t.take (k + 1)) (t.drop (k + 1)) = refGo t [] t := ⟨by omega, hgood (by rw [c1, c2, c4]; rfl)⟩
                clear hbad hgood hp ht hx b4
                repeat' (first | simp only [*, go_sem, Nat.reduceLT, Nat.reduceLeDiff, Nat.reduceEqDiff, ↓reduceIte, Nat.reduceAdd, Bool.not_true] | ((with_reducible refine useF (isPathR_c (by omega)) ?_ ?_ ?_); (focus exact rfl); (focus exact rfl)) | ((with_reducible refine useF (rightNodeR_c (by omega)) ?_ ?_ ?_); (focus exact rfl); (focus exact rfl)) | ((with_reducible refine useF (dirOfR_c (by omega)) ?_ ?_ ?_); (focus exact rfl); (focus exact rfl)) | ((with_reducible refine useF (hisd) ?_ ?_ ?_); (focus exact rfl); (focus exact rfl)))
                exact qr_n (k + 1) hJ (by omega) (weak_mk rfl rfl rfl (by simp [wk_cons, wk_nil, look_cons, closedD, closedC, ]))
    · have hf := hbad (by rw [c1]; rfl)
      rw [hf]
      clear hf hbad hgood hisd prev hp ht hx
      repeat' (simp only [*, go_sem, Nat.reduceLT, Nat.reduceEqDiff, ↓reduceIte, ])
  · have h1 : decide ((k : Int) < (t.length : Int)) = false := decide_eq_false (by omega)
    rw [List.drop_of_length_le (by omega), refGo] at hgo
    rw [refT, ← hgo, Bool.true_and]
    clear hgo
    repeat' (simp only [*, go_sem, Nat.reduceLT, Nat.reduceEqDiff, ↓reduceIte, ])


end Go.Proofs.YtjpmajeekikdhaaGreatDoor

end
