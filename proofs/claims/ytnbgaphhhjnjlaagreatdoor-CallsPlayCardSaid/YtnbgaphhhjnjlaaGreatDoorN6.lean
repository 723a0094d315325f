/-
  Contracts of the document's trees: the last name of a path, the names of a directory.
-/
import Derived.Test.YtnbgaphhhjnjlaaGreatDoorD1
import Derived.Test.YtnbgaphhhjnjlaaGreatDoorF1
import Derived.Test.YtnbgaphhhjnjlaaGreatDoorTB
set_option linter.unusedSimpArgs false
set_option linter.unusedVariables false
namespace Go.Proofs.YtnbgaphhhjnjlaaGreatDoor
open Go Go.Dm
set_option maxRecDepth 100000
set_option maxHeartbeats 4000000

theorem baseOfR_c {p : List UInt8} (hp : p.length ≤ 4611686018427387904) : DCalls Tryz.prog 114 [.c (.p (.s p))] [] fun r h => r = .c (.p (.s (baseF p))) ∧ h = [] := by
  have w0 : IntKind.i64.wrap ((p.length : Int) - 1) = p.length - 1 := wrap_i64 (by omega) (by omega)
  refine ent tabOK hmix Tryz.func114 rfl rfl fun X0 hX => ?_
  simp only [Tryz.f114, go_sem]
  repeat' (simp only [*, go_sem, Nat.reduceLT, Nat.reduceEqDiff, ↓reduceIte, ])
  refine loop_ren tabOK hmix (α := Nat) (fun j => ⟨20, [(0, .c (.p (.s p))), (3, .c (.p (.i .i64 ((j : Int) - 1))))], []⟩) (fun j => j ≤ p.length ∧ lastSlash p j = lastSlash p p.length) (fun j => j) p.length ⟨Nat.le_refl _, rfl⟩ (.inl (weak_mk (by rw [hX]; rfl) rfl rfl (by simp [wk_cons, wk_nil, look_cons, closedD, closedC, ]))) ?_
  rintro (_ | j) ⟨hj, hl⟩
  · repeat' (simp only [*, go_sem, Nat.reduceLT, Nat.reduceEqDiff, ↓reduceIte, Int.reduceLE, Int.reduceSub, Int.reduceNeg, ])
    simp only [baseF, ← hl, lastSlash]
  · have e1 : ((j + 1 : Nat) : Int) - 1 = j := by omega
    have w1 : IntKind.i64.wrap ((j : Int) - 1) = j - 1 := wrap_i64 (by omega) (by omega)
    have w2 : IntKind.i64.wrap ((j : Int) + 1) = (j + 1 : Nat) := by rw [wrap_i64 (by omega) (by omega)]; omega
    have d1 : decide ((0 : Int) ≤ j) = true := decide_eq_true (by omega)
    simp only [lastSlash] at hl
    repeat' (first | simp only [*, go_sem, Nat.reduceLT, Nat.reduceEqDiff, ↓reduceIte, ] | with_reducible refine vcond_split (fun _ => ?_) (fun _ => ?_) | ((with_reducible refine And.intro ?_ ?_); (focus (omega))))
    · rename_i hb
      rw [if_pos hb] at hl
      simp only [baseF, ← hl]
    · rename_i hb
      rw [if_neg (by rw [hb]; decide)] at hl
      exact qr_n j ⟨by omega, hl⟩ (by omega) (weak_mk rfl rfl rfl (by simp [wk_cons, wk_nil, look_cons, closedD, closedC, ]))

theorem encS_set (t : List (List UInt8)) (i : Nat) (x : List UInt8) : (Go.Dm.encS t).set i [.s x] = Go.Dm.encS (t.set i x) := by
  unfold Go.Dm.encS
  rw [List.map_set]

theorem refNames_c {t : List It} {p : List UInt8} (h : OkT t) : DCalls Tryz.prog 83 [.c (.p (.sl 5 (encT t))), .c (.p (.s p))] [] fun r h => r = .c (.p (.sl 1 (Go.Dm.encS (namesF t p)))) ∧ h = [] := by
  have hl := h.len
  have hpl := h.plen
  have hne := h.ne
  clear h
  unfold namesF
  refine ent tabOK hmix Tryz.func83 rfl rfl fun X0 hX => ?_
  simp only [Tryz.f83, go_sem]
  repeat' (simp only [*, go_sem, Nat.reduceLT, ])
  refine vc_virt tabOK hmix 5 1 rfl ?_
  refine loop_ren tabOK hmix (α := Nat × List (List UInt8)) (fun x => ⟨80, [(0, .c (.p (.sl 5 (encT t)))), (1, .c (.p (.s p))), (6, .c (.p (.i .i64 x.1))), (5, .c (.own 0 0 x.2.length))], [.arr 1 (Go.Dm.encS x.2) false]⟩)
    (fun x => x.1 ≤ t.length ∧ x.2.length ≤ x.1 ∧ (((t.take x.1).filter fun x => dirOfR x.p == p).map fun x => baseF x.p) = x.2) (fun x => t.length - x.1) (0, []) ⟨Nat.zero_le _, Nat.le_refl _, rfl⟩ (.inl (weak_mk (by rw [hX]; rfl) rfl rfl (by simp [wk_cons, wk_nil, look_cons, closedD, closedC, encS_nil]))) ?_
  rintro ⟨k, out⟩ ⟨hk, hol, hout⟩
  simp only at hk hol hout
  by_cases hlt : k < t.length
  · have hx : t[k]? = some t[k] := List.getElem?_eq_getElem hlt
    have hg := encT_at hx
    have h1 : decide ((k : Int) < (t.length : Int)) = true := decide_eq_true (by omega)
    have hki : (k : Int) < (t.length : Int) := by omega
    have hk0 : (0 : Int) ≤ k := by omega
    have w1 : IntKind.i64.wrap ((k : Int) + 1) = k + 1 := wrap_i64 (by omega) (by omega)
    have hnx := filter_next (g := fun x => dirOfR x.p == p) hx
    have hxl := hpl _ (List.getElem_mem hlt)
    have hxn : (t[k].p == []) = false := by
      have := hne _ (List.getElem_mem hlt)
      simpa using this
    generalize t[k] = x at hx hg hnx hxl hxn
    cases hb : (dirOfR x.p == p)
    · have hJ : k + 1 ≤ t.length ∧ out.length ≤ k + 1 ∧ (((t.take (k + 1)).filter fun x => dirOfR x.p == p).map fun x => baseF x.p) = out := ⟨by omega, by omega, by rw [hnx, hb, List.map_append, hout]; simp⟩
      clear hnx hx hout hpl hne
      repeat' (first | simp only [*, go_sem, Nat.reduceLT, Nat.reduceEqDiff, ↓reduceIte, ] | ((with_reducible refine useF (dirOfR_c (p := x.p) (by omega)) ?_ ?_ ?_); (focus exact rfl); (focus exact rfl)))
      exact qr_n (k + 1, out) hJ (by simp only; omega) (weak_mk rfl rfl rfl (by simp [wk_cons, wk_nil, look_cons, closedD, closedC, ]))
    · have hJ : k + 1 ≤ t.length ∧ (out ++ [baseF x.p]).length ≤ k + 1 ∧ (((t.take (k + 1)).filter fun x => dirOfR x.p == p).map fun x => baseF x.p) = out ++ [baseF x.p] := ⟨by omega, by simp; omega, by rw [hnx, hb, List.map_append, hout]; simp⟩
      clear hnx hx hout hpl hne
      repeat' (first | simp only [*, go_sem, Nat.reduceLT, Nat.reduceLeDiff, Nat.reduceEqDiff, ↓reduceIte, Nat.reduceAdd, Nat.reduceBEq, ] | ((with_reducible refine useF (dirOfR_c (p := x.p) (by omega)) ?_ ?_ ?_); (focus exact rfl); (focus exact rfl)) | ((with_reducible refine useF (baseOfR_c (p := x.p) (by omega)) ?_ ?_ ?_); (focus exact rfl); (focus exact rfl)) | ((with_reducible refine And.intro ?_ ?_); (focus (first | omega | decide))))
      exact qr_ren (k + 1, out ++ [baseF x.p]) 0 2 hJ (by simp only; omega) rfl rfl (weak_mk rfl rfl rfl (by simp [wk_cons, wk_nil, look_cons, closedD, closedC, renT, renD, renC, ]))
  · have h0 : decide ((k : Int) < (t.length : Int)) = false := decide_eq_false (by omega)
    rw [List.take_of_length_le (by omega)] at hout
    unfold dirNames
    rw [hout]
    clear hout hpl hne
    have hll : out.length ≤ 120 := by omega
    generalize out = l at hll ⊢
    clear hol hk
    have hs1 : sortS (l.take 1) ++ l.drop 1 = l := by
      cases l with
      | nil => simp [sortS]
      | cons x l => simp [sortS]
    have hll2 : l.length ≤ 1000000 := by omega
    repeat' (simp only [*, go_sem, Nat.reduceLT, Nat.reduceEqDiff, ↓reduceIte, ])
    refine loop_ren tabOK hmix (α := Nat) (fun i => ⟨80, [(5, .c (.own 0 0 l.length)), (7, .c (.p (.i .i64 i)))], [.arr 1 (Go.Dm.encS (sortS (l.take i) ++ l.drop i)) false]⟩)
      (fun i => 1 ≤ i ∧ (i ≤ l.length ∨ i = 1)) (fun i => l.length - i) 1 ⟨Nat.le_refl _, .inr rfl⟩ (.inl (weak_mk (by rw [hX]; rfl) (by rw [hs1]; rfl) rfl (by simp [wk_cons, wk_nil, look_cons, closedD, closedC, ]))) ?_
    clear hs1
    rintro i ⟨hi, hi2⟩
    by_cases hlt : i < l.length
    · have hx : l[i]? = some l[i] := List.getElem?_eq_getElem hlt
      have hd := drop_at hx
      have h1 : decide ((i : Int) < (l.length : Int)) = true := decide_eq_true (by omega)
      have w1 : IntKind.i64.wrap ((i : Int) + 1) = i + 1 := wrap_i64 (by omega) (by omega)
      have hdone := fun k => ins_doneS (k := k) hx
      generalize l[i] = x at hx hd hdone
      have hSl : (sortS (l.take i)).length = i := by rw [sortS_len, List.length_take]; omega
      have hRl : (l.drop (i + 1)).length = l.length - (i + 1) := List.length_drop
      rw [hd]
      have hfin : 1 ≤ i + 1 ∧ (i + 1 ≤ l.length ∨ i + 1 = 1) := ⟨by omega, .inl (by omega)⟩
      have hrow0 : sortS (l.take i) ++ x :: l.drop (i + 1) = insRowS (sortS (l.take i)) (l.drop (i + 1)) x i := by
        unfold insRowS
        rw [List.take_of_length_le (l := sortS (l.take i)) (i := i) (by omega), List.drop_of_length_le (l := sortS (l.take i)) (i := i) (by omega)]; rfl
      rw [hrow0]
      clear hrow0 hd hx
      generalize hS : sortS (l.take i) = S at *
      clear hS
      have hil0 : (insRowS S (l.drop (i + 1)) x i).length = l.length := by rw [insRowS_len (by omega)]; omega
      repeat' (simp only [*, go_sem, Nat.reduceLT, Nat.reduceEqDiff, ↓reduceIte, ])
      refine loop_ren tabOK hmix (α := Nat) (fun k => ⟨80, [(5, .c (.own 0 0 l.length)), (7, .c (.p (.i .i64 i))), (8, .c (.p (.i .i64 k)))], [.arr 1 (Go.Dm.encS (insRowS S (l.drop (i + 1)) x k)) false]⟩)
        (fun k => k ≤ S.length ∧ ∀ y ∈ S.drop k, bltL x y = true) (fun k => k) i ⟨by omega, by rw [List.drop_of_length_le (by omega)]; simp⟩ (.inl (weak_mk (by rw [hX]; rfl) rfl rfl (by simp [wk_cons, wk_nil, look_cons, closedD, closedC, ]))) ?_
      rintro k ⟨hk, hgt⟩
      have hrl := insRowS_len (S := S) (R := l.drop (i + 1)) (x := x) hk
      have hrl2 : (insRowS S (l.drop (i + 1)) x k).length = l.length := by omega
      have hxat := Go.Dm.encS_at (insRowS_at (S := S) (R := l.drop (i + 1)) (x := x) hk)
      have hkl : (k : Int) < (l.length : Int) := by omega
      have hk0 : (0 : Int) ≤ k := by omega
      by_cases hz : k = 0
      · subst hz
        have hdn := hdone 0 hk hgt (fun y _ h => absurd h (by decide))
        have q0 : decide ((0 : Int) < ((0 : Nat) : Int)) = false := by decide
        rw [hdn]
        clear hdn hdone hgt hrl hrl2 hxat
        repeat' (first | simp only [*, go_sem, Nat.reduceLT, Nat.reduceEqDiff, ↓reduceIte, ] | ((refine vc_drawn (id := 11) tabOK hmix [] [0,1,2,3,4,5,6,7,8,9,10,11,12,13] (by decide +kernel) ?_); (repeat' (first | (refine ds_nil ?_) | ((refine ds_one ?_ rfl rfl ?_ ?_); (rotate_left 1); (focus ((repeat' (simp only [*, go_sem, Nat.reduceLT, Nat.reduceEqDiff, ↓reduceIte, Int.reduceLT, ])); exact rfl)); (simp only [putF_some]))))))
        exact qr_n (i + 1) hfin (by omega) (weak_mk rfl rfl rfl (by simp [wk_cons, wk_nil, look_cons, closedD, closedC, ]))
      · obtain ⟨m, rfl⟩ : ∃ m, k = m + 1 := ⟨k - 1, by omega⟩
        have hm : S[m]? = some S[m] := List.getElem?_eq_getElem (by omega)
        have hyat := Go.Dm.encS_at (insRowS_ahead (S := S) (R := l.drop (i + 1)) (x := x) (by omega) hm)
        have hsw := insRowS_swap (S := S) (R := l.drop (i + 1)) (x := x) (by omega) hm
        have hdr := drop_at hm
        have hdn := hdone (m + 1) hk hgt
        simp only [Nat.add_sub_cancel] at hdn
        generalize S[m] = y at hm hyat hsw hdr
        have q0 : decide ((0 : Int) < ((m + 1 : Nat) : Int)) = true := decide_eq_true (by omega)
        have w2 : IntKind.i64.wrap (((m + 1 : Nat) : Int) - 1) = m := by rw [wrap_i64 (by omega) (by omega)]; omega
        have hml : (m : Int) < (l.length : Int) := by omega
        have hm0 : (0 : Int) ≤ m := by omega
        have hJn : bltL x y = true → m ≤ i ∧ ∀ z ∈ S.drop m, bltL x z = true := fun h => ⟨by omega, fun z hz => by
          rw [hdr] at hz
          rcases List.mem_cons.1 hz with rfl | hz
          · exact h
          · exact hgt z hz⟩
        have hdn2 : bltL x y = false → insRowS S (l.drop (i + 1)) x (m + 1) = sortS (l.take (i + 1)) ++ l.drop (i + 1) := fun h => hdn (fun z hz _ => by rw [hm] at hz; cases hz; exact h) 
        have hsw2 : ((Go.Dm.encS (insRowS S (l.drop (i + 1)) x (m + 1))).set (m + 1) [.s y]).set m [.s x] = Go.Dm.encS (insRowS S (l.drop (i + 1)) x m) := by
          rw [encS_set, encS_set, hsw]
        have hll : m + 1 < (Go.Dm.encS (insRowS S (l.drop (i + 1)) x (m + 1))).length := by rw [encS_len]; omega
        have hll2 : m < (Go.Dm.encS (insRowS S (l.drop (i + 1)) x (m + 1))).length := by rw [encS_len]; omega
        have hyat2 : ((Go.Dm.encS (insRowS S (l.drop (i + 1)) x (m + 1))).set (m + 1) [.s y]).getD m [] = [.s y] := by
          rw [List.getD_eq_getElem?_getD, List.getElem?_set_ne (by omega), ← List.getD_eq_getElem?_getD]
          exact hyat
        have hP1 := PLift.up hJn
        have hP2 := PLift.up hdn2
        have hP3 := PLift.up hfin
        have hP4 := PLift.up hsw2
        clear hJn hdn2 hdn hdone hgt hsw hsw2 hrl hm hdr hfin hz
        cases c1 : bltL x y
        · have hdn3 := PLift.up (hP2.down c1)
          clear hP1 hP2 hP4
          repeat' (first | simp only [*, go_sem, Nat.reduceLT, Nat.reduceEqDiff, ↓reduceIte, ] | ((refine vc_drawn (id := 11) tabOK hmix [] [0,1,2,3,4,5,6,7,8,9,10,11,12,13] (by decide +kernel) ?_); (repeat' (first | (refine ds_nil ?_) | ((refine ds_one ?_ rfl rfl ?_ ?_); (rotate_left 1); (focus ((repeat' (first | simp only [*, go_sem, Nat.reduceLT, Nat.reduceEqDiff, ↓reduceIte, ] | ((with_reducible refine And.intro ?_ ?_); (focus (omega))))); exact rfl)); (simp only [putF_some]))))))
          exact qr_n (i + 1) hP3.down (by omega) (weak_mk rfl (by rw [hdn3.down]; rfl) rfl (by simp [wk_cons, wk_nil, look_cons, closedD, closedC, ]))
        · repeat' (first | simp only [*, go_sem, Nat.reduceLT, Nat.reduceEqDiff, ↓reduceIte, ] | ((refine vc_drawn (id := 11) tabOK hmix [] [0,1,2,3,4,5,6,7,8,9,10,11,12,13] (by decide +kernel) ?_); (repeat' (first | (refine ds_nil ?_) | ((refine ds_one ?_ rfl rfl ?_ ?_); (rotate_left 1); (focus ((repeat' (first | simp only [*, go_sem, Nat.reduceLT, Nat.reduceEqDiff, ↓reduceIte, ] | ((with_reducible refine And.intro ?_ ?_); (focus (omega))))); exact rfl)); (simp only [putF_some]))))) | ((refine vc_drawn (id := 13) tabOK hmix [15,17] [0,1,5,6,7,8,9,10,11,12,13,14,15,2,3,4,16,17] (by decide +kernel) ?_); (repeat' (first | (refine ds_nil ?_) | ((refine ds_chg ?_ ?_ rfl rfl rfl ?_ ?_); (rotate_left 2); (focus ((repeat' (first | simp only [*, go_sem, Nat.reduceLeDiff, Nat.reduceEqDiff, ↓reduceIte, List.length_set] | ((with_reducible refine And.intro ?_ ?_); (focus (omega))))); ((refine And.intro ?_ ?_ <;> exact rfl)))); (simp only [putF_none])) | ((refine ds_all ?_ rfl rfl rfl ?_ ?_); (rotate_left 1); (focus ((repeat' (first | exact allH_nil | refine allH_cons ?_ ?_)); (all_goals ((repeat' (first | simp only [*, go_sem, Nat.reduceLT, Nat.reduceEqDiff, ↓reduceIte, ] | ((with_reducible refine And.intro ?_ ?_); (focus (omega))))); (try (exact rfl)))))); (simp only [putF_some]))))))
          exact qr_n m (hP1.down c1) (by omega) (weak_mk rfl (by rw [hP4.down]; rfl) rfl (by simp [wk_cons, wk_nil, look_cons, closedD, closedC, ]))
    · have h1 : decide ((i : Int) < (l.length : Int)) = false := decide_eq_false (by omega)
      have e : sortS (l.take i) ++ l.drop i = sortS l := by
        rw [List.take_of_length_le (by omega), List.drop_of_length_le (by omega), List.append_nil]
      rw [e]
      have hsl : (sortS l).length = l.length := sortS_len l
      have hke : (sortS l).take l.length = sortS l := List.take_of_length_le (by omega)
      clear e
      repeat' (simp only [*, go_sem, Nat.reduceLT, Nat.reduceEqDiff, ↓reduceIte, ])
      rfl
end Go.Proofs.YtnbgaphhhjnjlaaGreatDoor
