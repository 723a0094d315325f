import Derived.Test.YtjpmajeekikdhaaGreatDoorN12
import Derived.Test.YtjpmajeekikdhaaGreatDoorD1
import Derived.Test.YtjpmajeekikdhaaGreatDoorN6
import Derived.Test.YtjpmajeekikdhaaGreatDoorLA

section
/-
  Contracts of the document's layers: what makes one.
-/

set_option linter.unusedSimpArgs false
set_option linter.unusedVariables false
namespace Go.Proofs.YtjpmajeekikdhaaGreatDoor
open Go Go.Dm
set_option maxRecDepth 100000
set_option maxHeartbeats 8000000

theorem hasDir_c {t : List It} {p : List UInt8} (ht : t.length ≤ 1000000) : DCalls Tryz.prog 22 [.c (.p (.sl 5 (encT t))), .c (.p (.s p))] [] fun r h => r = .c (.p (.b (hasDirB t p))) ∧ h = [] := by
  have hdi := isDirR_c (t := t) (p := p) ht
  unfold hasDirB
  refine ent tabOK hmix Tryz.func22 rfl rfl fun X0 hX => ?_
  simp only [Tryz.f22, go_sem]
  cases hp : (p == [])
  · have hp1 : (p != []) = true := by rw [bne, hp]; rfl
    repeat' (first | simp only [*, go_sem, Nat.reduceLT, Nat.reduceEqDiff, ↓reduceIte, Bool.not_false] | ((with_reducible refine useF (hdi) ?_ ?_ ?_); (focus exact rfl); (focus exact rfl)))
  · have hp1 : (p != []) = false := by rw [bne, hp]; rfl
    repeat' (simp only [*, go_sem, Nat.reduceLT, Nat.reduceEqDiff, ↓reduceIte, Bool.not_true])

theorem isB_c {l : List (List UInt8)} {p : List UInt8} (hl : l.length ≤ 1000000) : DCalls Tryz.prog 26 [.c (.p (.sl 1 (Go.Dm.encS l))), .c (.p (.s p))] [] fun r h => r = .c (.p (.b (isB l p))) ∧ h = [] := by
  refine ent tabOK hmix Tryz.func26 rfl rfl fun X0 hX => ?_
  simp only [Tryz.f26, go_sem]
  repeat' (simp only [*, go_sem, Nat.reduceLT, ])
  refine loop_ren tabOK hmix (α := Nat) (fun k => ⟨18, [(0, .c (.p (.sl 1 (Go.Dm.encS l)))), (1, .c (.p (.s p))), (5, .c (.p (.i .i64 k)))], []⟩)
    (fun k => k ≤ l.length ∧ isB (l.drop k) p = isB l p) (fun k => l.length - k) 0 ⟨Nat.zero_le _, rfl⟩ (.inl (weak_mk (by rw [hX]; rfl) rfl rfl (by simp [wk_cons, wk_nil, look_cons, closedD, closedC, ]))) ?_
  rintro k ⟨hk, hi⟩
  by_cases hlt : k < l.length
  · have hx : l[k]? = some l[k] := List.getElem?_eq_getElem hlt
    have hg := encS_at hx
    have hd := drop_at hx
    have h1 : decide ((k : Int) < (l.length : Int)) = true := decide_eq_true (by omega)
    have w1 : IntKind.i64.wrap ((k : Int) + 1) = k + 1 := wrap_i64 (by omega) (by omega)
    have hki : (k : Int) < (l.length : Int) := by omega
    have hk0 : (0 : Int) ≤ k := by omega
    generalize l[k] = x at hx hg hd
    rw [hd] at hi
    unfold isB at hi
    rw [List.any_cons] at hi
    clear hd hx
    cases hb : (x == p)
    · rw [hb, Bool.false_or] at hi
      have hI := PLift.up hi
      clear hi
      repeat' (simp only [*, go_sem, Nat.reduceLT, Nat.reduceEqDiff, ↓reduceIte, ])
      exact qr_n (k + 1) ⟨by omega, hI.down⟩ (by omega) (weak_mk rfl rfl rfl (by simp [wk_cons, wk_nil, look_cons, closedD, closedC, ]))
    · rw [hb, Bool.true_or] at hi
      unfold isB
      rw [← hi]
      clear hi
      repeat' (simp only [*, go_sem, Nat.reduceLT, Nat.reduceEqDiff, ↓reduceIte, ])
  · have h1 : decide ((k : Int) < (l.length : Int)) = false := decide_eq_false (by omega)
    rw [List.drop_of_length_le (by omega)] at hi
    rw [← hi]
    clear hi
    repeat' (simp only [*, go_sem, Nat.reduceLT, Nat.reduceEqDiff, ↓reduceIte, ])
    all_goals rfl

theorem covered_c {t w : List It} {os : List (List UInt8)} {p : List UInt8} (hw : w.length ≤ 1000000) (ho : os.length ≤ 1000000) (hp : p.length ≤ 1000000) : DCalls Tryz.prog 28 [.c (.p (.sl 5 (encT t))), .c (.p (.sl 5 (encT w))), .c (.p (.sl 1 (Go.Dm.encS os))), .c (.p (.s p))] [] fun r h => r = .c (.p (.b (covM w os p))) ∧ h = [] := by
  have hdl := dir_le p
  refine ent tabOK hmix Tryz.func28 rfl rfl fun X0 hX => ?_
  simp only [Tryz.f28, go_sem]
  repeat' (first | simp only [*, go_sem, Nat.reduceLT, Nat.reduceEqDiff, ↓reduceIte, Nat.reduceAdd, ] | ((with_reducible refine useF (dirOfR_c (p := p) (by omega)) ?_ ?_ ?_); (focus exact rfl); (focus exact rfl)))
  refine loop_ren tabOK hmix (α := Nat × List UInt8) (fun x => ⟨36, [(1, .c (.p (.sl 5 (encT w)))), (2, .c (.p (.sl 1 (Go.Dm.encS os)))), (9, .c (.p (.s x.2)))], []⟩)
    (fun x => x.2.length ≤ x.1 ∧ x.1 ≤ p.length ∧ covF w os x.1 x.2 = covM w os p) (fun x => x.1) (p.length, dirOfR p) ⟨hdl, Nat.le_refl _, rfl⟩ (.inl (weak_mk (by rw [hX]; rfl) rfl rfl (by simp [wk_cons, wk_nil, look_cons, closedD, closedC, ]))) ?_
  rintro ⟨n, q⟩ ⟨hq, hn, hc⟩
  simp only at hq hn hc
  cases hq0 : (q == [])
  · have hq1 : (q != []) = true := by rw [bne, hq0]; rfl
    have hqn : q ≠ [] := by simpa using hq0
    obtain ⟨n, rfl⟩ : ∃ m, n = m + 1 := ⟨n - 1, by have := List.length_pos_iff.2 hqn; omega⟩
    have hdq : (dirOfR q).length ≤ n := by
      by_cases h : dirOfR q = []
      · rw [h]; exact Nat.zero_le _
      · have := dir_lt h; omega
    rw [covF_more hqn] at hc
    have hgt := getR_c (t := w) (p := q) hw
    have his := isB_c (l := os) (p := q) ho
    generalize hk2 : (((getR w q).getD nd0).k != 2) = k2 at hc
    generalize (getR w q).getD nd0 = y at hgt hk2
    generalize (getR w q).isSome = s at hgt hc
    generalize isB os q = b at his hc
    obtain ⟨yk, ym, yt, yd⟩ := y
    simp only at hk2
    cases s <;> cases k2 <;> cases b
    all_goals simp only [Bool.not_true, Bool.not_false, Bool.or_true, Bool.or_false, if_true, Bool.false_eq_true, if_false] at hc
    case true.false.false =>
      have hC := PLift.up hc
      clear hc
      repeat' (first | simp only [*, go_sem, Nat.reduceLT, Nat.reduceLeDiff, Nat.reduceEqDiff, ↓reduceIte, Nat.reduceAdd, Bool.not_true, Bool.not_false] | ((with_reducible refine useN (hgt) ?_ ?_ ?_); (focus exact rfl); (focus exact fun _ => rfl)) | ((with_reducible refine useF (his) ?_ ?_ ?_); (focus exact rfl); (focus exact rfl)) | ((with_reducible refine useF (dirOfR_c (p := q) (by omega)) ?_ ?_ ?_); (focus exact rfl); (focus exact rfl)))
      exact qr_n (n, dirOfR q) ⟨hdq, by simp only; omega, hC.down⟩ (by simp only; omega) (weak_mk rfl rfl rfl (by simp [wk_cons, wk_nil, look_cons, closedD, closedC, ]))
    all_goals rw [← hc]
    all_goals clear hc
    all_goals repeat' (first | simp only [*, go_sem, Nat.reduceLT, Nat.reduceLeDiff, Nat.reduceEqDiff, ↓reduceIte, Nat.reduceAdd, Bool.not_true, Bool.not_false] | ((with_reducible refine useN (hgt) ?_ ?_ ?_); (focus exact rfl); (focus exact fun _ => rfl)) | ((with_reducible refine useF (his) ?_ ?_ ?_); (focus exact rfl); (focus exact rfl)))
  · have hq1 : (q != []) = false := by rw [bne, hq0]; rfl
    have hqn : q = [] := eq_of_beq hq0
    subst hqn
    rw [covF_nil] at hc
    rw [← hc]
    clear hc
    repeat' (simp only [*, go_sem, Nat.reduceLT, Nat.reduceEqDiff, ↓reduceIte, beq_self_eq_true])

theorem enter_c {l : List En} {p : List UInt8} {k : Int} {o : Bool} {nk nm : Int} {nt : Nat} {nd : List UInt8} (hl : l.length ≤ 1000000) (hd : nd.length ≤ 140737488355328) : DCalls Tryz.prog 29 [.c (.p (.sl 7 (encE l))), .agg [.p (.s p), .p (.i .i64 k), .p (.b o), .p (.i .i64 nk), .p (.i .i64 nm), .p (.f nt), .p (.sl 1 (encB nd))]] [] fun r h => r = .c (.p (.sl 7 (encE (entM l ⟨p, k, o, ⟨nk, nm, nt, nd⟩⟩)))) ∧ h = [] := by
  have hm0 := entN_le l p
  unfold entM
  show DCalls _ _ _ _ fun r h => r = .c (.p (.sl 7 (encE (l.take (entN l p) ++ ⟨p, k, o, ⟨nk, nm, nt, nd⟩⟩ :: l.drop (entN l p))))) ∧ h = []
  refine ent tabOK hmix Tryz.func29 rfl rfl fun X0 hX => ?_
  simp only [Tryz.f29, go_sem]
  repeat' (simp only [*, go_sem, Nat.reduceLT, ↓reduceIte, ])
  refine loop_ren tabOK hmix (α := Nat) (fun j => ⟨37, [(0, .c (.p (.sl 7 (encE l)))), (3, .c (.ptr 0 0)), (5, .c (.p (.i .i64 j)))], [.box [.p (.s p), .p (.i .i64 k), .p (.b o), .p (.i .i64 nk), .p (.i .i64 nm), .p (.f nt), .p (.sl 1 (encB nd))]]⟩)
    (fun j => j ≤ entN l p) (fun j => l.length - j) 0 (Nat.zero_le _) (.inl (weak_mk (by rw [hX]; rfl) rfl rfl (by simp [wk_cons, wk_nil, look_cons, closedD, closedC, ]))) ?_
  intro j hj
  by_cases hlt : j < l.length
  · have hx : l[j]? = some l[j] := List.getElem?_eq_getElem hlt
    have hg := encE_at hx
    have hst := entN_step (p := p) hx hj
    have h1 : decide ((j : Int) < (l.length : Int)) = true := decide_eq_true (by omega)
    have w1 : IntKind.i64.wrap ((j : Int) + 1) = j + 1 := wrap_i64 (by omega) (by omega)
    generalize l[j] = x at hx hg hst
    cases hb : bltL x.p p
    · have he := hst.2 hb
      rw [← he]
      clear hst hx he
      have hji : (j : Int) ≤ (l.length : Int) := by omega
      repeat' (first | simp only [*, go_sem, Nat.reduceLT, Nat.reduceLeDiff, Nat.reduceEqDiff, ↓reduceIte, Nat.reduceAdd, Nat.reduceMul, Int.reduceLE, Int.reduceToNat, Nat.reduceBEq, ] | ((refine vc_drawn (id := 2) tabOK hmix [] [0,1,2,3,4,5,6,7,8,9,10,11,12,13] (by decide +kernel) ?_); (repeat' (first | (refine ds_nil ?_) | ((refine ds_one ?_ rfl rfl ?_ ?_); (rotate_left 1); (focus ((repeat' (first | simp only [*, go_sem, Nat.reduceLT, Nat.reduceEqDiff, ↓reduceIte, ] | ((with_reducible refine And.intro ?_ ?_); (focus (omega))))); exact rfl)); (simp only [putF_some]))))) | ((with_reducible refine And.intro ?_ ?_); (focus (first | omega | decide))))
      all_goals simp
      all_goals exact ⟨by omega, by omega, by omega, by omega, by omega, by omega, by rw [List.take_of_length_le (by simp; omega)]⟩
    · have he := hst.1 hb
      clear hst hx
      repeat' (first | simp only [*, go_sem, Nat.reduceLT, Nat.reduceEqDiff, ↓reduceIte, ] | ((refine vc_drawn (id := 2) tabOK hmix [] [0,1,2,3,4,5,6,7,8,9,10,11,12,13] (by decide +kernel) ?_); (repeat' (first | (refine ds_nil ?_) | ((refine ds_one ?_ rfl rfl ?_ ?_); (rotate_left 1); (focus ((repeat' (first | simp only [*, go_sem, Nat.reduceLT, Nat.reduceEqDiff, ↓reduceIte, ] | ((with_reducible refine And.intro ?_ ?_); (focus (omega))))); exact rfl)); (simp only [putF_some]))))))
      exact qr_n (j + 1) he (by omega) (weak_mk rfl rfl rfl (by simp [wk_cons, wk_nil, look_cons, closedD, closedC, ]))
  · have h1 : decide ((j : Int) < (l.length : Int)) = false := decide_eq_false (by omega)
    have he : j = entN l p := by omega
    rw [← he]
    have hji : (j : Int) ≤ (l.length : Int) := by omega
    clear he
    repeat' (first | simp only [*, go_sem, Nat.reduceLT, Nat.reduceLeDiff, Nat.reduceEqDiff, ↓reduceIte, Nat.reduceAdd, Nat.reduceMul, Int.reduceLE, Int.reduceToNat, Nat.reduceBEq, ] | ((refine vc_drawn (id := 2) tabOK hmix [] [0,1,2,3,4,5,6,7,8,9,10,11,12,13] (by decide +kernel) ?_); (repeat' (first | (refine ds_nil ?_) | ((refine ds_one ?_ rfl rfl ?_ ?_); (rotate_left 1); (focus ((repeat' (simp only [*, go_sem, Nat.reduceLT, Nat.reduceEqDiff, ↓reduceIte, ])); exact rfl)); (simp only [putF_some]))))) | ((with_reducible refine And.intro ?_ ?_); (focus (first | omega | decide))))
    all_goals simp
    all_goals exact ⟨by omega, by omega, by omega, by omega, by omega, by omega, by rw [List.take_of_length_le (by simp; omega)]⟩

theorem enter0_c {l : List En} {p : List UInt8} (hl : l.length ≤ 1000000) : DCalls Tryz.prog 29 [.c (.p (.sl 7 (encE l))), .agg [.p (.s p), .p (.i .i64 2), .p (.b false), .p (.i .i64 0), .p (.i .i64 0), .p (.f 0), .p .nil]] [] fun r h => r = .c (.p (.sl 7 (encE (entM l (goneE p))))) ∧ h = [] :=
  DCalls.wkargs (args' := [.c (.p (.sl 7 (encE l))), .agg [.p (.s p), .p (.i .i64 2), .p (.b false), .p (.i .i64 0), .p (.i .i64 0), .p (.f 0), .p (.sl 1 (encB []))]])
    ⟨.inl rfl, ⟨.inl rfl, .inl rfl, .inl rfl, .inl rfl, .inl rfl, .inl rfl, .inr ⟨rfl, 1, rfl⟩, True.intro⟩, True.intro⟩ (enter_c (nd := []) hl (by simp))
end Go.Proofs.YtjpmajeekikdhaaGreatDoor

end

section
/-
  Contracts of the document's layers: the layer that makes one tree of another.
-/

set_option linter.unusedSimpArgs false
set_option linter.unusedVariables false
namespace Go.Proofs.YtjpmajeekikdhaaGreatDoor
open Go Go.Dm
set_option maxRecDepth 100000
set_option maxHeartbeats 8000000

theorem refMake_c {t w : List It} (ht : OkT t) (hw : OkT w) : DCalls Tryz.prog 5 [.c (.p (.sl 5 (encT t))), .c (.p (.sl 5 (encT w)))] [] fun r h => r = .c (.p (.sl 7 (encE (makeF t w)))) ∧ h = [] := by
  have htl := ht.len
  have hwl := hw.len
  have htp := ht.plen
  have hwp := hw.plen
  have hosl := opqM_len t w
  have hnm := fun p => refNames_c (p := p) ht
  have hnl := fun p => namesF_len t p
  unfold makeF
  refine entS tabOK Tryz.func5 rfl rfl fun X0 hX => ?_
  simp only [Tryz.f5, go_sem]
  refine swp_first tabOK hmix ?_
  repeat' (simp only [*, go_sem, Nat.reduceLT, ])
  refine swp_first tabOK hmix ?_
  repeat' (simp only [*, go_sem, Nat.reduceLT, ])
  refine swp_join tabOK hmix (α := Unit) (fun _ => ⟨169, [(0, .c (.p (.sl 5 (encT t)))), (1, .c (.p (.sl 5 (encT w)))), (5, .c (.p (.sl 1 (Go.Dm.encS (opqM t w)))))], []⟩) (fun _ => True) ?_ ?_
  · repeat' (simp only [*, go_sem, Nat.reduceLT, ])
    refine vc_virt tabOK hmix 5 1 rfl ?_
    refine loop_ren tabOK hmix (α := Nat × List (List UInt8)) (fun x => ⟨169, [(0, .c (.p (.sl 5 (encT t)))), (1, .c (.p (.sl 5 (encT w)))), (6, .c (.p (.i .i64 x.1))), (5, .c (.own 0 0 x.2.length))], [.arr 1 (Go.Dm.encS x.2) false]⟩)
      (fun x => x.1 ≤ w.length ∧ x.2.length ≤ x.1 ∧ ((w.take x.1).filter (opqB t w)).map (fun y => y.p) = x.2) (fun x => w.length - x.1) (0, []) ⟨Nat.zero_le _, Nat.le_refl _, rfl⟩ (.inl (weak_mk (by rw [hX]; rfl) rfl rfl (by simp [wk_cons, wk_nil, look_cons, closedD, closedC, encS_nil]))) ?_
    rintro ⟨k, os⟩ ⟨hk, hol, hos⟩
    simp only at hk hol hos
    by_cases hlt : k < w.length
    · have hx : w[k]? = some w[k] := List.getElem?_eq_getElem hlt
      have hg := encT_at hx
      have h1 : decide ((k : Int) < (w.length : Int)) = true := decide_eq_true (by omega)
      have hki : (k : Int) < (w.length : Int) := by omega
      have hk0 : (0 : Int) ≤ k := by omega
      have w1 : IntKind.i64.wrap ((k : Int) + 1) = k + 1 := wrap_i64 (by omega) (by omega)
      have hnx := opqM_next (t := t) hx
      rw [hos] at hnx
      have hxp := hwp _ (List.getElem_mem hlt)
      generalize w[k] = x at hx hg hnx hxp
      have hhd := hasDir_c (t := t) (p := x.p) (by omega)
      have hna := hnm x.p
      have hnal : (namesF t x.p).length ≤ 120 := by rw [hnl]; exact Nat.le_trans (List.length_filter_le ..) htl
      have hkk : (x.n.k != 2) = !(x.n.k == 2) := rfl
      clear hnm hnl hos hx
      cases hgo : (x.n.k == 2 && (hasDirB t x.p && !decide (((namesF t x.p).length : Int) < 2)))
      · have hno : opqB t w x = false := by unfold opqB; rw [hgo, Bool.false_and]
        have hJ : k + 1 ≤ w.length ∧ os.length ≤ k + 1 ∧ ((w.take (k + 1)).filter (opqB t w)).map (fun y => y.p) = os := ⟨by omega, by omega, by rw [hnx, hno]; simp⟩
        clear hnx hno
        generalize namesF t x.p = nl at *
        cases c1 : (x.n.k == 2) <;> cases c2 : hasDirB t x.p <;> cases c3 : decide ((nl.length : Int) < 2)
        all_goals rw [c1, c2, c3] at hgo
        all_goals rw [c1] at hkk
        all_goals rw [c2] at hhd
        case true.true.false => cases hgo
        all_goals clear hgo
        all_goals repeat' (first | simp only [*, go_sem, Nat.reduceLT, Nat.reduceEqDiff, ↓reduceIte, Bool.not_true, Bool.not_false] | ((with_reducible refine useF (hhd) ?_ ?_ ?_); (focus exact rfl); (focus exact rfl)) | ((with_reducible refine useN (hna) ?_ ?_ ?_); (focus exact rfl); (focus exact fun _ => rfl)))
        all_goals exact qr_n (k + 1, os) hJ (by simp only; omega) (weak_mk rfl rfl rfl (by simp [wk_cons, wk_nil, look_cons, closedD, closedC, ]))
      · have hop : opqB t w x = !staysB t w x.p := by unfold opqB; rw [hgo, Bool.true_and]
        generalize namesF t x.p = nl at *
        simp only [Bool.and_eq_true, Bool.not_eq_true'] at hgo
        obtain ⟨c1, c2, c3⟩ := hgo
        rw [c1] at hkk
        rw [c2] at hhd
        repeat' (first | simp only [*, go_sem, Nat.reduceLT, Nat.reduceEqDiff, ↓reduceIte, Bool.not_true] | ((with_reducible refine useF (hhd) ?_ ?_ ?_); (focus exact rfl); (focus exact rfl)) | ((with_reducible refine useN (hna) ?_ ?_ ?_); (focus exact rfl); (focus exact fun _ => rfl)))
        refine loop_ren tabOK hmix (α := Nat × Bool) (fun y => ⟨169, [(0, .c (.p (.sl 5 (encT t)))), (1, .c (.p (.sl 5 (encT w)))), (6, .c (.p (.i .i64 k))), (5, .c (.own 0 0 os.length)), (7, .c (.p (.s x.p))), (8, .c (.p (.b y.2))), (9, .c (.p (.i .i64 y.1)))], [.arr 1 (Go.Dm.encS os) false]⟩)
          (fun y => y.1 ≤ t.length ∧ (y.2 || staysB (t.drop y.1) w x.p) = staysB t w x.p) (fun y => t.length - y.1) (0, false) ⟨Nat.zero_le _, rfl⟩ (.inl (weak_mk (by rw [hX]; rfl) rfl rfl (by simp [wk_cons, wk_nil, look_cons, closedD, closedC, ]))) ?_
        rintro ⟨j, st⟩ ⟨hj, hst⟩
        simp only at hj hst
        by_cases hjl : j < t.length
        · have hz : t[j]? = some t[j] := List.getElem?_eq_getElem hjl
          have hgz := encT_at hz
          have h2 : decide ((j : Int) < (t.length : Int)) = true := decide_eq_true (by omega)
          have hji : (j : Int) < (t.length : Int) := by omega
          have hj0 : (0 : Int) ≤ j := by omega
          have w2 : IntKind.i64.wrap ((j : Int) + 1) = j + 1 := wrap_i64 (by omega) (by omega)
          have hdz := drop_at hz
          have hzp := htp _ (List.getElem_mem hjl)
          generalize t[j] = z at hz hgz hdz hzp
          have hgt := getR_c (t := w) (p := z.p) (by omega)
          have hbl := belowR_c (p := x.p) (q := z.p) (by omega) (by omega)
          rw [hdz] at hst
          unfold staysB at hst
          rw [List.any_cons] at hst
          have hst2 : ((st || ((getR w z.p).isSome && belowR x.p z.p)) || staysB (t.drop (j + 1)) w x.p) = staysB t w x.p := by
            unfold staysB; rw [Bool.or_assoc]; exact hst
          clear hst hnx hop hz hdz
          generalize (getR w z.p).getD nd0 = n at hgt
          generalize (getR w z.p).isSome = ok at hgt hst2
          have hS := PLift.up hst2
          clear hst2
          cases st <;> cases ok <;> cases c5 : belowR x.p z.p
          all_goals rw [c5] at hS hbl
          all_goals repeat' (first | simp only [*, go_sem, Nat.reduceLT, Nat.reduceLeDiff, Nat.reduceEqDiff, ↓reduceIte, Nat.reduceAdd, ] | ((with_reducible refine useN (hgt) ?_ ?_ ?_); (focus exact rfl); (focus exact fun _ => rfl)) | ((with_reducible refine useF (hbl) ?_ ?_ ?_); (focus exact rfl); (focus exact rfl)))
          all_goals exact qr_n (j + 1, _) ⟨by simp only; omega, hS.down⟩ (by simp only; omega) (weak_mk rfl rfl rfl (by simp [wk_cons, wk_nil, look_cons, closedD, closedC, ]))
        · have h2 : decide ((j : Int) < (t.length : Int)) = false := decide_eq_false (by omega)
          rw [List.drop_of_length_le (by omega)] at hst
          have hst : st = staysB t w x.p := by rw [← hst]; simp [staysB]
          subst hst
          cases c4 : staysB t w x.p
          · rw [hop, c4, Bool.not_false, if_pos rfl] at hnx
            have hJ : k + 1 ≤ w.length ∧ (os ++ [x.p]).length ≤ k + 1 ∧ ((w.take (k + 1)).filter (opqB t w)).map (fun y => y.p) = os ++ [x.p] := ⟨by omega, by simp; omega, hnx⟩
            clear hnx hop
            repeat' (first | simp only [*, go_sem, Nat.reduceLT, Nat.reduceLeDiff, Nat.reduceEqDiff, ↓reduceIte, Nat.reduceAdd, Nat.reduceBEq, Bool.not_false] | ((with_reducible refine And.intro ?_ ?_); (focus (first | omega | decide))))
            exact qr_ren (k + 1, os ++ [x.p]) 0 2 hJ (by simp only; omega) rfl rfl (weak_mk rfl rfl rfl (by simp [wk_cons, wk_nil, look_cons, closedD, closedC, renT, renD, renC, ]))
          · rw [hop, c4, Bool.not_true, if_neg (by decide), List.append_nil] at hnx
            have hJ : k + 1 ≤ w.length ∧ os.length ≤ k + 1 ∧ ((w.take (k + 1)).filter (opqB t w)).map (fun y => y.p) = os := ⟨by omega, by omega, hnx⟩
            clear hnx hop
            repeat' (simp only [*, go_sem, Nat.reduceLT, Nat.reduceEqDiff, ↓reduceIte, Bool.not_true])
            exact qr_n (k + 1, os) hJ (by simp only; omega) (weak_mk rfl rfl rfl (by simp [wk_cons, wk_nil, look_cons, closedD, closedC, ]))
    · have h0 : decide ((k : Int) < (w.length : Int)) = false := decide_eq_false (by omega)
      rw [List.take_of_length_le (by omega)] at hos
      unfold opqM
      rw [hos]
      clear hos hnm hnl
      repeat' (simp only [*, go_sem, Nat.reduceLT, Nat.reduceEqDiff, ↓reduceIte, ])
      exact qj_data () 5 0 0 os.length trivial rfl (pvOf_row rfl (Go.Dm.encS_len _)) (weak_mk (by rw [hX]; rfl) rfl rfl (by simp [wk_cons, wk_nil, look_cons, closedD, closedC, ]))
  rintro - -
  clear hnm hnl
  generalize opqM t w = os at hosl ⊢
  refine swp_first tabOK hmix ?_
  repeat' (simp only [*, go_sem, Nat.reduceLT, ])
  refine swp_join tabOK hmix (α := Unit) (fun _ => ⟨169, [(0, .c (.p (.sl 5 (encT t)))), (1, .c (.p (.sl 5 (encT w)))), (5, .c (.p (.sl 1 (Go.Dm.encS os)))), (12, .c (.p (.sl 7 (encE (putsM t os w)))))], []⟩) (fun _ => True) ?_ ?_
  · repeat' (simp only [*, go_sem, Nat.reduceLT, ])
    refine vc_virt tabOK hmix 12 7 rfl ?_
    refine loop_ren tabOK hmix (α := Nat) (fun k => ⟨169, [(0, .c (.p (.sl 5 (encT t)))), (1, .c (.p (.sl 5 (encT w)))), (5, .c (.p (.sl 1 (Go.Dm.encS os)))), (13, .c (.p (.i .i64 k))), (12, .c (.own 0 0 (putsM t os (w.take k)).length))], [.arr 7 (encE (putsM t os (w.take k))) false]⟩)
      (fun k => k ≤ w.length) (fun k => w.length - k) 0 (Nat.zero_le _) (.inl (weak_mk (by rw [hX]; rfl) rfl rfl (by simp [wk_cons, wk_nil, look_cons, closedD, closedC, putsM]))) ?_
    intro k hk
    have hpl := putsM_len t os (w.take k)
    rw [List.length_take] at hpl
    by_cases hlt : k < w.length
    · have hx : w[k]? = some w[k] := List.getElem?_eq_getElem hlt
      have hg := encT_at hx
      have h1 : decide ((k : Int) < (w.length : Int)) = true := decide_eq_true (by omega)
      have hki : (k : Int) < (w.length : Int) := by omega
      have hk0 : (0 : Int) ≤ k := by omega
      have w1 : IntKind.i64.wrap ((k : Int) + 1) = k + 1 := wrap_i64 (by omega) (by omega)
      have hnx := putsM_next (t := t) (os := os) hx
      have hxp := hwp _ (List.getElem_mem hlt)
      have hxd := hw.dlen _ (List.getElem_mem hlt)
      generalize w[k] = x at hx hg hnx hxp hxd
      unfold putM at hnx
      generalize putsM t os (w.take k) = out at hnx hpl
      have hgt := getR_c (t := t) (p := x.p) (by omega)
      have his := isB_c (l := os) (p := x.p) (by omega)
      have hsm := sameNode_c (k := ((getR t x.p).getD nd0).k) (m := ((getR t x.p).getD nd0).m) (t := ((getR t x.p).getD nd0).t) (d := ((getR t x.p).getD nd0).d) (k' := x.n.k) (m' := x.n.m) (t' := x.n.t) (d' := x.n.d)
      rw [nd_eta, nd_eta] at hsm
      generalize (getR t x.p).getD nd0 = y at hgt hnx hsm
      generalize (getR t x.p).isSome = ok at hgt hnx
      have hN := PLift.up hnx
      clear hnx hx
      cases c1 : isB os x.p <;> cases ok <;> cases c2 : sameNd y x.n
      all_goals rw [c1, c2] at hN
      all_goals rw [c1] at his
      all_goals rw [c2] at hsm
      all_goals simp only [Bool.not_true, Bool.not_false, Bool.or_true, Bool.or_false, if_true, Bool.false_eq_true, if_false, List.append_nil] at hN
      all_goals repeat' (first | simp only [*, go_sem, Nat.reduceLT, Nat.reduceLeDiff, Nat.reduceEqDiff, ↓reduceIte, Nat.reduceAdd, Nat.reduceMul, Nat.reduceBEq, ] | ((with_reducible refine useN (hgt) ?_ ?_ ?_); (focus exact rfl); (focus exact fun _ => rfl)) | ((with_reducible refine useF (his) ?_ ?_ ?_); (focus exact rfl); (focus exact rfl)) | ((refine vc_drawn (id := 23) tabOK hmix [] [0,1,2,3,4,5,6,7,8,9,10,11] (by decide +kernel) ?_); (repeat' (first | (refine ds_nil ?_) | ((refine ds_one ?_ rfl rfl ?_ ?_); (rotate_left 1); (focus ((repeat' (first | simp only [*, go_sem, Nat.reduceLT, Nat.reduceLeDiff, Nat.reduceEqDiff, ↓reduceIte, Nat.reduceAdd, Bool.not_true, Bool.not_false] | ((with_reducible refine useF (hsm) ?_ ?_ ?_); (focus exact rfl); (focus exact rfl)))); exact rfl)); (simp only [putF_some]))))) | ((with_reducible refine And.intro ?_ ?_); (focus (first | omega | decide))))
      all_goals first
        | exact qr_n (k + 1) (by omega) (by omega) (weak_mk rfl (by rw [hN.down]; rfl) rfl (by simp [wk_cons, wk_nil, look_cons, closedD, closedC, hN.down]))
        | exact qr_ren (k + 1) 0 3 (by omega) (by omega) rfl rfl (weak_mk rfl (by rw [hN.down]; rfl) rfl (by simp [wk_cons, wk_nil, look_cons, closedD, closedC, renT, renD, renC, hN.down]))
    · have h0 : decide ((k : Int) < (w.length : Int)) = false := decide_eq_false (by omega)
      rw [List.take_of_length_le (by omega)] at hpl ⊢
      generalize putsM t os w = out at hpl ⊢
      repeat' (simp only [*, go_sem, Nat.reduceLT, Nat.reduceEqDiff, ↓reduceIte, ])
      exact qj_data () 12 0 0 out.length trivial rfl (pvOf_row rfl (encE_len _)) (weak_mk (by rw [hX]; rfl) rfl rfl (by simp [wk_cons, wk_nil, look_cons, closedD, closedC, ]))
  rintro - -
  have hpl := putsM_len t os w
  generalize putsM t os w = out0 at hpl ⊢
  refine swp_vc tabOK hmix ?_
  repeat' (simp only [*, go_sem, Nat.reduceLT, ])
  refine loop_ren tabOK hmix (α := Nat × List En) (fun x => ⟨169, [(0, .c (.p (.sl 5 (encT t)))), (1, .c (.p (.sl 5 (encT w)))), (5, .c (.p (.sl 1 (Go.Dm.encS os)))), (17, .c (.p (.i .i64 x.1))), (12, .c (.p (.sl 7 (encE x.2))))], []⟩)
    (fun x => x.1 ≤ t.length ∧ x.2.length ≤ w.length + x.1 ∧ (t.drop x.1).foldl (goneM w os) x.2 = t.foldl (goneM w os) out0) (fun x => t.length - x.1) (0, out0) ⟨Nat.zero_le _, hpl, rfl⟩ (.inl (weak_mk (by rw [hX]; rfl) rfl rfl (by simp [wk_cons, wk_nil, look_cons, closedD, closedC, ]))) ?_
  rintro ⟨k, out⟩ ⟨hk, hol, hf⟩
  simp only at hk hol hf
  by_cases hlt : k < t.length
  · have hx : t[k]? = some t[k] := List.getElem?_eq_getElem hlt
    have hg := encT_at hx
    have h1 : decide ((k : Int) < (t.length : Int)) = true := decide_eq_true (by omega)
    have hki : (k : Int) < (t.length : Int) := by omega
    have hk0 : (0 : Int) ≤ k := by omega
    have w1 : IntKind.i64.wrap ((k : Int) + 1) = k + 1 := wrap_i64 (by omega) (by omega)
    have hd := drop_at hx
    have hxp := htp _ (List.getElem_mem hlt)
    generalize t[k] = x at hx hg hd hxp
    rw [hd, List.foldl_cons] at hf
    unfold goneM at hf
    have hgt := getR_c (t := w) (p := x.p) (by omega)
    have hcv := covered_c (t := t) (w := w) (os := os) (p := x.p) (by omega) (by omega) (by omega)
    have hen := enter0_c (l := out) (p := x.p) (by omega)
    have hel := entM_len out (goneE x.p)
    generalize (getR w x.p).getD nd0 = y at hgt
    generalize (getR w x.p).isSome = ok at hgt hf
    clear hx hd
    cases ok <;> cases c1 : covM w os x.p
    all_goals rw [c1] at hf hcv
    case false.false =>
      have hF := PLift.up hf
      clear hf
      repeat' (first | simp only [*, go_sem, Nat.reduceLT, Nat.reduceLeDiff, Nat.reduceEqDiff, ↓reduceIte, Nat.reduceAdd, ] | ((with_reducible refine useN (hgt) ?_ ?_ ?_); (focus exact rfl); (focus exact fun _ => rfl)) | ((with_reducible refine useN (hcv) ?_ ?_ ?_); (focus exact rfl); (focus exact fun _ => rfl)) | ((with_reducible refine useN (hen) ?_ ?_ ?_); (focus exact rfl); (focus exact fun _ => rfl)))
      exact qr_n (k + 1, entM out (goneE x.p)) ⟨by simp only; omega, by simp only; omega, hF.down⟩ (by simp only; omega) (weak_mk rfl rfl rfl (by simp [wk_cons, wk_nil, look_cons, closedD, closedC, ]))
    all_goals have hF := PLift.up hf
    all_goals clear hf
    all_goals repeat' (first | simp only [*, go_sem, Nat.reduceLT, Nat.reduceLeDiff, Nat.reduceEqDiff, ↓reduceIte, Nat.reduceAdd, ] | ((with_reducible refine useN (hgt) ?_ ?_ ?_); (focus exact rfl); (focus exact fun _ => rfl)) | ((with_reducible refine useN (hcv) ?_ ?_ ?_); (focus exact rfl); (focus exact fun _ => rfl)))
    all_goals exact qr_n (k + 1, out) ⟨by simp only; omega, by simp only; omega, hF.down⟩ (by simp only; omega) (weak_mk rfl rfl rfl (by simp [wk_cons, wk_nil, look_cons, closedD, closedC, ]))
  · have h1 : decide ((k : Int) < (t.length : Int)) = false := decide_eq_false (by omega)
    rw [List.drop_of_length_le (by omega), List.foldl_nil] at hf
    rw [← hf]
    clear hf
    repeat' (simp only [*, go_sem, Nat.reduceLT, Nat.reduceEqDiff, ↓reduceIte, ])
end Go.Proofs.YtjpmajeekikdhaaGreatDoor

end
