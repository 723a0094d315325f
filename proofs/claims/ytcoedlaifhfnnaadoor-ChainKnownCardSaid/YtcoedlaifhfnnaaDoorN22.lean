/-
  Contracts: the names of a directory in layers; which layer says what shows.
-/
import Derived.Test.YtcoedlaifhfnnaaDoorN16
import Derived.Test.YtcoedlaifhfnnaaDoorN12
import Derived.Test.YtcoedlaifhfnnaaDoorD11
import Derived.Test.YtcoedlaifhfnnaaDoorLG
set_option linter.unusedSimpArgs false
set_option linter.unusedVariables false
namespace Go.Proofs.YtcoedlaifhfnnaaDoor
open Go Go.Dm Go.Proofs
set_option maxRecDepth 100000
set_option maxHeartbeats 8000000

def dirL (ls : List (List En)) (p : List UInt8) : Bool := p == [] || ((lookF ls p).2.2 && (lookF ls p).1.k == 2)
def namesL (ls : List (List En)) (p : List UInt8) : List (List UInt8) × Bool := if dirL ls p then (nmF ls p, true) else ([], false)

theorem chainNames_c {ls : List (List En)} {p : List UInt8} (hls : ls.length ≤ 1000) (h : ∀ l ∈ ls, OkE l) (hp : p.length ≤ 1000000) :
    DCalls Tryd.prog 5 [.c (.p (.sl 1 (encL ls))), .c (.p (.s p))] [] fun r h => r = .tup [.c (.p (.sl 1 (Go.Dm.encS (namesL ls p).1))), .c (.p (.b (namesL ls p).2))] ∧ h = [] := by
  have hcl := chainLook_c (ls := ls) (p := p) hls h hp
  have hce := fun (x : En) (hx : x.p.length ≤ 1000000) => chainLook_c (ls := ls) (p := x.p) hls h hx
  refine dcalls_wk ?_
  refine entS tabOK Tryd.func5 rfl rfl fun X0 hX => ?_
  simp only [Tryd.ntmps5, Tryd.f5, go_sem]
  refine swp_first tabOK hmix ?_
  repeat' (first | simp (maxSteps := 1000000) only [*, go_sem, Nat.reduceLT, Nat.reduceLeDiff, Nat.reduceEqDiff, ↓reduceIte, Nat.reduceAdd, Nat.reduceSub, Nat.reduceMul, Int.reduceLT, Int.reduceLE, Int.reduceAdd, Int.reduceSub, Int.reduceMul, Int.reduceNeg, Int.reduceToNat, Int.reduceEq, Int.reduceBEq, Int.reduceBNe, Nat.reduceBEq, beq_self_eq_true, bne_self_eq_false] | with_reducible refine vcond_split (fun _ => ?_) (fun _ => ?_) | with_reducible refine vg_split (fun _ => ?_) (fun _ => ?_) | ((with_reducible apply DCalls.frz); (focus exact rfl); (focus exact rfl)) | ((with_reducible refine And.intro ?_ ?_); (focus (first | omega | decide | assumption | (simp only [decide_eq_true_eq, decide_eq_false_iff_not] at *; omega)))))
  have hdl : dirL ls p = (p == [] || ((lookF ls p).2.2 && (lookF ls p).1.k == 2)) := rfl
  generalize hln : (lookF ls p).1 = n at hcl hdl
  generalize (lookF ls p).2.1 = w at hcl
  generalize (lookF ls p).2.2 = is at hcl hdl
  obtain ⟨nk, nm, nt, nd⟩ := n
  clear hln
  simp only at hdl
  unfold Nd.cv at hcl
  simp only at hcl
  cases hd : dirL ls p
  · rw [hd] at hdl
    have hr : namesL ls p = ([], false) := by unfold namesL; rw [hd]; rfl
    rw [hr]
    clear hce hr hd
    refine swp_vc tabOK hmix ?_
    cases hp0 : (p == [])
    · rw [hp0, Bool.false_or] at hdl
      have hp1 : (p != []) = true := by rw [bne, hp0]; rfl
      cases is
      · clear hdl
        repeat' (first | simp (maxSteps := 1000000) only [*, go_sem, Nat.reduceLT, Nat.reduceLeDiff, Nat.reduceEqDiff, ↓reduceIte, Nat.reduceAdd, Nat.reduceSub, Nat.reduceMul, Int.reduceLT, Int.reduceLE, Int.reduceAdd, Int.reduceSub, Int.reduceMul, Int.reduceNeg, Int.reduceToNat, Int.reduceEq, Int.reduceBEq, Int.reduceBNe, Nat.reduceBEq, beq_self_eq_true, bne_self_eq_false, Bool.not_true, Bool.not_false] | ((with_reducible refine useN (hcl) ?_ ?_ ?_); (focus exact rfl); (focus exact fun _ => rfl)) | with_reducible refine vcond_split (fun _ => ?_) (fun _ => ?_) | with_reducible refine vg_split (fun _ => ?_) (fun _ => ?_) | ((with_reducible apply DCalls.frz); (focus exact rfl); (focus exact rfl)) | ((with_reducible refine And.intro ?_ ?_); (focus (first | omega | decide | assumption | (simp only [decide_eq_true_eq, decide_eq_false_iff_not] at *; omega)))))
        all_goals simp [wkCs, wkC, wkP, wkD, encS_nil]
      · rw [Bool.true_and] at hdl
        have hk : (nk != 2) = true := by rw [bne, ← hdl]; rfl
        have hk0 : (nk == 2) = false := hdl.symm
        clear hdl
        repeat' (first | simp (maxSteps := 1000000) only [*, go_sem, Nat.reduceLT, Nat.reduceLeDiff, Nat.reduceEqDiff, ↓reduceIte, Nat.reduceAdd, Nat.reduceSub, Nat.reduceMul, Int.reduceLT, Int.reduceLE, Int.reduceAdd, Int.reduceSub, Int.reduceMul, Int.reduceNeg, Int.reduceToNat, Int.reduceEq, Int.reduceBEq, Int.reduceBNe, Nat.reduceBEq, beq_self_eq_true, bne_self_eq_false, Bool.not_true, Bool.not_false] | ((with_reducible refine useN (hcl) ?_ ?_ ?_); (focus exact rfl); (focus exact fun _ => rfl)) | with_reducible refine vcond_split (fun _ => ?_) (fun _ => ?_) | with_reducible refine vg_split (fun _ => ?_) (fun _ => ?_) | ((with_reducible apply DCalls.frz); (focus exact rfl); (focus exact rfl)) | ((with_reducible refine And.intro ?_ ?_); (focus (first | omega | decide | assumption | (simp only [decide_eq_true_eq, decide_eq_false_iff_not] at *; omega)))))
        all_goals simp [wkCs, wkC, wkP, wkD, encS_nil]
    · rw [hp0] at hdl; cases hdl
  · rw [hd] at hdl
    have hr : namesL ls p = (nmF ls p, true) := by unfold namesL; rw [hd]; rfl
    rw [hr]
    clear hr hd
    refine swp_join tabOK hmix (α := Unit) (fun _ => ⟨80, [(0, .c (.p (.sl 1 (encL ls)))), (1, .c (.p (.s p)))], []⟩) (fun _ => True) ?_ ?_
    · cases hp0 : (p == [])
      · rw [hp0, Bool.false_or] at hdl
        have hp1 : (p != []) = true := by rw [bne, hp0]; rfl
        have hdl2 := hdl.symm
        clear hdl
        rw [Bool.and_eq_true] at hdl2
        obtain ⟨rfl, hk0⟩ := hdl2
        have hk : (nk != 2) = false := by rw [bne, hk0]; rfl
        clear hce
        repeat' (first | simp (maxSteps := 1000000) only [*, go_sem, Nat.reduceLT, Nat.reduceLeDiff, Nat.reduceEqDiff, ↓reduceIte, Nat.reduceAdd, Nat.reduceSub, Nat.reduceMul, Int.reduceLT, Int.reduceLE, Int.reduceAdd, Int.reduceSub, Int.reduceMul, Int.reduceNeg, Int.reduceToNat, Int.reduceEq, Int.reduceBEq, Int.reduceBNe, Nat.reduceBEq, beq_self_eq_true, bne_self_eq_false, Bool.not_true, Bool.not_false] | ((with_reducible refine useN (hcl) ?_ ?_ ?_); (focus exact rfl); (focus exact fun _ => rfl)) | with_reducible refine vcond_split (fun _ => ?_) (fun _ => ?_) | with_reducible refine vg_split (fun _ => ?_) (fun _ => ?_) | ((with_reducible apply DCalls.frz); (focus exact rfl); (focus exact rfl)) | ((with_reducible refine And.intro ?_ ?_); (focus (first | omega | decide | assumption | (simp only [decide_eq_true_eq, decide_eq_false_iff_not] at *; omega)))))
        exact qj_n () trivial (weak_mk (by rw [hX]; rfl) rfl rfl (by simp [wk_cons, wk_nil, look_cons, closedD, closedC, renT, renD, renC, encT_nil, encS_nil, encC_nil]))
      · have hp1 : (p != []) = false := by rw [bne, hp0]; rfl
        clear hdl hce
        repeat' (first | simp (maxSteps := 1000000) only [*, go_sem, Nat.reduceLT, Nat.reduceLeDiff, Nat.reduceEqDiff, ↓reduceIte, Nat.reduceAdd, Nat.reduceSub, Nat.reduceMul, Int.reduceLT, Int.reduceLE, Int.reduceAdd, Int.reduceSub, Int.reduceMul, Int.reduceNeg, Int.reduceToNat, Int.reduceEq, Int.reduceBEq, Int.reduceBNe, Nat.reduceBEq, beq_self_eq_true, bne_self_eq_false, Bool.not_true, Bool.not_false] | ((with_reducible refine useN (hcl) ?_ ?_ ?_); (focus exact rfl); (focus exact fun _ => rfl)) | with_reducible refine vcond_split (fun _ => ?_) (fun _ => ?_) | with_reducible refine vg_split (fun _ => ?_) (fun _ => ?_) | ((with_reducible apply DCalls.frz); (focus exact rfl); (focus exact rfl)) | ((with_reducible refine And.intro ?_ ?_); (focus (first | omega | decide | assumption | (simp only [decide_eq_true_eq, decide_eq_false_iff_not] at *; omega)))))
        exact qj_n () trivial (weak_mk (by rw [hX]; rfl) rfl rfl (by simp [wk_cons, wk_nil, look_cons, closedD, closedC, renT, renD, renC, encT_nil, encS_nil, encC_nil]))
    rintro - -
    clear hcl
    clear hdl
    refine swp_vc tabOK hmix ?_
    repeat' (first | simp (maxSteps := 1000000) only [*, go_sem, Nat.reduceLT, Nat.reduceLeDiff, Nat.reduceEqDiff, ↓reduceIte, Nat.reduceAdd, Nat.reduceSub, Nat.reduceMul, Int.reduceLT, Int.reduceLE, Int.reduceAdd, Int.reduceSub, Int.reduceMul, Int.reduceNeg, Int.reduceToNat, Int.reduceEq, Int.reduceBEq, Int.reduceBNe, Nat.reduceBEq, beq_self_eq_true, bne_self_eq_false] | with_reducible refine vcond_split (fun _ => ?_) (fun _ => ?_) | with_reducible refine vg_split (fun _ => ?_) (fun _ => ?_) | ((with_reducible apply DCalls.frz); (focus exact rfl); (focus exact rfl)) | ((with_reducible refine And.intro ?_ ?_); (focus (first | omega | decide | assumption | (simp only [decide_eq_true_eq, decide_eq_false_iff_not] at *; omega)))))
    refine vc_virt tabOK hmix 9 1 rfl ?_
    refine loop_ren tabOK hmix (α := Nat × List (List UInt8)) (fun x => ⟨80, [(0, .c (.p (.sl 1 (encL ls)))), (1, .c (.p (.s p))), (35, .c (.p (.sl 1 (encL ls)))), (36, .c (.p (.i .i64 ls.length))), (37, .c (.p (.i .i64 x.1))), (9, .c (.own 0 0 x.2.length))], [.arr 1 (Go.Dm.encS x.2) false]⟩)
      (fun x => x.1 ≤ ls.length ∧ nmO ls p (ls.take x.1) = x.2) (fun x => ls.length - x.1) (0, []) ⟨Nat.zero_le _, rfl⟩ (.inl (weak_mk (by first | rfl | (rw [hX]; rfl)) rfl rfl (by simp [wk_cons, wk_nil, look_cons, closedD, closedC, renT, renD, renC, encT_nil, encS_nil, encC_nil]))) ?_
    rintro ⟨i, out⟩ ⟨hi, hout⟩
    simp only at hi hout
    have hol : out.length ≤ 1000000 := by
      have := nmO_len (ls := ls) (p := p) (l := ls.take i) fun x hx => (h x (List.mem_of_mem_take hx)).len
      rw [hout, List.length_take] at this
      omega
    by_cases hlt : i < ls.length
    · have hx : ls[i]? = some ls[i] := List.getElem?_eq_getElem hlt
      have hg := encL_at hx
      have hok := h _ (List.getElem_mem hlt)
      have h1 : decide ((i : Int) < (ls.length : Int)) = true := decide_eq_true (by omega)
      have hli : (i : Int) < (ls.length : Int) := by omega
      have hi0 : (0 : Int) ≤ i := by omega
      have w1 : IntKind.i64.wrap ((i : Int) + 1) = i + 1 := wrap_i64 (by omega) (by omega)
      have hnx := nmO_next (ls := ls) (p := p) hx
      rw [hout] at hnx
      generalize ls[i] = l at hx hg hok hnx
      have hll := hok.len
      have hN := PLift.up hnx
      clear hx hnx hout h hls
      repeat' (first | simp (maxSteps := 1000000) only [*, go_sem, Nat.reduceLT, Nat.reduceLeDiff, Nat.reduceEqDiff, ↓reduceIte, Nat.reduceAdd, Nat.reduceSub, Nat.reduceMul, Int.reduceLT, Int.reduceLE, Int.reduceAdd, Int.reduceSub, Int.reduceMul, Int.reduceNeg, Int.reduceToNat, Int.reduceEq, Int.reduceBEq, Int.reduceBNe, Nat.reduceBEq, beq_self_eq_true, bne_self_eq_false] | with_reducible refine vcond_split (fun _ => ?_) (fun _ => ?_) | with_reducible refine vg_split (fun _ => ?_) (fun _ => ?_) | ((with_reducible apply DCalls.frz); (focus exact rfl); (focus exact rfl)) | ((with_reducible refine And.intro ?_ ?_); (focus (first | omega | decide | assumption | (simp only [decide_eq_true_eq, decide_eq_false_iff_not] at *; omega)))))
      refine loop_ren tabOK hmix (α := Nat × List (List UInt8)) (fun x => ⟨80, [(0, .c (.p (.sl 1 (encL ls)))), (1, .c (.p (.s p))), (35, .c (.p (.sl 1 (encL ls)))), (36, .c (.p (.i .i64 ls.length))), (37, .c (.p (.i .i64 i))), (9, .c (.own 0 0 x.2.length)), (41, .c (.p (.sl 7 (encE l)))), (42, .c (.p (.i .i64 l.length))), (43, .c (.p (.i .i64 x.1)))], [.arr 1 (Go.Dm.encS x.2) false]⟩)
        (fun x => x.1 ≤ l.length ∧ out ++ nmL ls p (l.take x.1) = x.2) (fun x => l.length - x.1) (0, out) ⟨Nat.zero_le _, by simp [nmL]⟩ (.inl (weak_mk (by first | rfl | (rw [hX]; rfl)) rfl rfl (by simp [wk_cons, wk_nil, look_cons, closedD, closedC, renT, renD, renC, encT_nil, encS_nil, encC_nil]))) ?_
      rintro ⟨k, o2⟩ ⟨hk, ho2⟩
      simp only at hk ho2
      have ho2l : o2.length ≤ 2000000 := by
        have := nmL_len ls p (l.take k)
        rw [← ho2, List.length_append]
        rw [List.length_take] at this
        omega
      by_cases hkl : k < l.length
      · have hy : l[k]? = some l[k] := List.getElem?_eq_getElem hkl
        have hgy := encE_at hy
        have hyl := hok.plen _ (List.getElem_mem hkl)
        have hyn := hok.ne _ (List.getElem_mem hkl)
        have hny := nmL_next (ls := ls) (p := p) hy
        have hc := hce l[k] (by omega)
        have k1 : decide ((k : Int) < (l.length : Int)) = true := decide_eq_true (by omega)
        have kli : (k : Int) < (l.length : Int) := by omega
        have k0 : (0 : Int) ≤ k := by omega
        have w2 : IntKind.i64.wrap ((k : Int) + 1) = k + 1 := wrap_i64 (by omega) (by omega)
        generalize l[k] = y at hy hgy hyl hyn hny hc
        have hyp : (y.p == []) = false := by simpa using hyn
        have hyq : (y.p != []) = true := by rw [bne, hyp]; rfl
        have hb : nmP ls p y = ((lookF ls y.p).2.2 && (!(y.p == []) && dirOfR y.p == p)) := rfl
        generalize (lookF ls y.p).1 = n at hc
        generalize (lookF ls y.p).2.1 = w at hc
        generalize (lookF ls y.p).2.2 = is at hc hb
        obtain ⟨nk, nm, nt, nd⟩ := n
        rw [hyp] at hb
        clear hy hyn hce hok
        cases is
        · rw [Bool.false_and] at hb
          have hJ : k + 1 ≤ l.length ∧ out ++ nmL ls p (l.take (k + 1)) = o2 := ⟨by omega, by rw [hny, hb, ← ho2]; simp⟩
          have hP := PLift.up hJ
          clear hJ hny hb ho2
          repeat' (first | simp (maxSteps := 1000000) only [*, go_sem, Nat.reduceLT, Nat.reduceLeDiff, Nat.reduceEqDiff, ↓reduceIte, Nat.reduceAdd, Nat.reduceSub, Nat.reduceMul, Int.reduceLT, Int.reduceLE, Int.reduceAdd, Int.reduceSub, Int.reduceMul, Int.reduceNeg, Int.reduceToNat, Int.reduceEq, Int.reduceBEq, Int.reduceBNe, Nat.reduceBEq, beq_self_eq_true, bne_self_eq_false, Bool.not_true, Bool.not_false] | ((with_reducible refine useN (hc) ?_ ?_ ?_); (focus exact rfl); (focus exact fun _ => rfl)) | ((with_reducible refine useF (nameDir_c (p := y.p) (by omega)) ?_ ?_ ?_); (focus exact rfl); (focus exact rfl)) | ((with_reducible refine useF (nameBase_c (p := y.p) (by omega)) ?_ ?_ ?_); (focus exact rfl); (focus exact rfl)) | with_reducible refine vcond_split (fun _ => ?_) (fun _ => ?_) | with_reducible refine vg_split (fun _ => ?_) (fun _ => ?_) | ((with_reducible apply DCalls.frz); (focus exact rfl); (focus exact rfl)) | ((with_reducible refine And.intro ?_ ?_); (focus (first | omega | decide | assumption | (simp only [decide_eq_true_eq, decide_eq_false_iff_not] at *; omega)))))
          exact qr_n (k + 1, o2) hP.down (by simp only; omega) (weak_mk rfl rfl rfl (by simp [wk_cons, wk_nil, look_cons, closedD, closedC, renT, renD, renC, encT_nil, encS_nil, encC_nil]))
        · cases hdp : (dirOfR y.p == p)
          · rw [hdp] at hb
            have hJ : k + 1 ≤ l.length ∧ out ++ nmL ls p (l.take (k + 1)) = o2 := ⟨by omega, by rw [hny, hb, ← ho2]; simp⟩
            have hP := PLift.up hJ
            clear hJ hny hb ho2
            repeat' (first | simp (maxSteps := 1000000) only [*, go_sem, Nat.reduceLT, Nat.reduceLeDiff, Nat.reduceEqDiff, ↓reduceIte, Nat.reduceAdd, Nat.reduceSub, Nat.reduceMul, Int.reduceLT, Int.reduceLE, Int.reduceAdd, Int.reduceSub, Int.reduceMul, Int.reduceNeg, Int.reduceToNat, Int.reduceEq, Int.reduceBEq, Int.reduceBNe, Nat.reduceBEq, beq_self_eq_true, bne_self_eq_false, Bool.not_true, Bool.not_false] | ((with_reducible refine useN (hc) ?_ ?_ ?_); (focus exact rfl); (focus exact fun _ => rfl)) | ((with_reducible refine useF (nameDir_c (p := y.p) (by omega)) ?_ ?_ ?_); (focus exact rfl); (focus exact rfl)) | ((with_reducible refine useF (nameBase_c (p := y.p) (by omega)) ?_ ?_ ?_); (focus exact rfl); (focus exact rfl)) | with_reducible refine vcond_split (fun _ => ?_) (fun _ => ?_) | with_reducible refine vg_split (fun _ => ?_) (fun _ => ?_) | ((with_reducible apply DCalls.frz); (focus exact rfl); (focus exact rfl)) | ((with_reducible refine And.intro ?_ ?_); (focus (first | omega | decide | assumption | (simp only [decide_eq_true_eq, decide_eq_false_iff_not] at *; omega)))))
            exact qr_n (k + 1, o2) hP.down (by simp only; omega) (weak_mk rfl rfl rfl (by simp [wk_cons, wk_nil, look_cons, closedD, closedC, renT, renD, renC, encT_nil, encS_nil, encC_nil]))
          · rw [hdp] at hb
            have hJ : k + 1 ≤ l.length ∧ out ++ nmL ls p (l.take (k + 1)) = o2 ++ [baseF y.p] := ⟨by omega, by rw [hny, hb, ← ho2]; simp⟩
            have hP := PLift.up hJ
            clear hJ hny hb ho2
            repeat' (first | simp (maxSteps := 1000000) only [*, go_sem, Nat.reduceLT, Nat.reduceLeDiff, Nat.reduceEqDiff, ↓reduceIte, Nat.reduceAdd, Nat.reduceSub, Nat.reduceMul, Int.reduceLT, Int.reduceLE, Int.reduceAdd, Int.reduceSub, Int.reduceMul, Int.reduceNeg, Int.reduceToNat, Int.reduceEq, Int.reduceBEq, Int.reduceBNe, Nat.reduceBEq, beq_self_eq_true, bne_self_eq_false, Bool.not_true, Bool.not_false] | ((with_reducible refine useN (hc) ?_ ?_ ?_); (focus exact rfl); (focus exact fun _ => rfl)) | ((with_reducible refine useF (nameDir_c (p := y.p) (by omega)) ?_ ?_ ?_); (focus exact rfl); (focus exact rfl)) | ((with_reducible refine useF (nameBase_c (p := y.p) (by omega)) ?_ ?_ ?_); (focus exact rfl); (focus exact rfl)) | with_reducible refine vcond_split (fun _ => ?_) (fun _ => ?_) | with_reducible refine vg_split (fun _ => ?_) (fun _ => ?_) | ((with_reducible apply DCalls.frz); (focus exact rfl); (focus exact rfl)) | ((with_reducible refine And.intro ?_ ?_); (focus (first | omega | decide | assumption | (simp only [decide_eq_true_eq, decide_eq_false_iff_not] at *; omega)))))
            exact qr_ren (k + 1, o2 ++ [baseF y.p]) 0 4 hP.down (by simp only; omega) rfl rfl (weak_mk rfl rfl rfl (by simp [wk_cons, wk_nil, look_cons, closedD, closedC, renT, renD, renC, encT_nil, encS_nil, encC_nil]))
      · have k1 : decide ((k : Int) < (l.length : Int)) = false := decide_eq_false (by omega)
        rw [List.take_of_length_le (by omega)] at ho2
        have hP := PLift.up ho2
        clear hce hok ho2
        repeat' (first | simp (maxSteps := 1000000) only [*, go_sem, Nat.reduceLT, Nat.reduceLeDiff, Nat.reduceEqDiff, ↓reduceIte, Nat.reduceAdd, Nat.reduceSub, Nat.reduceMul, Int.reduceLT, Int.reduceLE, Int.reduceAdd, Int.reduceSub, Int.reduceMul, Int.reduceNeg, Int.reduceToNat, Int.reduceEq, Int.reduceBEq, Int.reduceBNe, Nat.reduceBEq, beq_self_eq_true, bne_self_eq_false] | with_reducible refine vcond_split (fun _ => ?_) (fun _ => ?_) | with_reducible refine vg_split (fun _ => ?_) (fun _ => ?_) | ((with_reducible apply DCalls.frz); (focus exact rfl); (focus exact rfl)) | ((with_reducible refine And.intro ?_ ?_); (focus (first | omega | decide | assumption | (simp only [decide_eq_true_eq, decide_eq_false_iff_not] at *; omega)))))
        exact qr_n (i + 1, o2) ⟨by simp only; omega, by rw [hN.down]; exact hP.down⟩ (by simp only; omega) (weak_mk rfl rfl rfl (by simp [wk_cons, wk_nil, look_cons, closedD, closedC, renT, renD, renC, encT_nil, encS_nil, encC_nil]))
    · have h1 : decide ((i : Int) < (ls.length : Int)) = false := decide_eq_false (by omega)
      rw [List.take_of_length_le (by omega)] at hout
      unfold nmF
      rw [hout]
      have hsl : (out.mergeSort fun x y => decide (x ≤ y)).length = out.length := List.length_mergeSort ..
      clear hout hce h
      repeat' (first | simp (maxSteps := 1000000) only [*, go_sem, Nat.reduceLT, Nat.reduceLeDiff, Nat.reduceEqDiff, ↓reduceIte, Nat.reduceAdd, Nat.reduceSub, Nat.reduceMul, Int.reduceLT, Int.reduceLE, Int.reduceAdd, Int.reduceSub, Int.reduceMul, Int.reduceNeg, Int.reduceToNat, Int.reduceEq, Int.reduceBEq, Int.reduceBNe, Nat.reduceBEq, beq_self_eq_true, bne_self_eq_false, List.set_cons_succ, List.set_cons_zero] | refine sort_k (id := 0) (ss := out) (by rfl) (by omega) ?_ | refine compact_k (id := 0) (ss := out.mergeSort fun x y => decide (x ≤ y)) (by rfl) (by omega) (by omega) ?_ | with_reducible refine vcond_split (fun _ => ?_) (fun _ => ?_) | with_reducible refine vg_split (fun _ => ?_) (fun _ => ?_) | ((with_reducible apply DCalls.frz); (focus exact rfl); (focus exact rfl)) | ((with_reducible refine And.intro ?_ ?_); (focus (first | omega | decide | assumption | (simp only [decide_eq_true_eq, decide_eq_false_iff_not] at *; omega)))))
      all_goals rw [List.take_left]
end Go.Proofs.YtcoedlaifhfnnaaDoor
