/-
  The contract of the drawn tree, as a function.
-/
import Derived.Test.YtjpmajeekikdhaaGreatDoorD8
import Derived.Test.YtjpmajeekikdhaaGreatDoorSM
set_option linter.unusedSimpArgs false
set_option linter.unusedVariables false
namespace Go.Proofs.YtjpmajeekikdhaaGreatDoor
open Go Go.Dm
set_option maxRecDepth 100000
set_option maxHeartbeats 4000000

theorem byte47 (b : UInt8) : ((b.toNat : Int) == 47) = (b == 47) := by
  rw [Bool.eq_iff_iff]
  simp only [beq_iff_eq]
  constructor
  · intro h
    have h2 : b.toNat = 47 := by omega
    exact UInt8.toNat_inj.1 h2
  · rintro rfl
    rfl

theorem treeF_c {l : List RI} (hl : l.length ≤ 9223372036854775807) (hd : ∀ x ∈ l, x.n.d.length ≤ 9223372036854775807) (hdx : ∀ x ∈ l, x.n.x < 18446744073709551616) :
    DCalls Tryz.prog 6 [.c (.p (.sl 6 (Go.Dm.encI l)))] [] fun r h => r = .c (.p (.sl 5 (encT (treeF l)))) ∧ h = [] := by
  refine dcalls_wk ?_
  refine ent tabOK hmix Tryz.func6 rfl rfl fun X0 hX => ?_
  simp only [Tryz.f6, go_sem]
  repeat' (simp only [*, go_sem, Nat.reduceLT, ])
  refine vc_sl 3 5 rfl ?_
  refine loop_ren tabOK hmix (α := Nat × List It) (fun x => ⟨105, [(0, .c (.p (.sl 6 (Go.Dm.encI l)))), (3, .c (.p (.sl 5 (encT x.2)))), (4, .c (.p (.i .i64 x.1)))], []⟩)
    (fun x => x.1 ≤ l.length ∧ x.1 ≤ 30 ∧ (l.take x.1).foldl tree1 [] = x.2) (fun x => l.length - x.1) (0, []) ⟨Nat.zero_le _, Nat.zero_le _, rfl⟩ (.inl (weak_mk (by rw [hX]; rfl) rfl rfl (by simp [wk_cons, wk_nil, look_cons, closedD, closedC, encT_nil, ]))) ?_
  rintro ⟨i, t⟩ ⟨hi, hi2, htq⟩
  simp only at hi hi2 htq
  have ht : OkT t := htq ▸ trees_ok OkT.nil fun x hm => hdx x (List.take_subset _ _ hm)
  by_cases hlt : i < l.length
  · by_cases hl2 : i < 30
    · have hx : l[i]? = some l[i] := List.getElem?_eq_getElem hlt
      have hstep := trees_step (t := []) hx
      rw [htq] at hstep
      clear htq
      have hg := encI_at hx
      have h1 : decide ((i : Int) < (l.length : Int)) = true := decide_eq_true (by omega)
      have h30 : decide ((i : Int) < 30) = true := decide_eq_true (by omega)
      have w1 : IntKind.i64.wrap ((i : Int) + 1) = i + 1 := wrap_i64 (by omega) (by omega)
      have hxd := hd _ (List.mem_of_getElem? hx)
      have hxx := hdx _ (List.mem_of_getElem? hx)
      generalize l[i] = x at hx hg hstep hxd hxx
      have hpl := pathF_len x.p
      rw [show tree1 t x = tree2 (treeP (pathF x.p) (pathF x.p).length 0 t) (pathF x.p) (nodeF x.n) from rfl] at hstep
      obtain ⟨nn, hnq, ⟨hnn, hnt⟩, hnc⟩ : ∃ nn : Nd, nodeF x.n = nn ∧ (nn.d.length ≤ 60 ∧ nn.t < 18446744073709551616) ∧ DCalls Tryz.prog 21 [.agg (rnc x.n.k x.n.m x.n.t x.n.x x.n.d)] [] fun r h => r = .agg (ndc nn.k nn.m nn.t nn.d) ∧ h = [] :=
        ⟨nodeF x.n, rfl, ⟨nodeD_len x.n, nodeF_wf hxx⟩, nodeF_c hxd⟩
      rw [hnq] at hstep
      clear hnq
      have hSP := PLift.up hstep
      clear hstep
      repeat' (first | simp only [*, go_sem, Nat.reduceLT, Nat.reduceEqDiff, ↓reduceIte, ] | ((with_reducible refine useF (Path_c) ?_ ?_ ?_); (focus exact rfl); (focus exact rfl)) | ((with_reducible refine And.intro ?_ ?_); (focus (omega))))
      have hstep := hSP.down
      clear hSP
      generalize pathF x.p = p at hpl hstep ⊢
      obtain ⟨U, hUq⟩ : ∃ U, treeP p p.length 0 t = U := ⟨_, rfl⟩
      rw [hUq] at hstep
      have hSP := PLift.up hstep
      clear hstep
      refine loop_ren tabOK hmix (α := Nat × List It) (fun x => ⟨105, [(0, .c (.p (.sl 6 (Go.Dm.encI l)))), (3, .c (.p (.sl 5 (encT x.2)))), (4, .c (.p (.i .i64 i))), (5, .c (.p (.s p))), (6, .c (.p (.i .i64 x.1)))], []⟩)
        (fun x => x.1 ≤ p.length ∧ OkT x.2 ∧ treeP p (p.length - x.1) x.1 x.2 = U) (fun x => p.length - x.1) (0, t) ⟨Nat.zero_le _, ht, hUq⟩ (.inl (weak_mk (by rw [hX]; rfl) rfl rfl (by simp [wk_cons, wk_nil, look_cons, closedD, closedC, ]))) ?_
      clear ht hUq hi2
      rintro ⟨k, u⟩ ⟨hk, hu, hU⟩
      simp only at hk hu hU
      have hul := hu.len
      have hup : ∀ x ∈ u, x.p.length ≤ 9223372036854775807 := fun x hx => Nat.le_trans (hu.plen x hx) (by decide)
      by_cases hlk : k < p.length
      · have hpx : p[k]? = some p[k] := List.getElem?_eq_getElem hlk
        have hs := treeP_step (u := u) hpx
        rw [hU] at hs
        clear hU
        have hg2 := getD_at hpx
        have h2 : decide ((k : Int) < (p.length : Int)) = true := decide_eq_true (by omega)
        have w2 : IntKind.i64.wrap ((k : Int) + 1) = k + 1 := wrap_i64 (by omega) (by omega)
        have htk : (p.take k).length ≤ 11 := Nat.le_trans (List.length_take_le ..) (Nat.le_trans hk hpl)
        have h47 := byte47 p[k]
        generalize p[k] = b at hpx hg2 hs h47
        cases c1 : (b == 47)
        · rw [c1] at hs h47
          rw [if_neg (by simp)] at hs
          have hQ := PLift.up hs
          clear hs c1
          repeat' (first | simp only [*, go_sem, Nat.reduceLT, Nat.reduceEqDiff, ↓reduceIte, ] | ((with_reducible refine And.intro ?_ ?_); (focus (omega))))
          exact qr_n (k + 1, u) ⟨by omega, hu, hQ.down.symm⟩ (by simp only; omega) (weak_mk rfl rfl rfl (by simp [wk_cons, wk_nil, look_cons, closedD, closedC, ]))
        · rw [c1] at hs h47
          cases c2 : isDirR u (p.take k)
          · rw [c2] at hs
            rw [if_pos (by simp)] at hs
            cases c3 : (getR u (p.take k)).isSome
            · rw [c3, if_neg (by simp)] at hs
              cases c4 : ((putR u (p.take k) ⟨2, 493, 0, []⟩).2 == 0)
              · rw [show bothT u (putR u (p.take k) ⟨2, 493, 0, []⟩) = u by unfold bothT; rw [c4]; rfl] at hs
                have hQ := PLift.up hs
                clear hs c1
                repeat' (first | simp only [*, go_sem, Nat.reduceLT, Nat.reduceLeDiff, Nat.reduceEqDiff, ↓reduceIte, Nat.reduceAdd, Int.reduceLE, Int.reduceToNat, ] | ((with_reducible refine useN (isDirR_c (t := u) (by omega)) ?_ ?_ ?_); (focus exact rfl); (focus exact fun _ => rfl)) | ((with_reducible refine useN (getR_c (t := u) (by omega)) ?_ ?_ ?_); (focus exact rfl); (focus exact fun _ => rfl)) | ((with_reducible refine useN (putRn_c (t := u) (by omega) (by omega) hup) ?_ ?_ ?_); (focus exact rfl); (focus exact fun _ => rfl)) | ((with_reducible refine And.intro ?_ ?_); (focus (omega))))
                exact qr_n (k + 1, u) ⟨by omega, hu, hQ.down.symm⟩ (by simp only; omega) (weak_mk rfl rfl rfl (by simp [wk_cons, wk_nil, look_cons, closedD, closedC, ]))
              · rw [show bothT u (putR u (p.take k) ⟨2, 493, 0, []⟩) = (putR u (p.take k) ⟨2, 493, 0, []⟩).1 by unfold bothT; rw [c4]; rfl] at hs
                have hQ := PLift.up hs
                have hpk := hu.put (p := p.take k) (n := ⟨2, 493, 0, []⟩) (show (0 : Nat) < 18446744073709551616 by decide) (eq_of_beq c4)
                clear hs c1
                repeat' (first | simp only [*, go_sem, Nat.reduceLT, Nat.reduceLeDiff, Nat.reduceEqDiff, ↓reduceIte, Nat.reduceAdd, Int.reduceLE, Int.reduceToNat, ] | ((with_reducible refine useN (isDirR_c (t := u) (by omega)) ?_ ?_ ?_); (focus exact rfl); (focus exact fun _ => rfl)) | ((with_reducible refine useN (getR_c (t := u) (by omega)) ?_ ?_ ?_); (focus exact rfl); (focus exact fun _ => rfl)) | ((with_reducible refine useN (putRn_c (t := u) (by omega) (by omega) hup) ?_ ?_ ?_); (focus exact rfl); (focus exact fun _ => rfl)) | ((with_reducible refine And.intro ?_ ?_); (focus (omega))))
                exact qr_n (k + 1, _) ⟨by omega, hpk, hQ.down.symm⟩ (by simp only; omega) (weak_mk rfl rfl rfl (by simp [wk_cons, wk_nil, look_cons, closedD, closedC, ]))
            · rw [c3, if_pos rfl] at hs
              replace hs := hs.symm
              subst hs
              clear c1
              repeat' (first | simp only [*, go_sem, Nat.reduceLT, Nat.reduceLeDiff, Nat.reduceEqDiff, ↓reduceIte, Nat.reduceAdd, Int.reduceLE, Int.reduceToNat, ] | ((with_reducible refine useN (isDirR_c (t := u) (by omega)) ?_ ?_ ?_); (focus exact rfl); (focus exact fun _ => rfl)) | ((with_reducible refine useN (getR_c (t := u) (by omega)) ?_ ?_ ?_); (focus exact rfl); (focus exact fun _ => rfl)) | ((with_reducible refine useN (hnc) ?_ ?_ ?_); (focus exact rfl); (focus exact fun _ => rfl)) | ((with_reducible refine useN (putR_c (t := u) (by omega) (by omega) hup (by omega)) ?_ ?_ ?_); (focus exact rfl); (focus exact fun _ => rfl)) | with_reducible refine vcond_split (fun _ => ?_) (fun _ => ?_) | with_reducible refine vg_split (fun _ => ?_) (fun _ => ?_) | ((with_reducible refine And.intro ?_ ?_); (focus (omega))))
              all_goals (have hstep := hSP.down; simp only [tree2, bothT, Bool.and_true, Bool.and_false, Bool.false_and, Bool.false_eq_true, if_true, if_false, *] at hstep)
              all_goals (refine qr_n (i + 1, _) ⟨?_, ?_, hstep⟩ ?_ (weak_mk rfl rfl rfl ?_) <;> first | omega | (simp only; omega; done) | (simp [wk_cons, wk_nil, look_cons, closedD, closedC, ]; done) | (simp [wk_cons, wk_nil, look_cons, closedD, closedC, renT, renD, renC, encT_nil, encS_nil, encC_nil]; rfl))
          · rw [c2] at hs
            rw [if_neg (by simp)] at hs
            have hQ := PLift.up hs
            clear hs c1
            repeat' (first | simp only [*, go_sem, Nat.reduceLT, Nat.reduceEqDiff, ↓reduceIte, Int.reduceLE, Int.reduceToNat, ] | ((with_reducible refine useN (isDirR_c (t := u) (by omega)) ?_ ?_ ?_); (focus exact rfl); (focus exact fun _ => rfl)) | ((with_reducible refine And.intro ?_ ?_); (focus (omega))))
            exact qr_n (k + 1, u) ⟨by omega, hu, hQ.down.symm⟩ (by simp only; omega) (weak_mk rfl rfl rfl (by simp [wk_cons, wk_nil, look_cons, closedD, closedC, ]))
      · have h2 : decide ((k : Int) < (p.length : Int)) = false := decide_eq_false (by omega)
        rw [show p.length - k = 0 by omega, treeP] at hU
        subst hU
        repeat' (first | simp only [*, go_sem, Nat.reduceLT, Nat.reduceLeDiff, Nat.reduceEqDiff, ↓reduceIte, Nat.reduceAdd, ] | ((with_reducible refine useN (getR_c (t := u) (by omega)) ?_ ?_ ?_); (focus exact rfl); (focus exact fun _ => rfl)) | ((with_reducible refine useN (hnc) ?_ ?_ ?_); (focus exact rfl); (focus exact fun _ => rfl)) | ((with_reducible refine useN (putR_c (t := u) (by omega) (by omega) hup (by omega)) ?_ ?_ ?_); (focus exact rfl); (focus exact fun _ => rfl)) | with_reducible refine vcond_split (fun _ => ?_) (fun _ => ?_) | with_reducible refine vg_split (fun _ => ?_) (fun _ => ?_) | ((with_reducible refine And.intro ?_ ?_); (focus (omega))))
        all_goals (have hstep := hSP.down; simp only [tree2, bothT, Bool.and_true, Bool.and_false, Bool.false_and, Bool.false_eq_true, if_true, if_false, *] at hstep)
        all_goals (refine qr_n (i + 1, _) ⟨?_, ?_, hstep⟩ ?_ (weak_mk rfl rfl rfl ?_) <;> first | omega | (simp only; omega; done) | (simp [wk_cons, wk_nil, look_cons, closedD, closedC, ]; done) | (simp [wk_cons, wk_nil, look_cons, closedD, closedC, renT, renD, renC, encT_nil, encS_nil, encC_nil]; rfl))
    · have h1 : decide ((i : Int) < 30) = false := decide_eq_false (by omega)
      have h0 : decide ((i : Int) < (l.length : Int)) = true := decide_eq_true (by omega)
      rw [trees_end (.inr (by omega)) hi2] at htq
      subst htq
      repeat' (simp only [*, go_sem, Nat.reduceLT, Nat.reduceEqDiff, ↓reduceIte, ])
  · have h1 : decide ((i : Int) < (l.length : Int)) = false := decide_eq_false (by omega)
    rw [trees_end (.inl (by omega)) hi2] at htq
    subst htq
    repeat' (simp only [*, go_sem, Nat.reduceLT, Nat.reduceEqDiff, ↓reduceIte, ])

end Go.Proofs.YtjpmajeekikdhaaGreatDoor
