/-
  Chapter 14's law: what the lower layers say is the same whatever stands above.
-/
import Derived.Test.YtfiopamaiolfhaaGreatDoorN18
import Derived.Test.YtfiopamaiolfhaaGreatDoorN16
import Derived.Test.YtfiopamaiolfhaaGreatDoorG5
import Derived.Test.YtfiopamaiolfhaaGreatDoorC7
import Derived.Test.YtfiopamaiolfhaaGreatDoorLG
set_option linter.unusedSimpArgs false
set_option linter.unusedVariables false
namespace Go.Proofs.YtfiopamaiolfhaaGreatDoor
open Go Go.Dm Go.Proofs
set_option maxRecDepth 100000
set_option maxHeartbeats 8000000

theorem encTs_at {t : List (List It)} {k : Nat} {x : List It} (h : t[k]? = some x) : (encTs t).getD k [] = [.sl 5 (encT x)] := by
  simp only [encTs, List.getD_eq_getElem?_getD, List.getElem?_map, h]; rfl
theorem chainDeep_law {l : List (List RI)} {u : List (List RU)} (hl : smallII l) (hu : smallUU u) :
    DCalls Tryz.prog 4 [.c (.p (.sl 1 (encII l))), .c (.p (.sl 1 (encUU u)))] [] fun r h => r = .c (.p (.b true)) ∧ h = [] := by
  refine entS tabOK Tryz.func4 rfl rfl fun X0 hX => ?_
  simp only [Tryz.ntmps4, Tryz.f4, go_sem]
  refine swp_first tabOK hmix ?_
  repeat' (first | simp (maxSteps := 1000000) only [*, go_sem, Nat.reduceLT, Nat.reduceLeDiff, Nat.reduceEqDiff, ↓reduceIte, Nat.reduceAdd, Nat.reduceSub, Nat.reduceMul, Int.reduceLT, Int.reduceLE, Int.reduceAdd, Int.reduceSub, Int.reduceMul, Int.reduceNeg, Int.reduceToNat, Int.reduceEq, Int.reduceBEq, Int.reduceBNe, Nat.reduceBEq, beq_self_eq_true, bne_self_eq_false] | with_reducible refine vcond_split (fun _ => ?_) (fun _ => ?_) | with_reducible refine vg_split (fun _ => ?_) (fun _ => ?_) | ((with_reducible apply DCalls.frz); (focus exact rfl); (focus exact rfl)) | ((with_reducible refine And.intro ?_ ?_); (focus (first | omega | decide | assumption | (simp only [decide_eq_true_eq, decide_eq_false_iff_not] at *; omega)))))
  refine swp_first tabOK hmix ?_
  repeat' (first | simp (maxSteps := 1000000) only [*, go_sem, Nat.reduceLT, Nat.reduceLeDiff, Nat.reduceEqDiff, ↓reduceIte, Nat.reduceAdd, Nat.reduceSub, Nat.reduceMul, Int.reduceLT, Int.reduceLE, Int.reduceAdd, Int.reduceSub, Int.reduceMul, Int.reduceNeg, Int.reduceToNat, Int.reduceEq, Int.reduceBEq, Int.reduceBNe, Nat.reduceBEq, beq_self_eq_true, bne_self_eq_false] | with_reducible refine vcond_split (fun _ => ?_) (fun _ => ?_) | with_reducible refine vg_split (fun _ => ?_) (fun _ => ?_) | ((with_reducible apply DCalls.frz); (focus exact rfl); (focus exact rfl)) | ((with_reducible refine And.intro ?_ ?_); (focus (first | omega | decide | assumption | (simp only [decide_eq_true_eq, decide_eq_false_iff_not] at *; omega)))))
  refine useNE (C := fun ts : List (List It) => ts.length ≤ 6 ∧ ∀ t ∈ ts, OkT t) (e := fun ts => .tup [.c (.p (.sl 1 (encL (mksF [] ts)))), .c (.p (.sl 1 (encTs ts)))]) (layers_c hl hu) rfl (fun _ _ _ => rfl) fun ts hts => ?_
  obtain ⟨htl, hok⟩ := hts
  have hxl := mksF_len ts []
  have hxo := mksF_ok OkT.nil hok
  have hlen := encTs_len ts
  clear hl hu
  repeat' (first | simp (maxSteps := 1000000) only [*, go_sem, Nat.reduceLT, Nat.reduceLeDiff, Nat.reduceEqDiff, ↓reduceIte, Nat.reduceAdd, Nat.reduceSub, Nat.reduceMul, Int.reduceLT, Int.reduceLE, Int.reduceAdd, Int.reduceSub, Int.reduceMul, Int.reduceNeg, Int.reduceToNat, Int.reduceEq, Int.reduceBEq, Int.reduceBNe, Nat.reduceBEq, beq_self_eq_true, bne_self_eq_false] | with_reducible refine vcond_split (fun _ => ?_) (fun _ => ?_) | with_reducible refine vg_split (fun _ => ?_) (fun _ => ?_) | ((with_reducible apply DCalls.frz); (focus exact rfl); (focus exact rfl)) | ((with_reducible refine And.intro ?_ ?_); (focus (first | omega | decide | assumption | (simp only [decide_eq_true_eq, decide_eq_false_iff_not] at *; omega)))))
  refine swp_first tabOK hmix ?_
  repeat' (first | simp (maxSteps := 1000000) only [*, go_sem, Nat.reduceLT, Nat.reduceLeDiff, Nat.reduceEqDiff, ↓reduceIte, Nat.reduceAdd, Nat.reduceSub, Nat.reduceMul, Int.reduceLT, Int.reduceLE, Int.reduceAdd, Int.reduceSub, Int.reduceMul, Int.reduceNeg, Int.reduceToNat, Int.reduceEq, Int.reduceBEq, Int.reduceBNe, Nat.reduceBEq, beq_self_eq_true, bne_self_eq_false, Bool.not_true, Bool.not_false] | ((with_reducible refine useF (known14_c) ?_ ?_ ?_); (focus exact rfl); (focus exact rfl)) | with_reducible refine vcond_split (fun _ => ?_) (fun _ => ?_) | with_reducible refine vg_split (fun _ => ?_) (fun _ => ?_) | ((with_reducible apply DCalls.frz); (focus exact rfl); (focus exact rfl)) | ((with_reducible refine And.intro ?_ ?_); (focus (first | omega | decide | assumption | (simp only [decide_eq_true_eq, decide_eq_false_iff_not] at *; omega)))))
  refine swp_join tabOK hmix (α := Unit) (fun _ => ⟨84, [], []⟩) (fun _ => True) ?_ ?_
  · repeat' (first | simp (maxSteps := 1000000) only [*, go_sem, Nat.reduceLT, Nat.reduceLeDiff, Nat.reduceEqDiff, ↓reduceIte, Nat.reduceAdd, Nat.reduceSub, Nat.reduceMul, Int.reduceLT, Int.reduceLE, Int.reduceAdd, Int.reduceSub, Int.reduceMul, Int.reduceNeg, Int.reduceToNat, Int.reduceEq, Int.reduceBEq, Int.reduceBNe, Nat.reduceBEq, beq_self_eq_true, bne_self_eq_false] | with_reducible refine vcond_split (fun _ => ?_) (fun _ => ?_) | with_reducible refine vg_split (fun _ => ?_) (fun _ => ?_) | ((with_reducible apply DCalls.frz); (focus exact rfl); (focus exact rfl)) | ((with_reducible refine And.intro ?_ ?_); (focus (first | omega | decide | assumption | (simp only [decide_eq_true_eq, decide_eq_false_iff_not] at *; omega)))))
    refine loop_renS (α := Nat) (fun i => ⟨84, [(5, .c (.p (.sl 1 (encL (mksF [] ts))))), (6, .c (.p (.sl 1 (encTs ts)))), (7, .c (.p (.i .i64 i)))], []⟩)
      (fun i => i ≤ ts.length) (fun i => ts.length - i) 0 (Nat.zero_le _) (.inl (weak_mk (by rw [hX]; rfl) rfl rfl (by simp [wk_cons, wk_nil, look_cons, closedD, closedC, renT, renD, renC, encT_nil, encS_nil, encC_nil]))) ?_
    intro i hi
    by_cases hlt : i < ts.length
    · have hx : ts[i]? = some ts[i] := List.getElem?_eq_getElem hlt
      have hw := hok _ (List.getElem_mem hlt)
      have hg := encTs_at hx
      have h1 : decide ((i : Int) < (ts.length : Int)) = true := decide_eq_true (by omega)
      have hli : (i : Int) < (ts.length : Int) := by omega
      have hi0 : (0 : Int) ≤ i := by omega
      have w1 : IntKind.i64.wrap ((i : Int) + 1) = ((i + 1 : Nat) : Int) := by rw [wrap_i64 (by omega) (by omega)]; omega
      have hi1 : ((i + 1 : Nat) : Int) ≤ (ts.length : Int) := by omega
      have hi2 : (0 : Int) ≤ ((i + 1 : Nat) : Int) := by omega
      have htk := mksF_take ts [] (i + 1)
      have hfm := fold_mks (ws := ts.take (i + 1)) OkT.nil fun w h => hok w (List.mem_of_mem_take h)
      rw [lastT_take hx] at hfm
      have hlo : ∀ y ∈ mksF [] (ts.take (i + 1)), OkE y := mksF_ok OkT.nil fun w h => hok w (List.mem_of_mem_take h)
      have hll : (mksF [] (ts.take (i + 1))).length = i + 1 := by rw [mksF_len, List.length_take]; omega
      generalize ts[i] = w at hx hw hg hfm
      generalize hls : mksF [] (ts.take (i + 1)) = ls at hfm hlo hll htk
      have hfo := chainFold_c (ls := ls) (by omega) hlo
      rw [hfm] at hfo
      simp only at hfo
      have hwl := hw.len
      have hsT := sameT_c (a := w) (by omega)
      have hlk := fun (p : List UInt8) => look_who hlo (by rw [hfm]) p
      rw [hfm] at hlk
      simp only at hlk
      have hcl := fun (p : List UInt8) (hp : p.length ≤ 1000000) => chainLook_c (ls := ls) (p := p) (by omega) hlo hp
      have hwho : ∀ p, (lookF ls p).2.2 = true → (lookF ls p).2.1 < i + 1 := fun p h => by
        by_cases h0 : p = []
        · subst h0
          rw [show lookF ls [] = (nd0, 0, false) from lookN_nil ls ls.length] at h; cases h
        · have := look_all hlo (by rw [hfm]) h0
          cases hgp : getR (foldG [] ls).1 p with
          | none => rw [hgp] at this; simp only at this; rw [this] at h; cases h
          | some n => rw [hgp] at this; obtain ⟨k, k1, k2, _⟩ := this; rw [k2]; simp only; omega
      have hself := fun (y : It) (hy : y ∈ w) => getR_self hw.srt hy
      clear hfm hls hok hxo hlo hx htl
      refine swp_first tabOK hmix ?_
      repeat' (first | simp (maxSteps := 1000000) only [*, go_sem, Nat.reduceLT, Nat.reduceLeDiff, Nat.reduceEqDiff, ↓reduceIte, Nat.reduceAdd, Nat.reduceSub, Nat.reduceMul, Int.reduceLT, Int.reduceLE, Int.reduceAdd, Int.reduceSub, Int.reduceMul, Int.reduceNeg, Int.reduceToNat, Int.reduceEq, Int.reduceBEq, Int.reduceBNe, Nat.reduceBEq, beq_self_eq_true, bne_self_eq_false] | with_reducible refine vcond_split (fun _ => ?_) (fun _ => ?_) | with_reducible refine vg_split (fun _ => ?_) (fun _ => ?_) | ((with_reducible apply DCalls.frz); (focus exact rfl); (focus exact rfl)) | ((with_reducible refine And.intro ?_ ?_); (focus (first | omega | decide | assumption | (simp only [decide_eq_true_eq, decide_eq_false_iff_not] at *; omega)))))
      refine swp_seq_block ?_
      refine swp_first tabOK hmix ?_
      repeat' (first | simp (maxSteps := 1000000) only [*, go_sem, Nat.reduceLT, Nat.reduceLeDiff, Nat.reduceEqDiff, ↓reduceIte, Nat.reduceAdd, Nat.reduceSub, Nat.reduceMul, Int.reduceLT, Int.reduceLE, Int.reduceAdd, Int.reduceSub, Int.reduceMul, Int.reduceNeg, Int.reduceToNat, Int.reduceEq, Int.reduceBEq, Int.reduceBNe, Nat.reduceBEq, beq_self_eq_true, bne_self_eq_false] | ((with_reducible refine useN (hfo) ?_ ?_ ?_); (focus exact rfl); (focus exact fun _ => rfl)) | with_reducible refine vcond_split (fun _ => ?_) (fun _ => ?_) | with_reducible refine vg_split (fun _ => ?_) (fun _ => ?_) | ((with_reducible apply DCalls.frz); (focus exact rfl); (focus exact rfl)) | ((with_reducible refine And.intro ?_ ?_); (focus (first | omega | decide | assumption | (simp only [decide_eq_true_eq, decide_eq_false_iff_not] at *; omega)))))
      refine swp_first tabOK hmix ?_
      repeat' (first | simp (maxSteps := 1000000) only [*, go_sem, Nat.reduceLT, Nat.reduceLeDiff, Nat.reduceEqDiff, ↓reduceIte, Nat.reduceAdd, Nat.reduceSub, Nat.reduceMul, Int.reduceLT, Int.reduceLE, Int.reduceAdd, Int.reduceSub, Int.reduceMul, Int.reduceNeg, Int.reduceToNat, Int.reduceEq, Int.reduceBEq, Int.reduceBNe, Nat.reduceBEq, beq_self_eq_true, bne_self_eq_false, Bool.not_true, Bool.not_false] | ((with_reducible refine useN (hsT) ?_ ?_ ?_); (focus exact rfl); (focus exact fun _ => rfl)) | with_reducible refine vcond_split (fun _ => ?_) (fun _ => ?_) | with_reducible refine vg_split (fun _ => ?_) (fun _ => ?_) | ((with_reducible apply DCalls.frz); (focus exact rfl); (focus exact rfl)) | ((with_reducible refine And.intro ?_ ?_); (focus (first | omega | decide | assumption | (simp only [decide_eq_true_eq, decide_eq_false_iff_not] at *; omega)))))
      clear hfo hsT
      refine swp_vc tabOK hmix ?_
      repeat' (first | simp (maxSteps := 1000000) only [*, go_sem, Nat.reduceLT, Nat.reduceLeDiff, Nat.reduceEqDiff, ↓reduceIte, Nat.reduceAdd, Nat.reduceSub, Nat.reduceMul, Int.reduceLT, Int.reduceLE, Int.reduceAdd, Int.reduceSub, Int.reduceMul, Int.reduceNeg, Int.reduceToNat, Int.reduceEq, Int.reduceBEq, Int.reduceBNe, Nat.reduceBEq, beq_self_eq_true, bne_self_eq_false] | with_reducible refine vcond_split (fun _ => ?_) (fun _ => ?_) | with_reducible refine vg_split (fun _ => ?_) (fun _ => ?_) | ((with_reducible apply DCalls.frz); (focus exact rfl); (focus exact rfl)) | ((with_reducible refine And.intro ?_ ?_); (focus (first | omega | decide | assumption | (simp only [decide_eq_true_eq, decide_eq_false_iff_not] at *; omega)))))
      refine loop_ren tabOK hmix (α := Nat) (fun k => ⟨84, [(5, .c (.p (.sl 1 (encL (mksF [] ts))))), (6, .c (.p (.sl 1 (encTs ts)))), (7, .c (.p (.i .i64 i))), (8, .c (.p (.sl 5 (encT w)))), (10, .c (.p (.i .i64 k)))], []⟩)
        (fun k => k ≤ w.length) (fun k => w.length - k) 0 (Nat.zero_le _) (.inl (weak_mk (by first | rfl | (rw [hX]; rfl)) rfl rfl (by simp [wk_cons, wk_nil, look_cons, closedD, closedC, renT, renD, renC, encT_nil, encS_nil, encC_nil]))) ?_
      intro k hk
      by_cases hkl : k < w.length
      · have hy : w[k]? = some w[k] := List.getElem?_eq_getElem hkl
        have hgy := encT_at hy
        have hs := hself _ (List.getElem_mem hkl)
        have hq := hlk w[k].p
        rw [hs] at hq
        simp only [Option.isSome_some, Option.getD_some] at hq
        have hpl := hw.plen _ (List.getElem_mem hkl)
        have hc := hcl w[k].p (by omega)
        have hwh := hwho w[k].p hq.1
        rw [hq.1, hq.2.1] at hc
        generalize (lookF ls w[k].p).2.1 = who at hc hwh
        have k1 : decide ((k : Int) < (w.length : Int)) = true := decide_eq_true (by omega)
        have kli : (k : Int) < (w.length : Int) := by omega
        have k0 : (0 : Int) ≤ k := by omega
        have w2 : IntKind.i64.wrap ((k : Int) + 1) = k + 1 := wrap_i64 (by omega) (by omega)
        have g1 : decide ((who : Int) > (i : Int)) = false := decide_eq_false (by omega)
        have g2 : decide ((i : Int) < (who : Int)) = false := decide_eq_false (by omega)
        generalize w[k] = y at hgy hc
        obtain ⟨yp, ⟨yk, ym, yt, yd⟩⟩ := y
        have hsn := sameNode_c (k := yk) (m := ym) (t := yt) (d := yd) (k' := yk) (m' := ym) (t' := yt) (d' := yd)
        rw [sameNd_refl] at hsn
        clear hself hlk hcl hwho hs hq hy hw
        unfold Nd.cv at hc
        unfold ndc at hsn
        repeat' (first | simp (maxSteps := 1000000) only [*, go_sem, Nat.reduceLT, Nat.reduceLeDiff, Nat.reduceEqDiff, ↓reduceIte, Nat.reduceAdd, Nat.reduceSub, Nat.reduceMul, Int.reduceLT, Int.reduceLE, Int.reduceAdd, Int.reduceSub, Int.reduceMul, Int.reduceNeg, Int.reduceToNat, Int.reduceEq, Int.reduceBEq, Int.reduceBNe, Nat.reduceBEq, beq_self_eq_true, bne_self_eq_false, Bool.not_true, Bool.not_false, encL_take] | ((with_reducible refine useN (hc) ?_ ?_ ?_); (focus exact rfl); (focus exact fun _ => rfl)) | ((with_reducible refine useF (hsn) ?_ ?_ ?_); (focus exact rfl); (focus exact rfl)) | ((refine vc_drawn (id := 13) tabOK hmix [14,15] [14,0,1,2,3,4,5,6,7,8,9,10,11,15,12,13,16,17] (by decide +kernel) ?_); (repeat' (first | (refine ds_nil ?_) | ((refine ds_chg ?_ ?_ rfl rfl rfl ?_ ?_); (rotate_left 2); (focus ((repeat' (first | simp (maxSteps := 1000000) only [*, go_sem, Nat.reduceLT, Nat.reduceLeDiff, Nat.reduceEqDiff, ↓reduceIte, Nat.reduceAdd, Nat.reduceSub, Nat.reduceMul, Int.reduceLT, Int.reduceLE, Int.reduceAdd, Int.reduceSub, Int.reduceMul, Int.reduceNeg, Int.reduceToNat, Int.reduceEq, Int.reduceBEq, Int.reduceBNe, Nat.reduceBEq, beq_self_eq_true, bne_self_eq_false, Bool.not_true, Bool.not_false, encL_take] | ((with_reducible refine useN (hc) ?_ ?_ ?_); (focus exact rfl); (focus exact fun _ => rfl)) | ((with_reducible refine useF (hsn) ?_ ?_ ?_); (focus exact rfl); (focus exact rfl)) | with_reducible refine vcond_split (fun _ => ?_) (fun _ => ?_) | with_reducible refine vg_split (fun _ => ?_) (fun _ => ?_) | ((with_reducible apply DCalls.frz); (focus exact rfl); (focus exact rfl)) | ((with_reducible refine And.intro ?_ ?_); (focus (first | omega | decide | assumption | (simp only [decide_eq_true_eq, decide_eq_false_iff_not] at *; omega)))))); (first | exact rfl | (refine And.intro ?_ ?_ <;> exact rfl)))); (simp only [putF_some, putF_none])) | ((refine ds_all ?_ rfl rfl rfl ?_ ?_); (rotate_left 1); (focus ((repeat' (first | exact allH_nil | refine allH_cons ?_ ?_)); (all_goals ((repeat' (first | simp (maxSteps := 1000000) only [*, go_sem, Nat.reduceLT, Nat.reduceLeDiff, Nat.reduceEqDiff, ↓reduceIte, Nat.reduceAdd, Nat.reduceSub, Nat.reduceMul, Int.reduceLT, Int.reduceLE, Int.reduceAdd, Int.reduceSub, Int.reduceMul, Int.reduceNeg, Int.reduceToNat, Int.reduceEq, Int.reduceBEq, Int.reduceBNe, Nat.reduceBEq, beq_self_eq_true, bne_self_eq_false, Bool.not_true, Bool.not_false, encL_take] | ((with_reducible refine useN (hc) ?_ ?_ ?_); (focus exact rfl); (focus exact fun _ => rfl)) | ((with_reducible refine useF (hsn) ?_ ?_ ?_); (focus exact rfl); (focus exact rfl)) | with_reducible refine vcond_split (fun _ => ?_) (fun _ => ?_) | with_reducible refine vg_split (fun _ => ?_) (fun _ => ?_) | ((with_reducible apply DCalls.frz); (focus exact rfl); (focus exact rfl)) | ((with_reducible refine And.intro ?_ ?_); (focus (first | omega | decide | assumption | (simp only [decide_eq_true_eq, decide_eq_false_iff_not] at *; omega)))))); (try (first | exact rfl | omega)))))); (simp only [putF_some, putF_none]))))) | ((refine vc_drawn (id := 14) tabOK hmix [] [0,1,2,3,4,5,6,7,8,9,10,11,12,13,14,15,16] (by decide +kernel) ?_); (repeat' (first | (refine ds_nil ?_) | ((refine ds_one ?_ rfl rfl ?_ ?_); (rotate_left 1); (focus ((repeat' (first | simp (maxSteps := 1000000) only [*, go_sem, Nat.reduceLT, Nat.reduceLeDiff, Nat.reduceEqDiff, ↓reduceIte, Nat.reduceAdd, Nat.reduceSub, Nat.reduceMul, Int.reduceLT, Int.reduceLE, Int.reduceAdd, Int.reduceSub, Int.reduceMul, Int.reduceNeg, Int.reduceToNat, Int.reduceEq, Int.reduceBEq, Int.reduceBNe, Nat.reduceBEq, beq_self_eq_true, bne_self_eq_false, Bool.not_true, Bool.not_false, encL_take] | ((with_reducible refine useN (hc) ?_ ?_ ?_); (focus exact rfl); (focus exact fun _ => rfl)) | ((with_reducible refine useF (hsn) ?_ ?_ ?_); (focus exact rfl); (focus exact rfl)) | with_reducible refine vcond_split (fun _ => ?_) (fun _ => ?_) | with_reducible refine vg_split (fun _ => ?_) (fun _ => ?_) | ((with_reducible apply DCalls.frz); (focus exact rfl); (focus exact rfl)) | ((with_reducible refine And.intro ?_ ?_); (focus (first | omega | decide | assumption | (simp only [decide_eq_true_eq, decide_eq_false_iff_not] at *; omega)))))); exact rfl)); (simp only [putF_some, putF_none]))))) | with_reducible refine vcond_split (fun _ => ?_) (fun _ => ?_) | with_reducible refine vg_split (fun _ => ?_) (fun _ => ?_) | ((with_reducible apply DCalls.frz); (focus exact rfl); (focus exact rfl)) | ((with_reducible refine And.intro ?_ ?_); (focus (first | omega | decide | assumption | (simp only [decide_eq_true_eq, decide_eq_false_iff_not] at *; omega)))))
        exact qr_n (k + 1) (by omega) (by omega) (weak_mk rfl rfl rfl (by simp [wk_cons, wk_nil, look_cons, closedD, closedC, renT, renD, renC, encT_nil, encS_nil, encC_nil]))
      · have k1 : decide ((k : Int) < (w.length : Int)) = false := decide_eq_false (by omega)
        clear hself hlk hcl hwho hw
        repeat' (first | simp (maxSteps := 1000000) only [*, go_sem, Nat.reduceLT, Nat.reduceLeDiff, Nat.reduceEqDiff, ↓reduceIte, Nat.reduceAdd, Nat.reduceSub, Nat.reduceMul, Int.reduceLT, Int.reduceLE, Int.reduceAdd, Int.reduceSub, Int.reduceMul, Int.reduceNeg, Int.reduceToNat, Int.reduceEq, Int.reduceBEq, Int.reduceBNe, Nat.reduceBEq, beq_self_eq_true, bne_self_eq_false] | with_reducible refine vcond_split (fun _ => ?_) (fun _ => ?_) | with_reducible refine vg_split (fun _ => ?_) (fun _ => ?_) | ((with_reducible apply DCalls.frz); (focus exact rfl); (focus exact rfl)) | ((with_reducible refine And.intro ?_ ?_); (focus (first | omega | decide | assumption | (simp only [decide_eq_true_eq, decide_eq_false_iff_not] at *; omega)))))
        refine swp_vc tabOK hmix ?_
        repeat' (first | simp (maxSteps := 1000000) only [*, go_sem, Nat.reduceLT, Nat.reduceLeDiff, Nat.reduceEqDiff, ↓reduceIte, Nat.reduceAdd, Nat.reduceSub, Nat.reduceMul, Int.reduceLT, Int.reduceLE, Int.reduceAdd, Int.reduceSub, Int.reduceMul, Int.reduceNeg, Int.reduceToNat, Int.reduceEq, Int.reduceBEq, Int.reduceBNe, Nat.reduceBEq, beq_self_eq_true, bne_self_eq_false] | with_reducible refine vcond_split (fun _ => ?_) (fun _ => ?_) | with_reducible refine vg_split (fun _ => ?_) (fun _ => ?_) | ((with_reducible apply DCalls.frz); (focus exact rfl); (focus exact rfl)) | ((with_reducible refine And.intro ?_ ?_); (focus (first | omega | decide | assumption | (simp only [decide_eq_true_eq, decide_eq_false_iff_not] at *; omega)))))
        exact qr_n (i + 1) (by omega) (by omega) (weak_mk rfl rfl rfl (by simp [wk_cons, wk_nil, look_cons, closedD, closedC, renT, renD, renC, encT_nil, encS_nil, encC_nil]))
    · have h1 : decide ((i : Int) < (ts.length : Int)) = false := decide_eq_false (by omega)
      clear hok hxo
      refine swp_first tabOK hmix ?_
      repeat' (first | simp (maxSteps := 1000000) only [*, go_sem, Nat.reduceLT, Nat.reduceLeDiff, Nat.reduceEqDiff, ↓reduceIte, Nat.reduceAdd, Nat.reduceSub, Nat.reduceMul, Int.reduceLT, Int.reduceLE, Int.reduceAdd, Int.reduceSub, Int.reduceMul, Int.reduceNeg, Int.reduceToNat, Int.reduceEq, Int.reduceBEq, Int.reduceBNe, Nat.reduceBEq, beq_self_eq_true, bne_self_eq_false] | with_reducible refine vcond_split (fun _ => ?_) (fun _ => ?_) | with_reducible refine vg_split (fun _ => ?_) (fun _ => ?_) | ((with_reducible apply DCalls.frz); (focus exact rfl); (focus exact rfl)) | ((with_reducible refine And.intro ?_ ?_); (focus (first | omega | decide | assumption | (simp only [decide_eq_true_eq, decide_eq_false_iff_not] at *; omega)))))
      exact qj_n () trivial (weak_mk (by rw [hX]; rfl) rfl rfl (by simp [wk_cons, wk_nil, look_cons, closedD, closedC, renT, renD, renC, encT_nil, encS_nil, encC_nil]))
  rintro - -
  refine swp_vc tabOK hmix ?_
  repeat' (first | simp (maxSteps := 1000000) only [*, go_sem, Nat.reduceLT, Nat.reduceLeDiff, Nat.reduceEqDiff, ↓reduceIte, Nat.reduceAdd, Nat.reduceSub, Nat.reduceMul, Int.reduceLT, Int.reduceLE, Int.reduceAdd, Int.reduceSub, Int.reduceMul, Int.reduceNeg, Int.reduceToNat, Int.reduceEq, Int.reduceBEq, Int.reduceBNe, Nat.reduceBEq, beq_self_eq_true, bne_self_eq_false] | with_reducible refine vcond_split (fun _ => ?_) (fun _ => ?_) | with_reducible refine vg_split (fun _ => ?_) (fun _ => ?_) | ((with_reducible apply DCalls.frz); (focus exact rfl); (focus exact rfl)) | ((with_reducible refine And.intro ?_ ?_); (focus (first | omega | decide | assumption | (simp only [decide_eq_true_eq, decide_eq_false_iff_not] at *; omega)))))
end Go.Proofs.YtfiopamaiolfhaaGreatDoor
