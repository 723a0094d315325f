import Derived.Test.YtnbgaphhhjnjlaaGreatDoorW11

section
/-
  Contracts of the document's calls: what goes, what is listed.
-/

set_option linter.unusedSimpArgs false
set_option linter.unusedVariables false
namespace Go.Proofs.YtnbgaphhhjnjlaaGreatDoor
open Go Go.Dm Go.Proofs
set_option maxRecDepth 100000
set_option maxHeartbeats 16000000

section
variable {t : List It} {p : List UInt8} {is : Bool} {cp cq : List UInt8} {cm : Int} {ct : Nat} {ca cn : Int} {cd : List UInt8}

theorem do_unlink (h : OkT t) (hp : p.length ≤ 1000000000) : DoAt t p is 5 cp cq cm ct ca cn cd := by
  have htl := h.len
  have hget := getR_c (t := t) (p := p) (by omega)
  have hid := isDirR_c (t := t) (p := p) (by omega)
  have hnd := h.getd p
  have hrm := removeR_c (t := t) (p := p) (by omega) (by omega) fun x hx => Nat.le_trans (h.plen x hx) (by decide)
  unfold DoAt
  refine dcalls_wk ?_
  unfold doR1 anE
  simp only
  generalize (getR t p).getD nd0 = n at hget hnd ⊢
  generalize (getR t p).isSome = b at hget
  obtain ⟨nk, nm, nt, nd⟩ := n
  simp only at hget hnd ⊢
  generalize isDirR t p = D at hid ⊢
  cases is <;> cases D
  all_goals
    refine ent tabOK hmix Tryz.func43 rfl rfl fun X0 hX => ?_
    simp only [Tryz.f43, go_sem]
    repeat' (first | simp only [*, go_sem, Nat.reduceLT, Nat.reduceLeDiff, Nat.reduceEqDiff, ↓reduceIte, Nat.reduceAdd, Int.reduceBEq, beq_self_eq_true, Bool.not_true, Bool.not_false] | ((with_reducible refine useN (hget) ?_ ?_ ?_); (focus exact rfl); (focus exact fun _ => rfl)) | ((with_reducible refine useF (hid) ?_ ?_ ?_); (focus exact rfl); (focus exact rfl)) | ((with_reducible refine useF (why_c) ?_ ?_ ?_); (focus exact rfl); (focus exact rfl)) | ((with_reducible refine useN (hrm) ?_ ?_ ?_); (focus exact rfl); (focus exact fun _ => rfl)))
    all_goals first | exact ⟨rfl, rfl, rfl, .inr ⟨_, rfl⟩, .inr ⟨_, rfl⟩, .inr ⟨_, rfl⟩⟩ | exact ⟨.inr ⟨_, rfl⟩, .inr ⟨_, rfl⟩, .inr ⟨_, rfl⟩⟩ | exact ⟨rfl, rfl, rfl, .inr ⟨_, rfl⟩, .inr ⟨_, rfl⟩⟩ | exact ⟨.inr ⟨_, rfl⟩, .inr ⟨_, rfl⟩⟩ | exact .inr ⟨_, rfl⟩

theorem do_rmdir (h : OkT t) (hp : p.length ≤ 1000000000) : DoAt t p is 6 cp cq cm ct ca cn cd := by
  have htl := h.len
  have hget := getR_c (t := t) (p := p) (by omega)
  have hid := isDirR_c (t := t) (p := p) (by omega)
  have hnd := h.getd p
  have hrm := removeR_c (t := t) (p := p) (by omega) (by omega) fun x hx => Nat.le_trans (h.plen x hx) (by decide)
  have hnm := refNames_c (p := p) h
  unfold DoAt
  refine dcalls_wk ?_
  unfold doR1 anE
  simp only
  generalize (getR t p).getD nd0 = n at hget hnd ⊢
  generalize (getR t p).isSome = b at hget
  obtain ⟨nk, nm, nt, nd⟩ := n
  simp only at hget hnd ⊢
  generalize isDirR t p = D at hid ⊢
  generalize namesF t p = N at hnm ⊢
  cases hz : (p == []) <;> cases is <;> cases D
  all_goals
    refine ent tabOK hmix Tryz.func43 rfl rfl fun X0 hX => ?_
    simp only [Tryz.f43, go_sem]
    repeat' (first | simp only [*, go_sem, Nat.reduceLT, Nat.reduceLeDiff, Nat.reduceEqDiff, ↓reduceIte, Nat.reduceAdd, Int.reduceBEq, beq_self_eq_true, Bool.not_true, Bool.not_false] | ((with_reducible refine useN (hget) ?_ ?_ ?_); (focus exact rfl); (focus exact fun _ => rfl)) | ((with_reducible refine useF (hid) ?_ ?_ ?_); (focus exact rfl); (focus exact rfl)) | ((with_reducible refine useF (why_c) ?_ ?_ ?_); (focus exact rfl); (focus exact rfl)) | ((with_reducible refine useN (hnm) ?_ ?_ ?_); (focus exact rfl); (focus exact fun _ => rfl)) | ((with_reducible refine useN (hrm) ?_ ?_ ?_); (focus exact rfl); (focus exact fun _ => rfl)) | with_reducible refine vcond_split (fun _ => ?_) (fun _ => ?_))
    all_goals first | exact ⟨rfl, rfl, rfl, .inr ⟨_, rfl⟩, .inr ⟨_, rfl⟩, .inr ⟨_, rfl⟩⟩ | exact ⟨.inr ⟨_, rfl⟩, .inr ⟨_, rfl⟩, .inr ⟨_, rfl⟩⟩ | exact ⟨rfl, rfl, rfl, .inr ⟨_, rfl⟩, .inr ⟨_, rfl⟩⟩ | exact ⟨.inr ⟨_, rfl⟩, .inr ⟨_, rfl⟩⟩ | exact .inr ⟨_, rfl⟩

theorem do_list (h : OkT t) : DoAt t p is 15 cp cq cm ct ca cn cd := by
  have htl := h.len
  have hget := getR_c (t := t) (p := p) (by omega)
  have hid := isDirR_c (t := t) (p := p) (by omega)
  have hnd := h.getd p
  have hnm := refNames_c (p := p) h
  unfold DoAt
  refine dcalls_wk ?_
  unfold doR1 anE
  simp only
  generalize (getR t p).getD nd0 = n at hget hnd ⊢
  generalize (getR t p).isSome = b at hget
  obtain ⟨nk, nm, nt, nd⟩ := n
  simp only at hget hnd ⊢
  generalize isDirR t p = D at hid ⊢
  generalize namesF t p = N at hnm ⊢
  cases is <;> cases D
  all_goals
    refine ent tabOK hmix Tryz.func43 rfl rfl fun X0 hX => ?_
    simp only [Tryz.f43, go_sem]
    repeat' (first | simp only [*, go_sem, Nat.reduceLT, Nat.reduceLeDiff, Nat.reduceEqDiff, ↓reduceIte, Nat.reduceAdd, Int.reduceBEq, beq_self_eq_true, Bool.not_true, Bool.not_false] | ((with_reducible refine useN (hget) ?_ ?_ ?_); (focus exact rfl); (focus exact fun _ => rfl)) | ((with_reducible refine useF (hid) ?_ ?_ ?_); (focus exact rfl); (focus exact rfl)) | ((with_reducible refine useF (why_c) ?_ ?_ ?_); (focus exact rfl); (focus exact rfl)) | ((with_reducible refine useN (hnm) ?_ ?_ ?_); (focus exact rfl); (focus exact fun _ => rfl)))
    all_goals first | exact ⟨rfl, rfl, rfl, .inr ⟨_, rfl⟩, .inr ⟨_, rfl⟩, .inr ⟨_, rfl⟩⟩ | exact ⟨.inr ⟨_, rfl⟩, .inr ⟨_, rfl⟩, .inr ⟨_, rfl⟩⟩ | exact ⟨rfl, rfl, rfl, .inr ⟨_, rfl⟩, .inr ⟨_, rfl⟩⟩ | exact ⟨.inr ⟨_, rfl⟩, .inr ⟨_, rfl⟩⟩ | exact .inr ⟨_, rfl⟩
end
end Go.Proofs.YtnbgaphhhjnjlaaGreatDoor

end

section
/-
  Contracts of the document's calls: what is asked, a mode, a time.
-/

set_option linter.unusedSimpArgs false
set_option linter.unusedVariables false
namespace Go.Proofs.YtnbgaphhhjnjlaaGreatDoor
open Go Go.Dm Go.Proofs
set_option maxRecDepth 100000
set_option maxHeartbeats 16000000

section
variable {t : List It} {p : List UInt8} {is : Bool} {cp cq : List UInt8} {cm : Int} {ct : Nat} {ca cn : Int} {cd : List UInt8}

theorem do_readlink (h : OkT t) : DoAt t p is 8 cp cq cm ct ca cn cd := by
  have htl := h.len
  have hget := getR_c (t := t) (p := p) (by omega)
  have hid := isDirR_c (t := t) (p := p) (by omega)
  have hnd := h.getd p
  unfold DoAt
  refine dcalls_wk ?_
  unfold doR1 anE
  simp only
  generalize (getR t p).getD nd0 = n at hget hnd ⊢
  generalize (getR t p).isSome = b at hget
  obtain ⟨nk, nm, nt, nd⟩ := n
  simp only at hget hnd ⊢
  generalize isDirR t p = D at hid ⊢
  cases is
  ·
    refine ent tabOK hmix Tryz.func43 rfl rfl fun X0 hX => ?_
    simp only [Tryz.f43, go_sem]
    repeat' (first | simp only [*, go_sem, Nat.reduceLT, Nat.reduceLeDiff, Nat.reduceEqDiff, ↓reduceIte, Nat.reduceAdd, Int.reduceBEq, Bool.not_false] | ((with_reducible refine useN (hget) ?_ ?_ ?_); (focus exact rfl); (focus exact fun _ => rfl)) | ((with_reducible refine useF (why_c) ?_ ?_ ?_); (focus exact rfl); (focus exact rfl)))
    all_goals first | exact ⟨rfl, rfl, rfl, .inr ⟨_, rfl⟩, .inr ⟨_, rfl⟩, .inr ⟨_, rfl⟩⟩ | exact ⟨.inr ⟨_, rfl⟩, .inr ⟨_, rfl⟩, .inr ⟨_, rfl⟩⟩ | exact ⟨rfl, rfl, rfl, .inr ⟨_, rfl⟩, .inr ⟨_, rfl⟩⟩ | exact ⟨.inr ⟨_, rfl⟩, .inr ⟨_, rfl⟩⟩ | exact .inr ⟨_, rfl⟩
  · cases hk3 : (nk == 3)
    · have hk4 : (nk != 3) = true := by rw [bne, hk3]; rfl
      skip
      refine ent tabOK hmix Tryz.func43 rfl rfl fun X0 hX => ?_
      simp only [Tryz.f43, go_sem]
      repeat' (first | simp only [*, go_sem, Nat.reduceLT, Nat.reduceLeDiff, Nat.reduceEqDiff, ↓reduceIte, Nat.reduceAdd, Int.reduceBEq, beq_self_eq_true, Bool.not_true] | ((with_reducible refine useN (hget) ?_ ?_ ?_); (focus exact rfl); (focus exact fun _ => rfl)) | ((with_reducible refine useF (hid) ?_ ?_ ?_); (focus exact rfl); (focus exact rfl)) | ((with_reducible refine useF (why_c) ?_ ?_ ?_); (focus exact rfl); (focus exact rfl)))
      all_goals first | exact ⟨rfl, rfl, rfl, .inr ⟨_, rfl⟩, .inr ⟨_, rfl⟩, .inr ⟨_, rfl⟩⟩ | exact ⟨.inr ⟨_, rfl⟩, .inr ⟨_, rfl⟩, .inr ⟨_, rfl⟩⟩ | exact ⟨rfl, rfl, rfl, .inr ⟨_, rfl⟩, .inr ⟨_, rfl⟩⟩ | exact ⟨.inr ⟨_, rfl⟩, .inr ⟨_, rfl⟩⟩ | exact .inr ⟨_, rfl⟩
    · have hk4 : (nk != 3) = false := by rw [bne, hk3]; rfl
      skip
      refine ent tabOK hmix Tryz.func43 rfl rfl fun X0 hX => ?_
      simp only [Tryz.f43, go_sem]
      repeat' (first | simp only [*, go_sem, Nat.reduceLT, Nat.reduceLeDiff, Nat.reduceEqDiff, ↓reduceIte, Nat.reduceAdd, Int.reduceBEq, beq_self_eq_true, Bool.not_true] | ((with_reducible refine useN (hget) ?_ ?_ ?_); (focus exact rfl); (focus exact fun _ => rfl)) | ((with_reducible refine useF (hid) ?_ ?_ ?_); (focus exact rfl); (focus exact rfl)) | ((refine vc_drawn (id := 45) tabOK hmix [5] [0,1,2,3,4,5] (by decide +kernel) ?_); (repeat' (first | (refine ds_nil ?_) | ((refine ds_chg ?_ ?_ rfl rfl rfl ?_ ?_); (rotate_left 2); (focus ((repeat' (simp only [*, go_sem, Nat.reduceLeDiff, Nat.reduceEqDiff, ↓reduceIte, Nat.reduceAdd, ])); ((refine And.intro ?_ ?_ <;> exact rfl)))); (simp only [putF_none])) | ((refine ds_all ?_ rfl rfl rfl ?_ ?_); (rotate_left 1); (focus ((repeat' (first | exact allH_nil | refine allH_cons ?_ ?_)); (all_goals ((repeat' (simp only [*, go_sem, Nat.reduceLT, Nat.reduceLeDiff, Nat.reduceEqDiff, ↓reduceIte, Nat.reduceAdd, ])); (try (exact rfl)))))); (simp only [putF_some]))))))
      all_goals first | exact ⟨rfl, rfl, rfl, .inr ⟨_, rfl⟩, .inr ⟨_, rfl⟩, .inr ⟨_, rfl⟩⟩ | exact ⟨.inr ⟨_, rfl⟩, .inr ⟨_, rfl⟩, .inr ⟨_, rfl⟩⟩ | exact ⟨rfl, rfl, rfl, .inr ⟨_, rfl⟩, .inr ⟨_, rfl⟩⟩ | exact ⟨.inr ⟨_, rfl⟩, .inr ⟨_, rfl⟩⟩ | exact .inr ⟨_, rfl⟩

theorem do_stat {ck : Int} (h : OkT t) (hk : ck = 12 ∨ ck = 13) : DoAt t p is ck cp cq cm ct ca cn cd := by
  have htl := h.len
  have hget := getR_c (t := t) (p := p) (by omega)
  have hid := isDirR_c (t := t) (p := p) (by omega)
  have hnd := h.getd p
  unfold DoAt
  refine dcalls_wk ?_
  have e : doR1 t ⟨ck, cp, cq, cm, ct, ca, cn, cd⟩ p is = if !is then (t, anE 6) else (t, ⟨0, nodeAt t p, [], []⟩) := by
    rcases hk with rfl | rfl <;> rfl
  rw [e]
  unfold nodeAt anE
  generalize (getR t p).getD nd0 = n at hget hnd ⊢
  generalize (getR t p).isSome = b at hget
  obtain ⟨nk, nm, nt, nd⟩ := n
  simp only at hget hnd ⊢
  generalize isDirR t p = D at hid ⊢
  cases hz : (p == []) <;> cases is
  all_goals rcases hk with rfl | rfl
  all_goals
    refine ent tabOK hmix Tryz.func43 rfl rfl fun X0 hX => ?_
    simp only [Tryz.f43, go_sem]
    repeat' (first | simp only [*, go_sem, Nat.reduceLT, Nat.reduceLeDiff, Nat.reduceEqDiff, ↓reduceIte, Nat.reduceAdd, Int.reduceBEq, beq_self_eq_true, Bool.not_true, Bool.not_false] | ((with_reducible refine useN (hget) ?_ ?_ ?_); (focus exact rfl); (focus exact fun _ => rfl)) | ((with_reducible refine useF (hid) ?_ ?_ ?_); (focus exact rfl); (focus exact rfl)) | ((with_reducible refine useF (why_c) ?_ ?_ ?_); (focus exact rfl); (focus exact rfl)) | ((refine vc_drawn (id := 50) tabOK hmix [4] [0,1,2,3,4] (by decide +kernel) ?_); (repeat' (first | (refine ds_nil ?_) | ((refine ds_chg ?_ ?_ rfl rfl rfl ?_ ?_); (rotate_left 2); (focus ((repeat' (simp only [*, go_sem, Nat.reduceLeDiff, Nat.reduceEqDiff, ↓reduceIte, Nat.reduceAdd, ])); ((refine And.intro ?_ ?_ <;> exact rfl)))); (simp only [putF_none])) | ((refine ds_all ?_ rfl rfl rfl ?_ ?_); (rotate_left 1); (focus ((repeat' (first | exact allH_nil | refine allH_cons ?_ ?_)); (all_goals ((repeat' (simp only [*, go_sem, Nat.reduceLT, Nat.reduceLeDiff, Nat.reduceEqDiff, ↓reduceIte, Nat.reduceAdd, ])); (try (exact rfl)))))); (simp only [putF_some]))))))
    all_goals first | exact ⟨rfl, rfl, rfl, .inr ⟨_, rfl⟩, .inr ⟨_, rfl⟩, .inr ⟨_, rfl⟩⟩ | exact ⟨.inr ⟨_, rfl⟩, .inr ⟨_, rfl⟩, .inr ⟨_, rfl⟩⟩ | exact ⟨rfl, rfl, rfl, .inr ⟨_, rfl⟩, .inr ⟨_, rfl⟩⟩ | exact ⟨.inr ⟨_, rfl⟩, .inr ⟨_, rfl⟩⟩ | exact .inr ⟨_, rfl⟩

theorem do_mode (h : OkT t) : DoAt t p is 10 cp cq cm ct ca cn cd := by
  have htl := h.len
  have hget := getR_c (t := t) (p := p) (by omega)
  have hid := isDirR_c (t := t) (p := p) (by omega)
  have hnd := h.getd p
  have hst := setR_c (t := t) (p := p) (k := ((getR t p).getD nd0).k) (m := cm) (tt := ((getR t p).getD nd0).t) (d := ((getR t p).getD nd0).d) (by omega)
  unfold DoAt
  refine dcalls_wk ?_
  unfold doR1 anE
  simp only
  generalize (getR t p).getD nd0 = n at hget hnd hst ⊢
  generalize (getR t p).isSome = b at hget
  obtain ⟨nk, nm, nt, nd⟩ := n
  simp only at hget hnd hst ⊢
  generalize isDirR t p = D at hid ⊢
  cases is
  ·
    refine ent tabOK hmix Tryz.func43 rfl rfl fun X0 hX => ?_
    simp only [Tryz.f43, go_sem]
    repeat' (first | simp only [*, go_sem, Nat.reduceLT, Nat.reduceLeDiff, Nat.reduceEqDiff, ↓reduceIte, Nat.reduceAdd, Int.reduceBEq, Bool.not_false] | ((with_reducible refine useN (hget) ?_ ?_ ?_); (focus exact rfl); (focus exact fun _ => rfl)) | ((with_reducible refine useF (why_c) ?_ ?_ ?_); (focus exact rfl); (focus exact rfl)))
    all_goals first | exact ⟨rfl, rfl, rfl, .inr ⟨_, rfl⟩, .inr ⟨_, rfl⟩, .inr ⟨_, rfl⟩⟩ | exact ⟨.inr ⟨_, rfl⟩, .inr ⟨_, rfl⟩, .inr ⟨_, rfl⟩⟩ | exact ⟨rfl, rfl, rfl, .inr ⟨_, rfl⟩, .inr ⟨_, rfl⟩⟩ | exact ⟨.inr ⟨_, rfl⟩, .inr ⟨_, rfl⟩⟩ | exact .inr ⟨_, rfl⟩
  · cases hz : (p == []) <;> cases h0 : decide (cm < 0) <;> cases h1 : decide (4095 < cm)
    all_goals
      refine ent tabOK hmix Tryz.func43 rfl rfl fun X0 hX => ?_
      simp only [Tryz.f43, go_sem]
      repeat' (first | simp only [*, go_sem, Nat.reduceLT, Nat.reduceLeDiff, Nat.reduceEqDiff, ↓reduceIte, Nat.reduceAdd, Int.reduceBEq, beq_self_eq_true, Bool.not_true] | ((with_reducible refine useN (hget) ?_ ?_ ?_); (focus exact rfl); (focus exact fun _ => rfl)) | ((with_reducible refine useF (hid) ?_ ?_ ?_); (focus exact rfl); (focus exact rfl)) | ((with_reducible refine useF (why_c) ?_ ?_ ?_); (focus exact rfl); (focus exact rfl)) | ((with_reducible refine useN (hst) ?_ ?_ ?_); (focus exact rfl); (focus exact fun _ => rfl)) | ((with_reducible refine And.intro ?_ ?_); (focus ((simp only [decide_eq_true_eq, decide_eq_false_iff_not] at *; omega)))))
      all_goals first | exact ⟨rfl, rfl, rfl, .inr ⟨_, rfl⟩, .inr ⟨_, rfl⟩, .inr ⟨_, rfl⟩⟩ | exact ⟨.inr ⟨_, rfl⟩, .inr ⟨_, rfl⟩, .inr ⟨_, rfl⟩⟩ | exact ⟨rfl, rfl, rfl, .inr ⟨_, rfl⟩, .inr ⟨_, rfl⟩⟩ | exact ⟨.inr ⟨_, rfl⟩, .inr ⟨_, rfl⟩⟩ | exact .inr ⟨_, rfl⟩

theorem do_time (h : OkT t) : DoAt t p is 11 cp cq cm ct ca cn cd := by
  have htl := h.len
  have hget := getR_c (t := t) (p := p) (by omega)
  have hid := isDirR_c (t := t) (p := p) (by omega)
  have hnd := h.getd p
  have hpl := Plain_c ct
  have hst := setR_c (t := t) (p := p) (k := ((getR t p).getD nd0).k) (m := ((getR t p).getD nd0).m) (tt := bitsF ct) (d := ((getR t p).getD nd0).d) (by omega)
  unfold DoAt
  refine dcalls_wk ?_
  unfold doR1 anE
  simp only
  generalize bitsF ct = bt at hpl hst ⊢
  generalize (getR t p).getD nd0 = n at hget hnd hst ⊢
  generalize (getR t p).isSome = b at hget
  obtain ⟨nk, nm, nt, nd⟩ := n
  simp only at hget hnd hst ⊢
  generalize isDirR t p = D at hid ⊢
  cases is
  ·
    refine ent tabOK hmix Tryz.func43 rfl rfl fun X0 hX => ?_
    simp only [Tryz.f43, go_sem]
    repeat' (first | simp only [*, go_sem, Nat.reduceLT, Nat.reduceLeDiff, Nat.reduceEqDiff, ↓reduceIte, Nat.reduceAdd, Int.reduceBEq, Bool.not_false] | ((with_reducible refine useN (hget) ?_ ?_ ?_); (focus exact rfl); (focus exact fun _ => rfl)) | ((with_reducible refine useF (why_c) ?_ ?_ ?_); (focus exact rfl); (focus exact rfl)))
    all_goals first | exact ⟨rfl, rfl, rfl, .inr ⟨_, rfl⟩, .inr ⟨_, rfl⟩, .inr ⟨_, rfl⟩⟩ | exact ⟨.inr ⟨_, rfl⟩, .inr ⟨_, rfl⟩, .inr ⟨_, rfl⟩⟩ | exact ⟨rfl, rfl, rfl, .inr ⟨_, rfl⟩, .inr ⟨_, rfl⟩⟩ | exact ⟨.inr ⟨_, rfl⟩, .inr ⟨_, rfl⟩⟩ | exact .inr ⟨_, rfl⟩
  · cases hz : (p == [])
    all_goals
      refine ent tabOK hmix Tryz.func43 rfl rfl fun X0 hX => ?_
      simp only [Tryz.f43, go_sem]
      repeat' (first | simp only [*, go_sem, Nat.reduceLT, Nat.reduceLeDiff, Nat.reduceEqDiff, ↓reduceIte, Nat.reduceAdd, Int.reduceBEq, beq_self_eq_true, Bool.not_true] | ((with_reducible refine useN (hget) ?_ ?_ ?_); (focus exact rfl); (focus exact fun _ => rfl)) | ((with_reducible refine useF (hid) ?_ ?_ ?_); (focus exact rfl); (focus exact rfl)) | ((with_reducible refine useF (why_c) ?_ ?_ ?_); (focus exact rfl); (focus exact rfl)) | ((with_reducible refine useF (hpl) ?_ ?_ ?_); (focus exact rfl); (focus exact rfl)) | ((with_reducible refine useN (hst) ?_ ?_ ?_); (focus exact rfl); (focus exact fun _ => rfl)))
      all_goals first | exact ⟨rfl, rfl, rfl, .inr ⟨_, rfl⟩, .inr ⟨_, rfl⟩, .inr ⟨_, rfl⟩⟩ | exact ⟨.inr ⟨_, rfl⟩, .inr ⟨_, rfl⟩, .inr ⟨_, rfl⟩⟩ | exact ⟨rfl, rfl, rfl, .inr ⟨_, rfl⟩, .inr ⟨_, rfl⟩⟩ | exact ⟨.inr ⟨_, rfl⟩, .inr ⟨_, rfl⟩⟩ | exact .inr ⟨_, rfl⟩
end
end Go.Proofs.YtnbgaphhhjnjlaaGreatDoor

end
