import Derived.Test.YtnbgaphhhjnjlaaGreatDoorW11

section
/-
  Contracts of the document's calls: what is written, what is read, a rename.
-/

set_option linter.unusedSimpArgs false
set_option linter.unusedVariables false
namespace Go.Proofs.YtnbgaphhhjnjlaaGreatDoor
open Go Go.Dm Go.Proofs
set_option maxRecDepth 100000
set_option maxHeartbeats 16000000

section
variable {t : List It} {p : List UInt8} {is : Bool} {cp cq : List UInt8} {cm : Int} {ct : Nat} {ca cn : Int} {cd : List UInt8}

theorem do_rename9 (h : OkT t) (hp : p.length ≤ 1000000000) (hcq : cq.length ≤ 9223372036854775807) : DoAt t p is 9 cp cq cm ct ca cn cd := by
  have htl := h.len
  have hget := getR_c (t := t) (p := p) (by omega)
  have hid := isDirR_c (t := t) (p := p) (by omega)
  have hnd := h.getd p
  have hrn := fun dir => refRename_c (p := p) (dir := dir) (ck := 9) (cp := cp) (cm := cm) (ct := ct) (ca := ca) (cn := cn) (cd := cd) h hp hcq
  unfold DoAt
  refine dcalls_wk ?_
  unfold doR1
  simp only
  generalize (getR t p).getD nd0 = n at hget hnd ⊢
  generalize (getR t p).isSome = b at hget
  obtain ⟨nk, nm, nt, nd⟩ := n
  simp only at hget hnd ⊢
  generalize isDirR t p = D at hid ⊢
  cases is
  ·
    refine ent tabOK hmix Tryz.func43 rfl rfl fun X0 hX => ?_
    simp only [Tryz.f43, go_sem]
    repeat' (first | simp only [*, go_sem, Nat.reduceLT, Nat.reduceLeDiff, Nat.reduceEqDiff, ↓reduceIte, Nat.reduceAdd, Int.reduceBEq, Bool.not_false] | ((with_reducible refine useN (hget) ?_ ?_ ?_); (focus exact rfl); (focus exact fun _ => rfl)) | ((with_reducible refine useF (why_c) ?_ ?_ ?_); (focus exact rfl); (focus exact rfl)))
    all_goals first | exact ⟨rfl, rfl, rfl, rfl, .inr ⟨_, rfl⟩, .inr ⟨_, rfl⟩, .inr ⟨_, rfl⟩⟩ | rfl | exact ⟨rfl, rfl⟩ | exact ⟨rfl, rfl, rfl, .inr ⟨_, rfl⟩, .inr ⟨_, rfl⟩, .inr ⟨_, rfl⟩⟩ | exact ⟨.inr ⟨_, rfl⟩, .inr ⟨_, rfl⟩, .inr ⟨_, rfl⟩⟩ | exact ⟨rfl, rfl, rfl, .inr ⟨_, rfl⟩, .inr ⟨_, rfl⟩⟩ | exact ⟨.inr ⟨_, rfl⟩, .inr ⟨_, rfl⟩⟩ | exact .inr ⟨_, rfl⟩
  · cases D
    · have hr2 := hrn false
      clear hrn
      simp only [Bool.true_and]
      generalize renameR t p false cq = R at hr2 ⊢
      skip
      refine ent tabOK hmix Tryz.func43 rfl rfl fun X0 hX => ?_
      simp only [Tryz.f43, go_sem]
      repeat' (first | simp only [*, go_sem, Nat.reduceLT, Nat.reduceLeDiff, Nat.reduceEqDiff, ↓reduceIte, Nat.reduceAdd, Int.reduceBEq, Bool.not_true] | ((with_reducible refine useN (hget) ?_ ?_ ?_); (focus exact rfl); (focus exact fun _ => rfl)) | ((with_reducible refine useF (hid) ?_ ?_ ?_); (focus exact rfl); (focus exact rfl)) | ((with_reducible refine useN (hr2) ?_ ?_ ?_); (focus exact rfl); (focus exact fun _ => rfl)))
      all_goals first | exact ⟨rfl, rfl, rfl, rfl, .inr ⟨_, rfl⟩, .inr ⟨_, rfl⟩, .inr ⟨_, rfl⟩⟩ | rfl | exact ⟨rfl, rfl⟩ | exact ⟨rfl, rfl, rfl, .inr ⟨_, rfl⟩, .inr ⟨_, rfl⟩, .inr ⟨_, rfl⟩⟩ | exact ⟨.inr ⟨_, rfl⟩, .inr ⟨_, rfl⟩, .inr ⟨_, rfl⟩⟩ | exact ⟨rfl, rfl, rfl, .inr ⟨_, rfl⟩, .inr ⟨_, rfl⟩⟩ | exact ⟨.inr ⟨_, rfl⟩, .inr ⟨_, rfl⟩⟩ | exact .inr ⟨_, rfl⟩
    · have hr2 := hrn true
      clear hrn
      simp only [Bool.true_and]
      generalize renameR t p true cq = R at hr2 ⊢
      skip
      refine ent tabOK hmix Tryz.func43 rfl rfl fun X0 hX => ?_
      simp only [Tryz.f43, go_sem]
      repeat' (first | simp only [*, go_sem, Nat.reduceLT, Nat.reduceLeDiff, Nat.reduceEqDiff, ↓reduceIte, Nat.reduceAdd, Int.reduceBEq, Bool.not_true] | ((with_reducible refine useN (hget) ?_ ?_ ?_); (focus exact rfl); (focus exact fun _ => rfl)) | ((with_reducible refine useF (hid) ?_ ?_ ?_); (focus exact rfl); (focus exact rfl)) | ((with_reducible refine useN (hr2) ?_ ?_ ?_); (focus exact rfl); (focus exact fun _ => rfl)))
      all_goals first | exact ⟨rfl, rfl, rfl, rfl, .inr ⟨_, rfl⟩, .inr ⟨_, rfl⟩, .inr ⟨_, rfl⟩⟩ | rfl | exact ⟨rfl, rfl⟩ | exact ⟨rfl, rfl, rfl, .inr ⟨_, rfl⟩, .inr ⟨_, rfl⟩, .inr ⟨_, rfl⟩⟩ | exact ⟨.inr ⟨_, rfl⟩, .inr ⟨_, rfl⟩, .inr ⟨_, rfl⟩⟩ | exact ⟨rfl, rfl, rfl, .inr ⟨_, rfl⟩, .inr ⟨_, rfl⟩⟩ | exact ⟨.inr ⟨_, rfl⟩, .inr ⟨_, rfl⟩⟩ | exact .inr ⟨_, rfl⟩

theorem do_read (h : OkT t) : DoAt t p is 14 cp cq cm ct ca cn cd := by
  have htl := h.len
  have hget := getR_c (t := t) (p := p) (by omega)
  have hid := isDirR_c (t := t) (p := p) (by omega)
  have hnd := h.getd p
  unfold DoAt
  refine dcalls_wk ?_
  unfold doR1 anE
  simp only
  generalize (getR t p).getD nd0 = n at hget hnd ⊢
  generalize (getR t p).isSome = b at hget
  obtain ⟨nk, nm, nt, nd⟩ := n
  simp only at hget hnd ⊢
  generalize isDirR t p = D at hid ⊢
  cases is
  ·
    refine ent tabOK hmix Tryz.func43 rfl rfl fun X0 hX => ?_
    simp only [Tryz.f43, go_sem]
    repeat' (first | simp only [*, go_sem, Nat.reduceLT, Nat.reduceLeDiff, Nat.reduceEqDiff, ↓reduceIte, Nat.reduceAdd, Int.reduceBEq, Bool.not_false] | ((with_reducible refine useN (hget) ?_ ?_ ?_); (focus exact rfl); (focus exact fun _ => rfl)) | ((with_reducible refine useF (why_c) ?_ ?_ ?_); (focus exact rfl); (focus exact rfl)))
    all_goals first | exact ⟨rfl, rfl, rfl, .inr ⟨_, rfl⟩, .inr ⟨_, rfl⟩, .inr ⟨_, rfl⟩⟩ | exact ⟨.inr ⟨_, rfl⟩, .inr ⟨_, rfl⟩, .inr ⟨_, rfl⟩⟩ | exact ⟨rfl, rfl, rfl, .inr ⟨_, rfl⟩, .inr ⟨_, rfl⟩⟩ | exact ⟨.inr ⟨_, rfl⟩, .inr ⟨_, rfl⟩⟩ | exact .inr ⟨_, rfl⟩
  · cases D
    · cases h1 : decide (ca < 0)
      · cases h2 : decide (cn < 0)
        · obtain ⟨f, rfl⟩ : ∃ f : Nat, ca = f := ⟨ca.toNat, by simp at h1; omega⟩
          obtain ⟨g, rfl⟩ : ∃ g : Nat, cn = g := ⟨cn.toNat, by simp at h2; omega⟩
          simp only [Int.toNat_natCast]
          have hf0 : (0 : Int) ≤ (f : Int) := by omega
          have hg0 : (0 : Int) ≤ (g : Int) := by omega
          by_cases hfd : f ≤ nd.length
          · have x1 : (if (nd.length : Int) < (f : Int) then (nd.length : Int) else (f : Int)) = (f : Int) := if_neg (by omega)
            have x1b : (if (f : Int) < (nd.length : Int) then (f : Int) else (nd.length : Int)) = (f : Int) := by split <;> omega
            have x3 : (f : Int) ≤ (nd.length : Int) := by omega
            have hel : (nd.drop f).length = nd.length - f := List.length_drop
            by_cases hge : g ≤ nd.length - f
            · have x2 : (if ((nd.length - f : Nat) : Int) < (g : Int) then ((nd.length - f : Nat) : Int) else (g : Int)) = (g : Int) := if_neg (by omega)
              have x2b : (if (g : Int) < ((nd.length - f : Nat) : Int) then (g : Int) else ((nd.length - f : Nat) : Int)) = (g : Int) := by split <;> omega
              have x4 : (g : Int) ≤ ((nd.length - f : Nat) : Int) := by omega
              skip
              refine ent tabOK hmix Tryz.func43 rfl rfl fun X0 hX => ?_
              simp only [Tryz.f43, go_sem]
              repeat' (first | simp only [*, go_sem, Nat.reduceLT, Nat.reduceLeDiff, Nat.reduceEqDiff, ↓reduceIte, Nat.reduceAdd, Int.reduceBEq, beq_self_eq_true, Bool.not_true] | ((with_reducible refine useN (hget) ?_ ?_ ?_); (focus exact rfl); (focus exact fun _ => rfl)) | ((with_reducible refine useF (hid) ?_ ?_ ?_); (focus exact rfl); (focus exact rfl)) | ((refine vc_drawn (id := 57) tabOK hmix [10] [0,1,2,3,4,5,6,7,8,9,10] (by decide +kernel) ?_); (repeat' (first | (refine ds_nil ?_) | ((refine ds_chg ?_ ?_ rfl rfl rfl ?_ ?_); (rotate_left 2); (focus ((repeat' (simp only [*, go_sem, Nat.reduceLeDiff, Nat.reduceEqDiff, ↓reduceIte, Nat.reduceAdd, ])); ((refine And.intro ?_ ?_ <;> exact rfl)))); (simp only [putF_none])) | ((refine ds_all ?_ rfl rfl rfl ?_ ?_); (rotate_left 1); (focus ((repeat' (first | exact allH_nil | refine allH_cons ?_ ?_)); (all_goals ((repeat' (simp only [*, go_sem, Nat.reduceLT, Nat.reduceLeDiff, Nat.reduceEqDiff, ↓reduceIte, Nat.reduceAdd, Int.reduceLE, Int.reduceToNat, ])); (try (exact rfl)))))); (simp only [putF_some]))))) | ((with_reducible refine And.intro ?_ ?_); (focus (omega))))
              all_goals first | exact ⟨rfl, rfl, rfl, .inr ⟨_, rfl⟩, .inr ⟨_, rfl⟩, .inr ⟨_, rfl⟩⟩ | exact ⟨.inr ⟨_, rfl⟩, .inr ⟨_, rfl⟩, .inr ⟨_, rfl⟩⟩ | exact ⟨rfl, rfl, rfl, .inr ⟨_, rfl⟩, .inr ⟨_, rfl⟩⟩ | exact ⟨.inr ⟨_, rfl⟩, .inr ⟨_, rfl⟩⟩ | exact .inr ⟨_, rfl⟩
            · have x2 : (if ((nd.length - f : Nat) : Int) < (g : Int) then ((nd.length - f : Nat) : Int) else (g : Int)) = ((nd.length - f : Nat) : Int) := if_pos (by omega)
              have x2b : (if (g : Int) < ((nd.length - f : Nat) : Int) then (g : Int) else ((nd.length - f : Nat) : Int)) = ((nd.length - f : Nat) : Int) := if_neg (by omega)
              have x5 : (nd.drop f).take g = (nd.drop f).take (nd.length - f) := by rw [List.take_of_length_le (by omega), List.take_of_length_le (by omega)]
              rw [x5]
              skip
              refine ent tabOK hmix Tryz.func43 rfl rfl fun X0 hX => ?_
              simp only [Tryz.f43, go_sem]
              repeat' (first | simp only [*, go_sem, Nat.reduceLT, Nat.reduceLeDiff, Nat.reduceEqDiff, ↓reduceIte, Nat.reduceAdd, Int.reduceBEq, beq_self_eq_true, Bool.not_true] | ((with_reducible refine useN (hget) ?_ ?_ ?_); (focus exact rfl); (focus exact fun _ => rfl)) | ((with_reducible refine useF (hid) ?_ ?_ ?_); (focus exact rfl); (focus exact rfl)) | ((refine vc_drawn (id := 57) tabOK hmix [10] [0,1,2,3,4,5,6,7,8,9,10] (by decide +kernel) ?_); (repeat' (first | (refine ds_nil ?_) | ((refine ds_chg ?_ ?_ rfl rfl rfl ?_ ?_); (rotate_left 2); (focus ((repeat' (simp only [*, go_sem, Nat.reduceLeDiff, Nat.reduceEqDiff, ↓reduceIte, Nat.reduceAdd, ])); ((refine And.intro ?_ ?_ <;> exact rfl)))); (simp only [putF_none])) | ((refine ds_all ?_ rfl rfl rfl ?_ ?_); (rotate_left 1); (focus ((repeat' (first | exact allH_nil | refine allH_cons ?_ ?_)); (all_goals ((repeat' (first | simp only [*, go_sem, Nat.reduceLT, Nat.reduceLeDiff, Nat.reduceEqDiff, ↓reduceIte, Nat.reduceAdd, Int.reduceLE, Int.reduceToNat, ] | ((with_reducible refine And.intro ?_ ?_); (focus (omega))))); (try (exact rfl)))))); (simp only [putF_some]))))) | ((with_reducible refine And.intro ?_ ?_); (focus (omega))))
              all_goals first | exact ⟨rfl, rfl, rfl, .inr ⟨_, rfl⟩, .inr ⟨_, rfl⟩, .inr ⟨_, rfl⟩⟩ | exact ⟨.inr ⟨_, rfl⟩, .inr ⟨_, rfl⟩, .inr ⟨_, rfl⟩⟩ | exact ⟨rfl, rfl, rfl, .inr ⟨_, rfl⟩, .inr ⟨_, rfl⟩⟩ | exact ⟨.inr ⟨_, rfl⟩, .inr ⟨_, rfl⟩⟩ | exact .inr ⟨_, rfl⟩
          · have x1 : (if (nd.length : Int) < (f : Int) then (nd.length : Int) else (f : Int)) = (nd.length : Int) := if_pos (by omega)
            have x1b : (if (f : Int) < (nd.length : Int) then (f : Int) else (nd.length : Int)) = (nd.length : Int) := if_neg (by omega)
            have hd0 : nd.drop nd.length = [] := List.drop_length
            rw [List.drop_of_length_le (by omega), List.take_nil]
            skip
            refine ent tabOK hmix Tryz.func43 rfl rfl fun X0 hX => ?_
            simp only [Tryz.f43, go_sem]
            repeat' (first | simp only [*, go_sem, Nat.reduceLT, Nat.reduceLeDiff, Nat.reduceEqDiff, ↓reduceIte, Nat.reduceAdd, Int.reduceBEq, beq_self_eq_true, Bool.not_true] | ((with_reducible refine useN (hget) ?_ ?_ ?_); (focus exact rfl); (focus exact fun _ => rfl)) | ((with_reducible refine useF (hid) ?_ ?_ ?_); (focus exact rfl); (focus exact rfl)) | ((refine vc_drawn (id := 57) tabOK hmix [10] [0,1,2,3,4,5,6,7,8,9,10] (by decide +kernel) ?_); (repeat' (first | (refine ds_nil ?_) | ((refine ds_chg ?_ ?_ rfl rfl rfl ?_ ?_); (rotate_left 2); (focus ((repeat' (simp only [*, go_sem, Nat.reduceLeDiff, Nat.reduceEqDiff, ↓reduceIte, Nat.reduceAdd, ])); ((refine And.intro ?_ ?_ <;> exact rfl)))); (simp only [putF_none])) | ((refine ds_all ?_ rfl rfl rfl ?_ ?_); (rotate_left 1); (focus ((repeat' (first | exact allH_nil | refine allH_cons ?_ ?_)); (all_goals ((repeat' (first | simp only [*, go_sem, Nat.reduceLT, Nat.reduceLeDiff, Nat.reduceEqDiff, ↓reduceIte, Nat.reduceAdd, Int.reduceLE, Int.reduceToNat, ] | ((with_reducible refine And.intro ?_ ?_); (focus (omega))))); (try (exact rfl)))))); (simp only [putF_some]))))) | ((with_reducible refine And.intro ?_ ?_); (focus (omega))))
            all_goals first | exact ⟨rfl, rfl, rfl, .inr ⟨_, rfl⟩, .inr ⟨_, rfl⟩, .inr ⟨_, rfl⟩⟩ | exact ⟨.inr ⟨_, rfl⟩, .inr ⟨_, rfl⟩, .inr ⟨_, rfl⟩⟩ | exact ⟨rfl, rfl, rfl, .inr ⟨_, rfl⟩, .inr ⟨_, rfl⟩⟩ | exact ⟨.inr ⟨_, rfl⟩, .inr ⟨_, rfl⟩⟩ | exact .inr ⟨_, rfl⟩
        ·
          refine ent tabOK hmix Tryz.func43 rfl rfl fun X0 hX => ?_
          simp only [Tryz.f43, go_sem]
          repeat' (first | simp only [*, go_sem, Nat.reduceLT, Nat.reduceLeDiff, Nat.reduceEqDiff, ↓reduceIte, Nat.reduceAdd, Int.reduceBEq, beq_self_eq_true, Bool.not_true] | ((with_reducible refine useN (hget) ?_ ?_ ?_); (focus exact rfl); (focus exact fun _ => rfl)) | ((with_reducible refine useF (hid) ?_ ?_ ?_); (focus exact rfl); (focus exact rfl)) | ((with_reducible refine useF (why_c) ?_ ?_ ?_); (focus exact rfl); (focus exact rfl)))
          all_goals first | exact ⟨rfl, rfl, rfl, .inr ⟨_, rfl⟩, .inr ⟨_, rfl⟩, .inr ⟨_, rfl⟩⟩ | exact ⟨.inr ⟨_, rfl⟩, .inr ⟨_, rfl⟩, .inr ⟨_, rfl⟩⟩ | exact ⟨rfl, rfl, rfl, .inr ⟨_, rfl⟩, .inr ⟨_, rfl⟩⟩ | exact ⟨.inr ⟨_, rfl⟩, .inr ⟨_, rfl⟩⟩ | exact .inr ⟨_, rfl⟩
      ·
        refine ent tabOK hmix Tryz.func43 rfl rfl fun X0 hX => ?_
        simp only [Tryz.f43, go_sem]
        repeat' (first | simp only [*, go_sem, Nat.reduceLT, Nat.reduceLeDiff, Nat.reduceEqDiff, ↓reduceIte, Nat.reduceAdd, Int.reduceBEq, beq_self_eq_true, Bool.not_true] | ((with_reducible refine useN (hget) ?_ ?_ ?_); (focus exact rfl); (focus exact fun _ => rfl)) | ((with_reducible refine useF (hid) ?_ ?_ ?_); (focus exact rfl); (focus exact rfl)) | ((with_reducible refine useF (why_c) ?_ ?_ ?_); (focus exact rfl); (focus exact rfl)))
        all_goals first | exact ⟨rfl, rfl, rfl, .inr ⟨_, rfl⟩, .inr ⟨_, rfl⟩, .inr ⟨_, rfl⟩⟩ | exact ⟨.inr ⟨_, rfl⟩, .inr ⟨_, rfl⟩, .inr ⟨_, rfl⟩⟩ | exact ⟨rfl, rfl, rfl, .inr ⟨_, rfl⟩, .inr ⟨_, rfl⟩⟩ | exact ⟨.inr ⟨_, rfl⟩, .inr ⟨_, rfl⟩⟩ | exact .inr ⟨_, rfl⟩
    ·
      refine ent tabOK hmix Tryz.func43 rfl rfl fun X0 hX => ?_
      simp only [Tryz.f43, go_sem]
      repeat' (first | simp only [*, go_sem, Nat.reduceLT, Nat.reduceLeDiff, Nat.reduceEqDiff, ↓reduceIte, Nat.reduceAdd, Int.reduceBEq, beq_self_eq_true, Bool.not_true] | ((with_reducible refine useN (hget) ?_ ?_ ?_); (focus exact rfl); (focus exact fun _ => rfl)) | ((with_reducible refine useF (hid) ?_ ?_ ?_); (focus exact rfl); (focus exact rfl)) | ((with_reducible refine useF (why_c) ?_ ?_ ?_); (focus exact rfl); (focus exact rfl)))
      all_goals first | exact ⟨rfl, rfl, rfl, .inr ⟨_, rfl⟩, .inr ⟨_, rfl⟩, .inr ⟨_, rfl⟩⟩ | exact ⟨.inr ⟨_, rfl⟩, .inr ⟨_, rfl⟩, .inr ⟨_, rfl⟩⟩ | exact ⟨rfl, rfl, rfl, .inr ⟨_, rfl⟩, .inr ⟨_, rfl⟩⟩ | exact ⟨.inr ⟨_, rfl⟩, .inr ⟨_, rfl⟩⟩ | exact .inr ⟨_, rfl⟩
end
end Go.Proofs.YtnbgaphhhjnjlaaGreatDoor

end

section
/-
  Contracts of the document's calls: what is written.
-/

set_option linter.unusedSimpArgs false
set_option linter.unusedVariables false
namespace Go.Proofs.YtnbgaphhhjnjlaaGreatDoor
open Go Go.Dm Go.Proofs
set_option maxRecDepth 100000
set_option maxHeartbeats 16000000

section
variable {t : List It} {p : List UInt8} {is : Bool} {cp cq : List UInt8} {cm : Int} {ct : Nat} {ca cn : Int} {cd : List UInt8}

theorem do_write (h : OkT t) (hca : -9223372036854775808 ≤ ca ∧ ca ≤ 9223372036854775807) (hcd : cd.length ≤ 140737488355328) : DoAt t p is 3 cp cq cm ct ca cn cd := by
  have htl := h.len
  have hget := getR_c (t := t) (p := p) (by omega)
  have hid := isDirR_c (t := t) (p := p) (by omega)
  have hnd := h.getd p
  unfold DoAt
  refine dcalls_wk ?_
  have hst := fun (k m : Int) (tt : Nat) (d : List UInt8) => setR_c (t := t) (p := p) (k := k) (m := m) (tt := tt) (d := d) (by omega)
  unfold doR1 anE
  simp only
  generalize (getR t p).getD nd0 = n at hget hnd ⊢
  generalize (getR t p).isSome = b at hget
  obtain ⟨nk, nm, nt, nd⟩ := n
  simp only at hget hnd ⊢
  generalize isDirR t p = D at hid ⊢
  cases is
  ·
    refine ent tabOK hmix Tryz.func43 rfl rfl fun X0 hX => ?_
    simp only [Tryz.f43, go_sem]
    repeat' (first | simp only [*, go_sem, Nat.reduceLT, Nat.reduceLeDiff, Nat.reduceEqDiff, ↓reduceIte, Nat.reduceAdd, Int.reduceBEq, Bool.not_false] | ((with_reducible refine useN (hget) ?_ ?_ ?_); (focus exact rfl); (focus exact fun _ => rfl)) | ((with_reducible refine useF (why_c) ?_ ?_ ?_); (focus exact rfl); (focus exact rfl)))
    all_goals first | exact ⟨rfl, rfl, rfl, .inr ⟨_, rfl⟩, .inr ⟨_, rfl⟩, .inr ⟨_, rfl⟩⟩ | exact ⟨.inr ⟨_, rfl⟩, .inr ⟨_, rfl⟩, .inr ⟨_, rfl⟩⟩ | exact ⟨rfl, rfl, rfl, .inr ⟨_, rfl⟩, .inr ⟨_, rfl⟩⟩ | exact ⟨.inr ⟨_, rfl⟩, .inr ⟨_, rfl⟩⟩ | exact .inr ⟨_, rfl⟩
  · cases D
    · cases h0 : decide (ca < 0)
      · obtain ⟨f, rfl⟩ : ∃ f : Nat, ca = f := ⟨ca.toNat, by simp at h0; omega⟩
        rw [Int.toNat_natCast]
        cases h1 : decide ((nd.length : Int) < (f : Int))
        · have h1' : f ≤ nd.length := by simp at h1; omega
          have hf0 : (0 : Int) ≤ (f : Int) := by omega
          have hfl : (f : Int) ≤ (nd.length : Int) := by omega
          have w1 : IntKind.i64.wrap (2000 - (f : Int)) = 2000 - (f : Int) := wrap_i64 (by omega) (by omega)
          cases h2 : decide (2000 - (f : Int) < (cd.length : Int))
          · have h2' : f + cd.length ≤ 2000 := by simp at h2; omega
            have htk : (nd.take f).length = f := by rw [List.length_take]; omega
            have hal : (nd.take f ++ cd).length = f + cd.length := by rw [List.length_append, htk]
            cases h3 : decide (((f + cd.length : Nat) : Int) < (nd.length : Int))
            · have e1 : wrD nd f cd = (nd.take f ++ cd).take (f + cd.length) := by
                have : ¬ f + cd.length < nd.length := by simp at h3; omega
                unfold wrD
                rw [List.drop_of_length_le (by omega), List.append_nil, List.take_of_length_le (l := nd.take f ++ cd) (by omega)]
              have hs2 := hst nk nm nt ((nd.take f ++ cd).take (f + cd.length))
              rw [e1]
              clear hst
              skip
              refine ent tabOK hmix Tryz.func43 rfl rfl fun X0 hX => ?_
              simp only [Tryz.f43, go_sem]
              repeat' (first | simp only [*, go_sem, Nat.reduceLT, Nat.reduceLeDiff, Nat.reduceEqDiff, ↓reduceIte, Nat.reduceAdd, Int.reduceBEq, beq_self_eq_true, Bool.not_true] | ((with_reducible refine useN (hget) ?_ ?_ ?_); (focus exact rfl); (focus exact fun _ => rfl)) | ((with_reducible refine useF (hid) ?_ ?_ ?_); (focus exact rfl); (focus exact rfl)) | ((with_reducible refine useF (why_c) ?_ ?_ ?_); (focus exact rfl); (focus exact rfl)) | ((refine vc_drawn (id := 20) tabOK hmix [0,6,9] [0,1,2,3,4,5,6,7,8,9,10] (by decide +kernel) ?_); (repeat' (first | (refine ds_nil ?_) | ((refine ds_chg ?_ ?_ rfl rfl rfl ?_ ?_); (rotate_left 2); (focus ((repeat' (first | simp only [*, go_sem, Nat.reduceLT, Nat.reduceLeDiff, Nat.reduceEqDiff, ↓reduceIte, Nat.reduceAdd, ] | ((with_reducible refine And.intro ?_ ?_); (focus (first | omega | decide))))); ((refine And.intro ?_ ?_ <;> exact rfl)))); (simp only [putF_some])) | ((refine ds_all ?_ rfl rfl rfl ?_ ?_); (rotate_left 1); (focus ((repeat' (first | exact allH_nil | refine allH_cons ?_ ?_)); (all_goals ((repeat' (simp only [*, go_sem, Nat.reduceLT, Nat.reduceEqDiff, ↓reduceIte, Int.reduceLE, Int.reduceToNat, ])); (try (exact rfl)))))); (simp only [putF_some]))))) | ((with_reducible refine useN (hs2) ?_ ?_ ?_); (focus exact rfl); (focus exact fun _ => rfl)) | ((with_reducible apply DCalls.frz); (focus exact rfl); (focus exact rfl)))
              all_goals first | exact ⟨rfl, rfl, rfl, .inr ⟨_, rfl⟩, .inr ⟨_, rfl⟩, .inr ⟨_, rfl⟩⟩ | exact ⟨.inr ⟨_, rfl⟩, .inr ⟨_, rfl⟩, .inr ⟨_, rfl⟩⟩ | exact ⟨rfl, rfl, rfl, .inr ⟨_, rfl⟩, .inr ⟨_, rfl⟩⟩ | exact ⟨.inr ⟨_, rfl⟩, .inr ⟨_, rfl⟩⟩ | exact .inr ⟨_, rfl⟩
            · have h4 : f + cd.length ≤ nd.length := by simp at h3; omega
              have h5 : ((f + cd.length : Nat) : Int) ≤ (nd.length : Int) := by omega
              have h6 : (0 : Int) ≤ ((f + cd.length : Nat) : Int) := by omega
              have hdl : (nd.drop (f + cd.length)).length = nd.length - (f + cd.length) := List.length_drop
              have hs2 := hst nk nm nt ((nd.take f ++ cd ++ nd.drop (f + cd.length)).take (f + cd.length + (nd.length - (f + cd.length))))
              have e1 : wrD nd f cd = (nd.take f ++ cd ++ nd.drop (f + cd.length)).take (f + cd.length + (nd.length - (f + cd.length))) := by
                unfold wrD
                rw [List.take_of_length_le (l := nd.take f ++ cd ++ nd.drop (f + cd.length)) (by rw [List.length_append, hal, hdl]; omega)]
              rw [e1]
              clear hst
              skip
              refine ent tabOK hmix Tryz.func43 rfl rfl fun X0 hX => ?_
              simp only [Tryz.f43, go_sem]
              repeat' (first | simp only [*, go_sem, Nat.reduceLT, Nat.reduceLeDiff, Nat.reduceEqDiff, ↓reduceIte, Nat.reduceAdd, Int.reduceBEq, beq_self_eq_true, Bool.not_true] | ((with_reducible refine useN (hget) ?_ ?_ ?_); (focus exact rfl); (focus exact fun _ => rfl)) | ((with_reducible refine useF (hid) ?_ ?_ ?_); (focus exact rfl); (focus exact rfl)) | ((with_reducible refine useF (why_c) ?_ ?_ ?_); (focus exact rfl); (focus exact rfl)) | ((refine vc_drawn (id := 20) tabOK hmix [0,6,9] [0,1,2,3,4,5,6,7,8,9,10] (by decide +kernel) ?_); (repeat' (first | (refine ds_nil ?_) | ((refine ds_chg ?_ ?_ rfl rfl rfl ?_ ?_); (rotate_left 2); (focus ((repeat' (first | simp only [*, go_sem, Nat.reduceLT, Nat.reduceLeDiff, Nat.reduceEqDiff, ↓reduceIte, Nat.reduceAdd, ] | ((with_reducible refine And.intro ?_ ?_); (focus (first | omega | decide))))); ((refine And.intro ?_ ?_ <;> exact rfl)))); (simp only [putF_some])) | ((refine ds_all ?_ rfl rfl rfl ?_ ?_); (rotate_left 1); (focus ((repeat' (first | exact allH_nil | refine allH_cons ?_ ?_)); (all_goals ((repeat' (simp only [*, go_sem, Nat.reduceLT, Nat.reduceEqDiff, ↓reduceIte, Int.reduceLE, Int.reduceToNat, ])); (try (exact rfl)))))); (simp only [putF_some]))))) | ((with_reducible refine useN (hs2) ?_ ?_ ?_); (focus exact rfl); (focus exact fun _ => rfl)) | ((with_reducible apply DCalls.frz); (focus exact rfl); (focus exact rfl)) | ((with_reducible refine And.intro ?_ ?_); (focus (omega))))
              all_goals first | exact ⟨rfl, rfl, rfl, .inr ⟨_, rfl⟩, .inr ⟨_, rfl⟩, .inr ⟨_, rfl⟩⟩ | exact ⟨.inr ⟨_, rfl⟩, .inr ⟨_, rfl⟩, .inr ⟨_, rfl⟩⟩ | exact ⟨rfl, rfl, rfl, .inr ⟨_, rfl⟩, .inr ⟨_, rfl⟩⟩ | exact ⟨.inr ⟨_, rfl⟩, .inr ⟨_, rfl⟩⟩ | exact .inr ⟨_, rfl⟩
          ·
            refine ent tabOK hmix Tryz.func43 rfl rfl fun X0 hX => ?_
            simp only [Tryz.f43, go_sem]
            repeat' (first | simp only [*, go_sem, Nat.reduceLT, Nat.reduceLeDiff, Nat.reduceEqDiff, ↓reduceIte, Nat.reduceAdd, Int.reduceBEq, beq_self_eq_true, Bool.not_true] | ((with_reducible refine useN (hget) ?_ ?_ ?_); (focus exact rfl); (focus exact fun _ => rfl)) | ((with_reducible refine useF (hid) ?_ ?_ ?_); (focus exact rfl); (focus exact rfl)) | ((with_reducible refine useF (why_c) ?_ ?_ ?_); (focus exact rfl); (focus exact rfl)))
            all_goals first | exact ⟨rfl, rfl, rfl, .inr ⟨_, rfl⟩, .inr ⟨_, rfl⟩, .inr ⟨_, rfl⟩⟩ | exact ⟨.inr ⟨_, rfl⟩, .inr ⟨_, rfl⟩, .inr ⟨_, rfl⟩⟩ | exact ⟨rfl, rfl, rfl, .inr ⟨_, rfl⟩, .inr ⟨_, rfl⟩⟩ | exact ⟨.inr ⟨_, rfl⟩, .inr ⟨_, rfl⟩⟩ | exact .inr ⟨_, rfl⟩
        ·
          refine ent tabOK hmix Tryz.func43 rfl rfl fun X0 hX => ?_
          simp only [Tryz.f43, go_sem]
          repeat' (first | simp only [*, go_sem, Nat.reduceLT, Nat.reduceLeDiff, Nat.reduceEqDiff, ↓reduceIte, Nat.reduceAdd, Int.reduceBEq, beq_self_eq_true, Bool.not_true] | ((with_reducible refine useN (hget) ?_ ?_ ?_); (focus exact rfl); (focus exact fun _ => rfl)) | ((with_reducible refine useF (hid) ?_ ?_ ?_); (focus exact rfl); (focus exact rfl)) | ((with_reducible refine useF (why_c) ?_ ?_ ?_); (focus exact rfl); (focus exact rfl)))
          all_goals first | exact ⟨rfl, rfl, rfl, .inr ⟨_, rfl⟩, .inr ⟨_, rfl⟩, .inr ⟨_, rfl⟩⟩ | exact ⟨.inr ⟨_, rfl⟩, .inr ⟨_, rfl⟩, .inr ⟨_, rfl⟩⟩ | exact ⟨rfl, rfl, rfl, .inr ⟨_, rfl⟩, .inr ⟨_, rfl⟩⟩ | exact ⟨.inr ⟨_, rfl⟩, .inr ⟨_, rfl⟩⟩ | exact .inr ⟨_, rfl⟩
      ·
        refine ent tabOK hmix Tryz.func43 rfl rfl fun X0 hX => ?_
        simp only [Tryz.f43, go_sem]
        repeat' (first | simp only [*, go_sem, Nat.reduceLT, Nat.reduceLeDiff, Nat.reduceEqDiff, ↓reduceIte, Nat.reduceAdd, Int.reduceBEq, beq_self_eq_true, Bool.not_true] | ((with_reducible refine useN (hget) ?_ ?_ ?_); (focus exact rfl); (focus exact fun _ => rfl)) | ((with_reducible refine useF (hid) ?_ ?_ ?_); (focus exact rfl); (focus exact rfl)) | ((with_reducible refine useF (why_c) ?_ ?_ ?_); (focus exact rfl); (focus exact rfl)))
        all_goals first | exact ⟨rfl, rfl, rfl, .inr ⟨_, rfl⟩, .inr ⟨_, rfl⟩, .inr ⟨_, rfl⟩⟩ | exact ⟨.inr ⟨_, rfl⟩, .inr ⟨_, rfl⟩, .inr ⟨_, rfl⟩⟩ | exact ⟨rfl, rfl, rfl, .inr ⟨_, rfl⟩, .inr ⟨_, rfl⟩⟩ | exact ⟨.inr ⟨_, rfl⟩, .inr ⟨_, rfl⟩⟩ | exact .inr ⟨_, rfl⟩
    ·
      refine ent tabOK hmix Tryz.func43 rfl rfl fun X0 hX => ?_
      simp only [Tryz.f43, go_sem]
      repeat' (first | simp only [*, go_sem, Nat.reduceLT, Nat.reduceLeDiff, Nat.reduceEqDiff, ↓reduceIte, Nat.reduceAdd, Int.reduceBEq, beq_self_eq_true, Bool.not_true] | ((with_reducible refine useN (hget) ?_ ?_ ?_); (focus exact rfl); (focus exact fun _ => rfl)) | ((with_reducible refine useF (hid) ?_ ?_ ?_); (focus exact rfl); (focus exact rfl)) | ((with_reducible refine useF (why_c) ?_ ?_ ?_); (focus exact rfl); (focus exact rfl)))
      all_goals first | exact ⟨rfl, rfl, rfl, .inr ⟨_, rfl⟩, .inr ⟨_, rfl⟩, .inr ⟨_, rfl⟩⟩ | exact ⟨.inr ⟨_, rfl⟩, .inr ⟨_, rfl⟩, .inr ⟨_, rfl⟩⟩ | exact ⟨rfl, rfl, rfl, .inr ⟨_, rfl⟩, .inr ⟨_, rfl⟩⟩ | exact ⟨.inr ⟨_, rfl⟩, .inr ⟨_, rfl⟩⟩ | exact .inr ⟨_, rfl⟩
end
end Go.Proofs.YtnbgaphhhjnjlaaGreatDoor

end
