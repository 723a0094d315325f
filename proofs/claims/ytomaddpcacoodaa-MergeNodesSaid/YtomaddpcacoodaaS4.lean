/-
  That the program's merge of nodes is the document's. No condition beyond times that are words of 64 bits.
-/
import Derived.Test.YtomaddpcacoodaaS3
set_option linter.unusedSimpArgs false
set_option linter.unusedVariables false
namespace Go.Dm
open Go

def Nd.wf (x : Nd) : Prop := x.t < 18446744073709551616

theorem ndSame_eq {x y : Nd} (hx : x.wf) (hy : y.wf) : ndSame x y = sameNd x y := by
  unfold ndSame sameNd
  rw [numCmp_zero hx hy]
  cases x.k == y.k <;> cases x.m == y.m <;> cases x.d == y.d <;> cases bitsF x.t == bitsF y.t <;> rfl
theorem sameNd_refl (x : Nd) : sameNd x x = true := by simp [sameNd]
theorem sameNd_symm {x y : Nd} (h : sameNd x y = true) : sameNd y x = true := by
  simp only [sameNd, Bool.and_eq_true, beq_iff_eq] at h ⊢
  obtain ⟨⟨⟨h1, h2⟩, h3⟩, h4⟩ := h
  exact ⟨⟨⟨h1.symm, h2.symm⟩, h3.symm⟩, h4.symm⟩
theorem sameNd_trans {x y z : Nd} (h : sameNd x y = true) (k : sameNd y z = true) : sameNd x z = true := by
  simp only [sameNd, Bool.and_eq_true, beq_iff_eq] at h k ⊢
  obtain ⟨⟨⟨h1, h2⟩, h3⟩, h4⟩ := h
  obtain ⟨⟨⟨k1, k2⟩, k3⟩, k4⟩ := k
  exact ⟨⟨⟨h1.trans k1, h2.trans k2⟩, h3.trans k3⟩, h4.trans k4⟩
theorem sameM_eq {x y : Nd} (hx : x.wf) (hy : y.wf) (p q : Bool) : sameM x y p q = sameR x y p q := by
  unfold sameM sameR
  rw [ndSame_eq hx hy]
theorem sameR_both {x y z : Nd} {p q r : Bool} (h : sameR x y p q = true) (k : sameR x z p r = true) : sameR y z q r = true := by
  simp only [sameR, Bool.and_eq_true, Bool.or_eq_true, beq_iff_eq, Bool.not_eq_true'] at h k ⊢
  obtain ⟨rfl, h2⟩ := h
  obtain ⟨rfl, k2⟩ := k
  refine ⟨rfl, ?_⟩
  rcases h2 with h2 | h2
  · exact .inl h2
  · rcases k2 with k2 | k2
    · exact .inl k2
    · exact .inr (sameNd_trans (sameNd_symm h2) k2)
theorem whatF_both {x y z : Nd} (h : whatF x y = true) (k : whatF x z = true) : whatF y z = true := by
  simp only [whatF, Bool.and_eq_true, beq_iff_eq] at h k ⊢
  exact ⟨h.1.symm.trans k.1, h.2.symm.trans k.2⟩
theorem side_pick {b alike o t : Bool} (h : o = true → t = true → alike = true) : sideF b alike o t = match pickR b alike o t with
    | some true => 1
    | some false => 2
    | none => 0 := by
  cases b <;> cases alike <;> cases o <;> cases t <;> simp_all [sideF, pickR]

theorem node_law {base o t : Nd} (hb : base.wf) (ho : o.wf) (ht : t.wf) (b p q : Bool) :
    (nodeM base o t b p q).2.2 = (nodeR base o t b p q).2.2 ∧ (nodeM base o t b p q).2.1 = (nodeR base o t b p q).2.1 ∧ ((nodeM base o t b p q).2.1 = false → (nodeM base o t b p q).1.k = 0) ∧
      ((nodeM base o t b p q).2.1 = true → sameNd (nodeM base o t b p q).1 (nodeR base o t b p q).1 = true) := by
  unfold nodeM nodeR
  rw [sameM_eq ho ht, sameM_eq hb ht, sameM_eq hb ho]
  by_cases h1 : sameR o t p q = true
  · simp only [h1, Bool.true_or, if_true]
    cases p <;> simp [nd0, sameNd_refl]
  · by_cases h2 : sameR base t b q = true
    · have h3 : sameR base o b p = false := by
        cases h3 : sameR base o b p with
        | false => rfl
        | true => exact absurd (sameR_both h3 h2) h1
      simp only [h1, h2, h3, Bool.or_true, if_true, Bool.false_eq_true, if_false]
      cases p <;> simp [nd0, sameNd_refl]
    · by_cases h3 : sameR base o b p = true
      · simp only [h1, h2, h3, Bool.or_self, Bool.false_eq_true, if_false, if_true]
        cases q <;> simp [nd0, sameNd_refl]
      · simp only [h1, h2, h3, Bool.or_self, Bool.false_eq_true, if_false]
        cases p with
        | false => simp [nd0]
        | true =>
          cases q with
          | false => simp [nd0]
          | true =>
            simp only [Bool.not_true, Bool.false_eq_true, if_false, partsF]
            have e1 := side_pick (b := b) (o := whatF base o) (t := whatF base t) (alike := whatF o t) (fun x y => whatF_both x y)
            have e2 := side_pick (b := b) (o := base.m == o.m) (t := base.m == t.m) (alike := o.m == t.m) (fun x y => by simp only [beq_iff_eq] at x y ⊢; exact x.symm.trans y)
            have e3 := side_pick (b := b) (o := bitsF base.t == bitsF o.t) (t := bitsF base.t == bitsF t.t) (alike := bitsF o.t == bitsF t.t) (fun x y => by simp only [beq_iff_eq] at x y ⊢; exact x.symm.trans y)
            simp only [numCmp_zero ho ht, numCmp_zero hb ho, numCmp_zero hb ht, laterN_eq ho ht, e1, e2, e3]
            clear e1 e2 e3
            cases pickR b (whatF o t) (whatF base o) (whatF base t) with
            | none => cases b <;> by_cases hk : o.k = t.k <;> simp [nd0, hk]
            | some w =>
              cases pickR b (o.m == t.m) (base.m == o.m) (base.m == t.m) with
              | none => cases w <;> cases b <;> by_cases hk : o.k = t.k <;> simp [nd0, hk]
              | some m =>
                cases pickR b (bitsF o.t == bitsF t.t) (bitsF base.t == bitsF o.t) (bitsF base.t == bitsF t.t) with
                | none => cases w <;> cases m <;> simp [sameNd_refl]
                | some c => cases w <;> cases m <;> cases c <;> simp [sameNd_refl]

theorem timeF_lt {n : Int} {x : Nat} (hx : x < 18446744073709551616) : timeF n x < 18446744073709551616 := by
  unfold timeF
  split
  · rename_i h
    have h1 := Int.emod_nonneg n (show (15 : Int) ≠ 0 by decide)
    generalize n % 15 = k at h h1
    have : k = 0 ∨ k = 1 ∨ k = 2 ∨ k = 3 ∨ k = 4 ∨ k = 5 ∨ k = 6 ∨ k = 7 ∨ k = 8 ∨ k = 9 ∨ k = 10 ∨ k = 11 := by omega
    rcases this with rfl | rfl | rfl | rfl | rfl | rfl | rfl | rfl | rfl | rfl | rfl | rfl <;> decide
  · exact hx
theorem nodeF_wf {x : RN} (hx : x.x < 18446744073709551616) : (nodeF x).wf := bitsF_lt (timeF_lt hx)
theorem nearF_wf {n : Nd} {how : Int} {x : RN} (hn : n.wf) (hx : x.x < 18446744073709551616) : (nearF n how x).wf := by
  unfold nearF
  repeat' split
  all_goals first | exact nodeF_wf hx | exact bitsF_lt (timeF_lt hx) | exact hn
/-! Nodes that differ by their time alone. -/
def tauF (a o c : Nat) : Nat := if (numCmp o c == 0) || (numCmp a c == 0) then o else if numCmp a o == 0 then c else laterN o c
theorem numCmp_self {x : Nat} (hx : x < 18446744073709551616) : (numCmp x x == 0) = true := by rw [numCmp_zero hx hx]; simp
theorem times_node {k m : Int} {d : List UInt8} {a o c : Nat} (ha : a < 18446744073709551616) (ho : o < 18446744073709551616) (hc : c < 18446744073709551616) :
    nodeM ⟨k, m, a, d⟩ ⟨k, m, o, d⟩ ⟨k, m, c, d⟩ true true true = (⟨k, m, tauF a o c, d⟩, true, 0) := by
  have hw : ∀ x y : Nat, whatF ⟨k, m, x, d⟩ ⟨k, m, y, d⟩ = true := fun x y => by simp [whatF]
  have hs : ∀ x y : Nat, sameM ⟨k, m, x, d⟩ ⟨k, m, y, d⟩ true true = (numCmp x y == 0) := fun x y => by simp [sameM, ndSame]
  unfold nodeM tauF
  simp only [hs, partsF, hw, sideF, beq_self_eq_true, Bool.true_and, Bool.true_or, if_true]
  by_cases h1 : (numCmp o c == 0) = true
  · simp [h1]
  · by_cases h2 : (numCmp a c == 0) = true
    · simp [h2]
    · by_cases h3 : (numCmp a o == 0) = true
      · simp [h1, h2, h3]
      · simp [h1, h2, h3]
theorem laterN_swap {x y : Nat} (hx : x < 18446744073709551616) (hy : y < 18446744073709551616) : bitsF (laterN x y) = bitsF (laterN y x) := by
  unfold laterN
  rw [numCmp_key hx hy, numCmp_key hy hx]
  by_cases h : (numCmp x y == 0) = true
  · have hb : bitsF x = bitsF y := by rw [numCmp_zero hx hy] at h; simpa using h
    split <;> split <;> simp [bitsF_idem, hb]
  · rw [numCmp_key hx hy, cmpI_zero] at h
    have hne : keyI x ≠ keyI y := by simpa using h
    unfold cmpI
    by_cases hlt : keyI x < keyI y
    · simp only [hlt, if_true]
      have : ¬ keyI y < keyI x := by omega
      simp [this]
    · have : keyI y < keyI x := by omega
      simp [hlt, this]
theorem bitsF_same {x y : Nat} (hx : x < 18446744073709551616) (hy : y < 18446744073709551616) : (numCmp x y == 0) = true ↔ bitsF x = bitsF y := by rw [numCmp_zero hx hy]; simp
theorem laterN_lt {x y : Nat} (hx : x < 18446744073709551616) (hy : y < 18446744073709551616) : laterN x y < 18446744073709551616 := by
  unfold laterN; split <;> exact bitsF_lt (by assumption)
theorem tauF_lt {a o c : Nat} (ho : o < 18446744073709551616) (hc : c < 18446744073709551616) : tauF a o c < 18446744073709551616 := by
  unfold tauF; repeat' split
  all_goals first | assumption | exact laterN_lt ho hc
theorem times_same {k m : Int} {d : List UInt8} {a o c : Nat} (ha : a < 18446744073709551616) (ho : o < 18446744073709551616) (hc : c < 18446744073709551616) : sameNd ⟨k, m, tauF a o c, d⟩ ⟨k, m, tauF a c o, d⟩ = true := by
  simp only [sameNd, beq_self_eq_true, Bool.true_and, beq_iff_eq]
  have e1 := bitsF_same ho hc
  have e2 := bitsF_same hc ho
  have e3 := bitsF_same ha hc
  have e4 := bitsF_same ha ho
  have e5 := laterN_swap ho hc
  unfold tauF
  by_cases h1 : (numCmp o c == 0) = true <;> by_cases h2 : (numCmp a c == 0) = true <;> by_cases h3 : (numCmp a o == 0) = true <;> by_cases h4 : (numCmp c o == 0) = true <;> simp_all
theorem times_want {a o c : Nat} (ha : a < 18446744073709551616) (ho : o < 18446744073709551616) (hc : c < 18446744073709551616) :
    ((numCmp a o == 0) = true → (numCmp (tauF a o c) c == 0) = true) ∧ ((numCmp a o == 0) = false → (numCmp a c == 0) = true → (numCmp (tauF a o c) o == 0) = true) ∧
      ((numCmp a o == 0) = false → (numCmp a c == 0) = false → (numCmp (tauF a o c) (laterN o c) == 0) = true) := by
  have e1 := bitsF_same ho hc
  have e3 := bitsF_same ha hc
  have e4 := bitsF_same ha ho
  rw [bitsF_same (tauF_lt ho hc) hc, bitsF_same (tauF_lt ho hc) ho, bitsF_same (tauF_lt ho hc) (laterN_lt ho hc)]
  unfold tauF
  have hl : bitsF o = bitsF c → bitsF (laterN o c) = bitsF o := by
    intro h
    unfold laterN
    split <;> simp [bitsF_idem, h]
  by_cases h1 : (numCmp o c == 0) = true <;> by_cases h2 : (numCmp a c == 0) = true <;> by_cases h3 : (numCmp a o == 0) = true <;> simp_all
end Go.Dm
