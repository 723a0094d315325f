/-
  Trees and changes that are the same: just those of the same bytes. No condition beyond times that are words of 64 bits.
-/
import Derived.Test.YtfpeelbddefhhaaGreatDoorSD
set_option linter.unusedSimpArgs false
set_option linter.unusedVariables false
namespace Go.Dm
open Go

def sameIt (x y : It) : Bool := x.p == y.p && ndSame x.n y.n
def sameTs : List It → List It → Bool
  | [], [] => true
  | x :: a, y :: b => sameIt x y && sameTs a b
  | _, _ => false
theorem sameTs_drop {a b : List It} {k : Nat} {x y : It} (ha : a[k]? = some x) (hb : b[k]? = some y) : sameTs (a.drop k) (b.drop k) = (sameIt x y && sameTs (a.drop (k + 1)) (b.drop (k + 1))) := by
  obtain ⟨h1, rfl⟩ := List.getElem?_eq_some_iff.1 ha
  obtain ⟨h2, rfl⟩ := List.getElem?_eq_some_iff.1 hb
  rw [List.drop_eq_getElem_cons h1, List.drop_eq_getElem_cons h2, sameTs]
theorem sameTs_len : ∀ {a b : List It}, a.length ≠ b.length → sameTs a b = false
  | [], [], h => absurd rfl h
  | [], _ :: _, _ => rfl
  | _ :: _, [], _ => rfl
  | x :: a, y :: b, h => by
    rw [sameTs, sameTs_len (a := a) (b := b) fun e => h (by simp [e]), Bool.and_false]
theorem sameTs_refl : ∀ {a : List It}, (∀ x ∈ a, x.n.wf) → sameTs a a = true
  | [], _ => rfl
  | x :: a, h => by
    rw [sameTs, sameTs_refl fun y hy => h y (List.mem_cons_of_mem _ hy), sameIt, ndSame_self (h x List.mem_cons_self)]
    simp
/-- A node whose time is as the program lays it. -/
def plainN (n : Nd) : Prop := n.wf ∧ bitsF n.t = n.t
theorem right_plain {n : Nd} (h : rightNodeR n = true) (hw : n.wf) : plainN n := by
  refine ⟨hw, ?_⟩
  unfold rightNodeR at h
  simp only [Bool.and_eq_true, Bool.not_eq_true', Bool.or_eq_false_iff, decide_eq_false_iff_not] at h
  obtain ⟨⟨⟨_, _⟩, h2⟩, _⟩ := h
  rw [Bool.not_eq_false', plainR_eq hw, beq_iff_eq] at h2
  exact h2
theorem nd0_plain : plainN nd0 := ⟨show (0 : Nat) < 18446744073709551616 by decide, by decide⟩
theorem nd_same_eq {x y : Nd} (hx : plainN x) (hy : plainN y) (h : ndSame x y = true) : x = y := by
  rw [ndSame_eq hx.1 hy.1] at h
  unfold sameNd at h
  simp only [Bool.and_eq_true, beq_iff_eq] at h
  obtain ⟨⟨⟨h1, h2⟩, h3⟩, h4⟩ := h
  rw [hx.2, hy.2] at h4
  cases x; cases y
  simp only at h1 h2 h3 h4
  subst h1 h2 h3 h4
  rfl
theorem sameTs_eq : ∀ {a b : List It}, (∀ x ∈ a, plainN x.n) → (∀ x ∈ b, plainN x.n) → sameTs a b = true → a = b
  | [], [], _, _, _ => rfl
  | [], _ :: _, _, _, h => by cases h
  | _ :: _, [], _, _, h => by cases h
  | x :: a, y :: b, ha, hb, h => by
    rw [sameTs, Bool.and_eq_true, sameIt, Bool.and_eq_true, beq_iff_eq] at h
    obtain ⟨⟨h1, h2⟩, h3⟩ := h
    have e1 := nd_same_eq (ha x List.mem_cons_self) (hb y List.mem_cons_self) h2
    have e2 := sameTs_eq (fun z hz => ha z (List.mem_cons_of_mem _ hz)) (fun z hz => hb z (List.mem_cons_of_mem _ hz)) h3
    cases x; cases y
    simp only at h1 e1
    subst h1 e1 e2
    rfl
theorem OkT.plain {t : List It} (h : OkT t) : ∀ x ∈ t, plainN x.n := fun x hx => by
  obtain ⟨_, _, h3, h4⟩ := h.its x hx
  exact right_plain h3 h4
theorem sameTs_lay {a b : List It} (ha : OkT a) (hb : OkT b) : (layTree a == layTree b) = sameTs a b := by
  cases h : sameTs a b
  · cases h2 : (layTree a == layTree b)
    · rfl
    · rw [layTree_inj ha hb (eq_of_beq h2), sameTs_refl fun x hx => (hb.plain x hx).1] at h
      cases h
  · rw [sameTs_eq ha.plain hb.plain h]; simp
theorem sameCs_eq : ∀ {a b : List Ch}, (∀ x ∈ a, plainN x.o ∧ plainN x.n) → (∀ x ∈ b, plainN x.o ∧ plainN x.n) → sameCs a b = true → a = b
  | [], [], _, _, _ => rfl
  | [], _ :: _, _, _, h => by cases h
  | _ :: _, [], _, _, h => by cases h
  | x :: a, y :: b, ha, hb, h => by
    rw [sameCs, Bool.and_eq_true, sameCh] at h
    obtain ⟨h1, h3⟩ := h
    simp only [Bool.and_eq_true, beq_iff_eq] at h1
    obtain ⟨⟨⟨h1, h4⟩, h5⟩, h6⟩ := h1
    have e1 := nd_same_eq (ha x List.mem_cons_self).1 (hb y List.mem_cons_self).1 h5
    have e2 := nd_same_eq (ha x List.mem_cons_self).2 (hb y List.mem_cons_self).2 h6
    have e3 := sameCs_eq (fun z hz => ha z (List.mem_cons_of_mem _ hz)) (fun z hz => hb z (List.mem_cons_of_mem _ hz)) h3
    cases x; cases y
    simp only at h1 h4 e1 e2
    subst h1 h4 e1 e2 e3
    rfl
theorem mayC_plain {c : Ch} (h : mayC c = true) (ho : c.o.wf) (hn : c.n.wf) : plainN c.o ∧ plainN c.n := by
  obtain ⟨m1, m2, m3, m4, _⟩ := mayC_nodes h
  constructor
  · cases hk : (c.k == 1)
    · exact right_plain (m2 hk) ho
    · rw [m1 hk]; exact nd0_plain
  · cases hk : (c.k == 2)
    · exact right_plain (m4 hk) hn
    · rw [m3 hk]; exact nd0_plain
theorem sameCs_lay {a b : List Ch} (ha : rightCs a = true) (haw : ∀ x ∈ a, x.o.wf ∧ x.n.wf) (hal : a.length ≤ 65535) (hb : rightCs b = true) (hbw : ∀ x ∈ b, x.o.wf ∧ x.n.wf) (hbl : b.length ≤ 65535) : (layChs a == layChs b) = sameCs a b := by
  cases h : sameCs a b
  · cases h2 : (layChs a == layChs b)
    · rfl
    · rw [layChs_inj ha haw hal hb hbw hbl (eq_of_beq h2), sameCs_refl hbw] at h
      cases h
  · rw [sameCs_eq (fun x hx => mayC_plain (rightFrom_all ha x hx) (haw x hx).1 (haw x hx).2) (fun x hx => mayC_plain (rightFrom_all hb x hx) (hbw x hx).1 (hbw x hx).2) h]; simp
theorem diffF_rightCs {a b : List It} (ha : OkT a) (hb : OkT b) : rightCs (diffF a b) = true := diffF_right ha hb
/-- A row's end ahead of which the k-th change stands. -/
def aheadK (l : List Ch) : Nat → Option (List UInt8)
  | 0 => none
  | k + 1 => (l[k]?).map Ch.p
theorem aheadK_succ {l : List Ch} {k : Nat} {x : Ch} (h : l[k]? = some x) : aheadK l (k + 1) = some x.p := by rw [aheadK, h]; rfl
theorem cmpS_le (a b : List UInt8) : decide (cmpS a b ≤ 0) = !bltL b a := by
  unfold cmpS
  cases h : bltL b a
  · cases h2 : bltL a b
    · have e := blt_tri h2 h
      subst e
      simp
    · simp
  · rw [blt_asymm h]
    cases he : (a == b)
    · simp
    · rw [eq_of_beq he, blt_irrefl] at h; cases h
theorem flatC_len {t : List Ch} (h : ∀ x ∈ t, x.p.length ≤ 65535 ∧ x.o.d.length ≤ 65535 ∧ x.n.d.length ≤ 65535) : (t.map layCh).flatten.length ≤ 300000 * t.length := by
  induction t with
  | nil => simp
  | cons x t ih =>
    obtain ⟨h1, h2, h3⟩ := h x List.mem_cons_self
    have := ih fun y hy => h y (List.mem_cons_of_mem _ hy)
    have e1 : (if x.k == 1 then [] else layNode x.o).length ≤ 13 + x.o.d.length := by
      split
      · simp
      · rw [layNode_len]; omega
    have e2 : (if x.k == 2 then [] else layNode x.n).length ≤ 13 + x.n.d.length := by
      split
      · simp
      · rw [layNode_len]; omega
    simp only [List.map_cons, List.flatten_cons, List.length_append, List.length_cons, layCh, textF, u16F_len]
    omega
theorem layChs_len {t : List Ch} (hl : t.length ≤ 1000000) (h : ∀ x ∈ t, x.p.length ≤ 65535 ∧ x.o.d.length ≤ 65535 ∧ x.n.d.length ≤ 65535) : (layChs t).length ≤ 140737488355328 := by
  have := flatC_len h
  rw [layChs, List.length_append, u16F_len]
  omega
end Go.Dm
