import Derived.Test.YtnbgaphhhjnjlaaGreatDoorCC
import Derived.Test.YtnbgaphhhjnjlaaGreatDoorSU
import Derived.Test.YtnbgaphhhjnjlaaGreatDoorCH
import Derived.Test.YtnbgaphhhjnjlaaGreatDoorSE

section
/-
  A move and the move back. Conditions: the tree is right, the move goes.
-/

set_option linter.unusedSimpArgs false
set_option linter.unusedVariables false
namespace Go.Dm
open Go

/-- What a call that is refused leaves. -/
theorem doP_err {t : List It} {c : Cl} (h : (doP t c).2.e ≠ 0) : (doP t c).1 = t := by
  unfold doP at h ⊢
  split
  · rfl
  · rename_i h1
    rw [if_neg h1] at h
    split
    · rfl
    · rename_i h2
      rw [if_neg h2] at h
      split
      · rfl
      · rename_i h3
        rw [if_neg h3] at h
        split
        · rename_i h4
          rw [if_pos h4] at h
          exact absurd rfl h
        · rfl
end Go.Dm

end

section
/-
  What a call leaves: the tree is right; what is refused, and what only asks, turns nothing; a refusal bears nothing. No condition.
-/

set_option linter.unusedSimpArgs false
set_option linter.unusedVariables false
namespace Go.Dm
open Go

def GoodR (x : List It × Int) : Prop := x.2 = 0 → OkT x.1
theorem good_ite {c : Prop} [Decidable c] {a b : List It × Int} (ha : c → GoodR a) (hb : ¬ c → GoodR b) : GoodR (if c then a else b) := by
  split
  · exact ha (by assumption)
  · exact hb (by assumption)
theorem good_no {l : List It} {e : Int} (h : e ≠ 0) : GoodR (l, e) := fun he => absurd he h
theorem good_nob {l : List It} {e : Int} (h : (!(e == 0)) = true) : GoodR (l, e) := good_no (by simpa using h)
section
attribute [local irreducible] putR moveR makeP
theorem make_ok {t : List It} (h : OkT t) {p : List UInt8} {is : Bool} {kind : Int} {c : Cl} (hc : c.t < 18446744073709551616) : GoodR (makeP t p is kind c) := by
  unfold makeP
  repeat' refine good_ite (fun _ => ?_) fun _ => ?_
  all_goals first
    | (exact good_no (by decide))
    | exact fun he => h.put (show bitsF c.t < _ from bitsF_lt hc) he
theorem turned_ok {t : List It} (h : OkT t) {p : List UInt8} {is : Bool} {n : Nd} {c : Cl} (hn : n.t < 18446744073709551616) (hc : c.t < 18446744073709551616) : GoodR (turnedP t p is n c) := by
  have hb : bitsF c.t < 18446744073709551616 := bitsF_lt hc
  unfold turnedP rmdirP setP renameP writeP truncP
  repeat' refine good_ite (fun _ => ?_) fun _ => ?_
  all_goals first
    | exact make_ok h hc
    | (exact good_no (by decide))
    | (exact good_nob (by assumption))
    | exact fun _ => h
    | exact fun _ => h.remove _
    | exact fun he => h.put hb he
    | exact fun he => h.put (show n.t < _ from hn) he
    | exact fun he => (h.remove _).move he

end

theorem do_ok {t : List It} (h : OkT t) {c : Cl} (hc : c.t < 18446744073709551616) : OkT (doP t c).1 := by
  unfold doP
  split
  · exact h
  · split
    · exact h
    · split
      · exact h
      · split
        · rename_i h4
          refine turned_ok h ?_ hc (eq_of_beq h4)
          unfold nodeAt
          split
          · exact Nat.zero_lt_succ _
          · exact h.gett _
        · exact h

theorem do_asks {t : List It} {c : Cl} (h : turnsF c.k = false) : (doP t c).1 = t := by
  unfold doP
  rw [h]
  simp only [Bool.not_false, if_true]
  split
  · rfl
  · split <;> rfl

theorem asked_none {t : List It} {p : List UInt8} {is : Bool} {n : Nd} {c : Cl} : (askedP t p is n c).e ≠ 0 → (askedP t p is n c).n.k = 0 ∧ (askedP t p is n c).d = [] ∧ (askedP t p is n c).l = [] := by
  unfold askedP readC1
  repeat' split
  all_goals intro he
  all_goals first
    | exact ⟨rfl, rfl, rfl⟩
    | (exact absurd rfl he)

theorem do_none {t : List It} {c : Cl} (he : (doP t c).2.e ≠ 0) : (doP t c).2.n.k = 0 ∧ (doP t c).2.d = [] ∧ (doP t c).2.l = [] := by
  unfold doP at he ⊢
  split
  · exact ⟨rfl, rfl, rfl⟩
  · rename_i h1
    rw [if_neg h1] at he
    split
    · exact ⟨rfl, rfl, rfl⟩
    · rename_i h2
      rw [if_neg h2] at he
      split
      · rename_i h3
        rw [if_pos h3] at he
        exact asked_none he
      · split <;> exact ⟨rfl, rfl, rfl⟩

theorem sameTs_self {t : List It} (h : OkT t) : sameTs t t = true := sameTs_refl fun x hx => h.tlen x hx
end Go.Dm

end

section
/-
  A call but a rename turns just the path that it leads to. Conditions: the tree is right.
-/

set_option linter.unusedSimpArgs false
set_option linter.unusedVariables false
namespace Go.Dm
open Go

theorem names_below {t : List It} (h : Par t) {p : List UInt8} (hp : p ≠ []) (hn : (namesF t p).length = 0) : ∀ (n : Nat) (q : List UInt8), q.length ≤ n → belowR p q = true → getR t q = none
  | 0, q, hl, hq => by
    have h1 : q = [] := by simpa using hl
    subst h1
    have h2 := belowR_len hq
    exact absurd (by simpa using h2) hp
  | n + 1, q, hl, hq => by
    cases hg : getR t q with
    | none => rfl
    | some m =>
      exfalso
      obtain ⟨x, hx, rfl, _⟩ := getR_mem hg
      rcases below_up hp hq with h1 | h1
      · have hm : x ∈ t.filter fun x => dirOfR x.p == p := List.mem_filter.2 ⟨hx, by rw [h1]; simp⟩
        have := List.length_pos_of_mem hm
        unfold namesF dirNames at hn
        rw [List.length_mergeSort, List.length_map] at hn
        omega
      · have h0 : dirOfR x.p ≠ [] := by
          intro h0
          rw [h0] at h1
          have := belowR_len h1
          exact absurd (by simpa using this) hp
        obtain ⟨m, h2, _⟩ := isDir_some h0 (h x hx)
        have hlt := dir_lt h0
        rw [names_below h hp hn n _ (by omega) h1] at h2
        cases h2

def GoodA (t : List It) (p : List UInt8) (x : List It × Int) : Prop := x.2 = 0 → ∀ q, q ≠ p → getR x.1 q = getR t q
theorem gooda_ite {t : List It} {p : List UInt8} {c : Prop} [Decidable c] {a b : List It × Int} (ha : c → GoodA t p a) (hb : ¬ c → GoodA t p b) : GoodA t p (if c then a else b) := by
  split
  · exact ha (by assumption)
  · exact hb (by assumption)
theorem gooda_no {t l : List It} {p : List UInt8} {e : Int} (h : e ≠ 0) : GoodA t p (l, e) := fun he => absurd he h
theorem gooda_set {t : List It} {p : List UInt8} {n : Nd} {e : Int} : GoodA t p (setR t p n, e) := fun _ q hq => by
  have : (q == p) = false := by simpa using hq
  show getR (setR t p n) q = _
  rw [getR_setR, this]; rfl
theorem put_apart {t : List It} {p : List UInt8} {n : Nd} (hb : noneBelow t p = t) : GoodA t p (putR t p n) := by
  unfold putR
  rw [hb, ite_self]
  refine gooda_ite (fun _ => gooda_no (by decide)) fun _ => gooda_ite (fun _ => gooda_no (by decide)) fun _ => gooda_ite (fun _ => gooda_no (by decide)) fun _ => gooda_set
theorem rm_apart {t : List It} {p : List UInt8} {e : Int} (hb : ∀ q, belowR p q = true → getR t q = none) : GoodA t p (removeR t p, e) := fun _ q hq => by
  have h1 : (q == p) = false := by simpa using hq
  show getR (removeR t p) q = _
  rw [getR_remove, h1]
  cases h2 : belowR p q
  · rfl
  · rw [hb q h2]; rfl
theorem create_apart {t : List It} (h : OkT t) {c : Cl} {p : List UInt8} {is : Bool} (hn : is = false → p ≠ [] ∧ getR t p = none) : GoodA t p (createR t c p is) := by
  unfold createR
  refine gooda_ite (fun _ => gooda_no (by decide)) fun his => gooda_ite (fun _ => gooda_no (by decide)) fun _ => gooda_ite (fun _ => gooda_no (by decide)) fun _ => ?_
  obtain ⟨h1, h2⟩ := hn (by simpa using his)
  exact put_apart (none_below h h1 (by rw [isDir_get h1, h2]))

section
attribute [local irreducible] createR renameR putR
def fstE (x : List It × An) : List It × Int := (x.1, x.2.e)
theorem fstE_ite {c : Prop} [Decidable c] {a b : List It × An} : fstE (if c then a else b) = if c then fstE a else fstE b := by split <;> rfl
theorem do1_apart {t : List It} (h : OkT t) {c : Cl} {p : List UInt8} {is : Bool} (hk : (c.k == 9) = false) (hr : 1 ≤ c.k ∧ c.k ≤ 15) (hn : is = false → p ≠ [] ∧ getR t p = none) : GoodA t p (fstE (doR1 t c p is)) := by
  have hun : ¬ (is && isDirR t p) = true → ¬ (!is) = true → GoodA t p (removeR t p, 0) := by
    intro h1 h2
    have his : is = true := by simpa using h2
    subst his
    have hd : isDirR t p = false := by simpa using h1
    have hp : p ≠ [] := by
      rintro rfl
      have : isDirR t [] = true := rfl
      rw [this] at hd; cases hd
    refine rm_apart fun q hq => ?_
    cases hg : getR t q with
    | none => rfl
    | some m =>
      have := par_dir h.par hp _ q (Nat.le_refl _) (by rw [hg]; rfl) hq
      rw [hd] at this; cases this
  have hrm : (c.k == 6) = true → ¬ (c.k == 6 && p == []) = true → ¬ decide ((0 : Int) < (namesF t p).length) = true → GoodA t p (removeR t p, 0) := by
    intro h1 h2 h3
    rw [h1] at h2
    have hp : p ≠ [] := by simpa using h2
    have h3 : (namesF t p).length = 0 := by
      by_cases hz : (0 : Int) < ((namesF t p).length : Int)
      · exact absurd (decide_eq_true hz) h3
      · omega
    exact rm_apart fun q hq => names_below h.par hp h3 _ q (Nat.le_refl _) hq
  unfold doR1
  simp only [fstE_ite, hk]
  repeat' refine gooda_ite (fun _ => ?_) fun _ => ?_
  all_goals first
    | exact create_apart h hn
    | (exact gooda_no (by decide))
    | exact gooda_set
    | exact hun (by assumption) (by assumption)
    | exact hrm (by assumption) (by assumption) (by assumption)
    | exact fun _ _ _ => rfl
    | (exfalso; simp only [beq_eq_false_iff_ne, Bool.or_eq_true, Bool.and_eq_true, Bool.not_eq_true', beq_iff_eq, not_or, not_and] at *; omega)
end

/-- A call but a rename: what is turned is at the path that it leads to. -/
theorem do_apart {t : List It} (h : OkT t) {c : Cl} (hk : (c.k == 9) = false) {p : List UInt8} {is : Bool} {e : Int} (hw : walkF t c.p (follF c.k) = (p, is, e)) (he : (doP t c).2.e = 0) :
    e = 0 ∧ ∀ q, q ≠ p → getR (doP t c).1 q = getR t q := by
  have hth := walkF_there h c.p (follF c.k)
  rw [hw] at hth
  rw [do_eq h c] at he ⊢
  unfold doR at he ⊢
  rw [hw] at he ⊢
  simp only at he ⊢
  cases hr : (decide (c.k < 1) || decide (15 < c.k))
  · rw [hr] at he
    simp only [Bool.false_eq_true, if_false] at he ⊢
    by_cases h0 : e = 0
    · subst h0
      refine ⟨rfl, ?_⟩
      simp only [beq_self_eq_true, Bool.not_true, Bool.false_eq_true, if_false] at he ⊢
      simp only [Bool.or_eq_false_iff, decide_eq_false_iff_not] at hr
      have hd := do1_apart (c := c) (p := p) (is := is) h hk (by omega) ((hth rfl).2)
      cases hz : ((doR1 t c p is).2.e == 0)
      · rw [hz] at he
        simp only [Bool.false_eq_true, if_false, anE] at he
        rw [he] at hz
        cases hz
      · simp only [if_true]
        exact hd (eq_of_beq hz)
    · have h1 : (e == 0) = false := by simpa using h0
      rw [h1] at he
      simp only [Bool.not_false, if_true, anE] at he
      exact absurd he h0
  · rw [hr] at he
    simp only [if_true, anE] at he
    exact absurd he (by decide)
end Go.Dm

end
