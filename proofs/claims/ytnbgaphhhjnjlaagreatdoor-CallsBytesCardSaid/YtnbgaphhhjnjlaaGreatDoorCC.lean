/-
  A call of a right tree as the program has it is the same call as the document has it; what it keeps. Conditions: the tree is right.
-/
import Derived.Test.YtnbgaphhhjnjlaaGreatDoorCB
import Derived.Test.YtnbgaphhhjnjlaaGreatDoorSE
set_option linter.unusedSimpArgs false
set_option linter.unusedVariables false
namespace Go.Dm
open Go

theorem setL_drop (p : List UInt8) (n : Nd) : ∀ (t : List It) (d : Bool), (setL p n d t).length = (dropR t p).length + (if d then 0 else 1)
  | [], d => by cases d <;> rfl
  | x :: r, d => by
    have h := setL_drop p n r (d || !bltL x.p p)
    simp only [setL, dropR, List.length_append, List.filter_cons] at h ⊢
    cases d <;> cases hb : bltL x.p p <;> cases hp : x.p == p <;> simp [hb] at h ⊢ <;> omega
theorem drop_lt {t : List It} {p : List UInt8} (h : (getR t p).isSome = true) : (dropR t p).length < t.length := by
  induction t with
  | nil => cases h
  | cons x r ih =>
    rw [getR] at h
    simp only [dropR, List.filter_cons]
    split at h
    · rename_i hp
      rw [hp]
      exact Nat.lt_succ_of_le (List.length_filter_le ..)
    · rename_i hp
      have hp : (x.p == p) = false := by simpa using hp
      rw [hp]
      simp only [Bool.not_false, if_true, List.length_cons]
      exact Nat.succ_lt_succ (ih h)
theorem put_set {t : List It} (h : OkT t) {p : List UInt8} {n : Nd} (hs : (getR t p).isSome = true) (hn : rightNodeR n = true) (hk : (n.k == 2) = false → isDirR t p = false) : putR t p n = (setR t p n, 0) := by
  obtain ⟨h1, h2, _⟩ := h.getok hs
  obtain ⟨m, hm⟩ := Option.isSome_iff_exists.1 hs
  have h3 : isDirR t (dirOfR p) = true := dirOf_dir h (.inr ⟨m, hm⟩)
  have h4 : (if n.k != 2 then noneBelow t p else t) = t := by
    split
    · rename_i hne
      exact none_below h h1 (hk (by simpa using hne))
    · rfl
  have h5 : (setR t p n).length ≤ 120 := by
    have e := setL_drop p n t false
    have l := drop_lt hs
    have := h.len
    unfold setR
    rw [e]; simp only [Bool.false_eq_true, if_false]; omega
  have hb : (p == []) = false := by simpa using h1
  unfold putR
  rw [h4, hb, h2, hn, h3, decide_eq_false (by omega)]
  rfl

/-! A node that is right stays so. -/
theorem right_iff {n : Nd} : rightNodeR n = true ↔ (0 ≤ n.m ∧ n.m ≤ 4095 ∧ plainR n.t = true) ∧ (if n.k == 1 then decide ((n.d.length : Int) ≤ 2000) else if n.k == 2 then (n.d.length : Int) == 0 else if n.k == 3 then targetR n.d else false) = true := by
  unfold rightNodeR
  rw [Bool.and_eq_true]
  refine and_congr ?_ Iff.rfl
  simp only [Bool.not_eq_true', Bool.or_eq_false_iff, decide_eq_false_iff_not, Bool.not_eq_false']
  constructor
  · rintro ⟨⟨a, b⟩, c⟩; exact ⟨by omega, by omega, c⟩
  · rintro ⟨a, b, c⟩; exact ⟨⟨by omega, by omega⟩, c⟩
theorem plain_bits (x : Nat) : plainR (bitsF x) = true := by
  unfold plainR
  rw [bitsF_idem]; simp
theorem wrD_len {had b : List UInt8} {f : Nat} (h1 : had.length ≤ 2000) (h2 : f ≤ had.length) (h3 : f + b.length ≤ 2000) : (wrD had f b).length ≤ 2000 := by
  unfold wrD
  simp only [List.length_append, List.length_take, List.length_drop]
  omega

/-! One kind after the other. -/
section kinds
variable {t : List It} {p : List UInt8} {is fo : Bool} {c : Cl}

end kinds

end Go.Dm
