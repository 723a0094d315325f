import Derived.Test.YtnbgaphhhjnjlaaGreatDoorSC
import Derived.Test.YtnbgaphhhjnjlaaGreatDoorSU

section
/-
  Texts put in order one by one. No program in sight.
-/

set_option linter.unusedSimpArgs false
set_option linter.unusedVariables false
namespace Go.Dm
open Go
def sortS (l : List (List UInt8)) : List (List UInt8) := l.mergeSort fun x y => decide (x ≤ y)
theorem sortS_perm (l : List (List UInt8)) : (sortS l).Perm l := List.mergeSort_perm _ _
theorem sortS_len (l : List (List UInt8)) : (sortS l).length = l.length := List.length_mergeSort ..
theorem sortS_sorted (l : List (List UInt8)) : (sortS l).Pairwise fun x y => bltL y x = false :=
  (sorted_paths l).imp fun {a b} h => by rw [leS_blt] at h; simpa using h
theorem sortS_unique {l m : List (List UInt8)} (hp : m.Perm l) (hs : m.Pairwise fun x y => bltL y x = false) : m = sortS l :=
  List.Perm.eq_of_pairwise (le := fun x y => bltL y x = false) (fun a b _ _ h1 h2 => blt_tri h2 h1) hs (sortS_sorted l) (hp.trans (sortS_perm l).symm)
/-- A row in the midst of an insertion. -/
def insRowS (S R : List (List UInt8)) (x : List UInt8) (k : Nat) : List (List UInt8) := S.take k ++ x :: (S.drop k ++ R)
theorem insRowS_at {S R : List (List UInt8)} {x : List UInt8} {k : Nat} (hk : k ≤ S.length) : (insRowS S R x k)[k]? = some x := by
  unfold insRowS
  rw [List.getElem?_append_right (by simp; omega)]
  simp [Nat.min_eq_left hk]
theorem insRowS_ahead {S R : List (List UInt8)} {x y : List UInt8} {k : Nat} (hk : k + 1 ≤ S.length) (hy : S[k]? = some y) : (insRowS S R x (k + 1))[k]? = some y := by
  unfold insRowS
  rw [List.getElem?_append_left (by simp; omega), List.getElem?_take, if_pos (by omega), hy]
theorem insRowS_len {S R : List (List UInt8)} {x : List UInt8} {k : Nat} (hk : k ≤ S.length) : (insRowS S R x k).length = S.length + 1 + R.length := by
  unfold insRowS
  simp only [List.length_append, List.length_cons, List.length_take, List.length_drop]; omega
theorem insRowS_swap {S R : List (List UInt8)} {x y : List UInt8} {k : Nat} (hk : k + 1 ≤ S.length) (hy : S[k]? = some y) : ((insRowS S R x (k + 1)).set (k + 1) y).set k x = insRowS S R x k := by
  obtain ⟨h1, rfl⟩ := List.getElem?_eq_some_iff.1 hy
  unfold insRowS
  have e1 : S.drop k = S[k] :: S.drop (k + 1) := List.drop_eq_getElem_cons h1
  have e2 : S.take (k + 1) = S.take k ++ [S[k]] := by rw [List.take_add_one, List.getElem?_eq_getElem h1]; rfl
  rw [e1, e2]
  have e3 : (S.take k).length = k := by simp; omega
  generalize S.take k = A at e3
  generalize S.drop (k + 1) = B
  generalize S[k] = z
  rw [List.append_assoc, List.set_append_right _ _ (by omega), List.set_append_right _ _ (by omega)]
  simp [e3]
theorem ins_doneS {l : List (List UInt8)} {i k : Nat} {x : List UInt8} (hx : l[i]? = some x) (hk : k ≤ (sortS (l.take i)).length) (hb : ∀ y ∈ (sortS (l.take i)).drop k, bltL x y = true) (ha : ∀ y, (sortS (l.take i))[k - 1]? = some y → 0 < k → bltL x y = false) :
    insRowS (sortS (l.take i)) (l.drop (i + 1)) x k = sortS (l.take (i + 1)) ++ l.drop (i + 1) := by
  have hS := sortS_sorted (l.take i)
  have hP := sortS_perm (l.take i)
  have hnx : l.take (i + 1) = l.take i ++ [x] := by rw [List.take_add_one, hx]; rfl
  rw [hnx]
  generalize sortS (l.take i) = S at *
  have e : S.take k ++ x :: S.drop k = sortS (l.take i ++ [x]) := by
    refine sortS_unique ?_ ?_
    · refine (List.perm_middle).trans ?_
      rw [List.take_append_drop]
      exact ((List.Perm.cons x hP).trans (List.perm_append_comm (l₁ := [x])))
    · refine List.pairwise_append.2 ⟨hS.sublist (List.take_sublist _ _), List.pairwise_cons.2 ⟨fun y hy => blt_asymm (hb y hy), hS.sublist (List.drop_sublist _ _)⟩, fun y hy z hz => ?_⟩
      have hlast : ∀ y ∈ S.take k, bltL x y = false := by
        intro y hy
        obtain ⟨j, hj, rfl⟩ := List.mem_iff_getElem.1 hy
        have hjk : j < k := by simp at hj; omega
        rw [List.getElem_take]
        have hk1 : k - 1 < S.length := by omega
        have h1 := ha S[k - 1] (List.getElem?_eq_getElem hk1) (by omega)
        rcases Nat.lt_or_ge j (k - 1) with h | h
        · have h2 := List.pairwise_iff_getElem.1 hS j (k - 1) (by omega) hk1 h
          cases h3 : bltL x (S[j]'(by omega)) with
          | false => rfl
          | true =>
            cases h4 : bltL (S[j]'(by omega)) S[k - 1] with
            | true => rw [blt_trans h3 h4] at h1; cases h1
            | false => rw [blt_tri h4 h2] at h3; rw [h3] at h1; cases h1
        · have : j = k - 1 := by omega
          subst this; exact h1
      rcases List.mem_cons.1 hz with rfl | hz
      · exact hlast y hy
      · have : S = S.take k ++ S.drop k := (List.take_append_drop _ _).symm
        rw [this] at hS
        exact (List.pairwise_append.1 hS).2.2 y hy z hz
  unfold insRowS
  rw [← e, List.append_assoc]
  rfl

end Go.Dm

end

section
/-
  What is refused leaves nothing. No program in sight.
-/

set_option linter.unusedSimpArgs false
set_option linter.unusedVariables false
namespace Go.Dm
open Go
/-- What a call made: a tree, or nothing and a reason. -/
def MadeT (x : List It × Int) : Prop := (x.2 = 0 → OkT x.1) ∧ (x.2 ≠ 0 → x.1 = [])
theorem MadeT.len {x : List It × Int} (h : MadeT x) : x.1.length ≤ 1000000 := by
  by_cases h0 : x.2 = 0
  · exact Nat.le_trans (h.1 h0).len (by decide)
  · rw [h.2 h0]; simp
end Go.Dm

end
