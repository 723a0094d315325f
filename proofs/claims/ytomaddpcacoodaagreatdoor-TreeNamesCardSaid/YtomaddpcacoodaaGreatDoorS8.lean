/-
  The paths that a diff looks at: in strict order, each once. No condition.
-/
import Derived.Test.YtomaddpcacoodaaGreatDoorBB
import Derived.Test.YtomaddpcacoodaaGreatDoorSB
set_option linter.unusedSimpArgs false
set_option linter.unusedVariables false
namespace Go.Dm
open Go

theorem blt_lt : ∀ a b : List UInt8, bltL a b = decide (a < b)
  | a, [] => by rw [blt_nil]; simp
  | [], y :: b => by show true = _; simp
  | x :: a, y :: b => by
    rw [blt_cons, blt_lt a b]
    by_cases h1 : x < y
    · simp [h1, List.cons_lt_cons_iff]
    · by_cases h2 : x = y
      · subst h2; simp [List.cons_lt_cons_iff]
      · simp [h1, h2, List.cons_lt_cons_iff]
theorem le_blt {a b : List UInt8} : a ≤ b ↔ bltL b a = false := by rw [blt_lt, decide_eq_false_iff_not, List.not_lt]
def leS (x y : List UInt8) : Bool := decide (x ≤ y)
theorem leS_blt {a b : List UInt8} : leS a b = !bltL b a := by
  unfold leS
  cases h : bltL b a
  · simpa using le_blt.2 h
  · have : ¬ a ≤ b := fun h2 => by rw [le_blt.1 h2] at h; cases h
    simpa using this
theorem leS_trans {a b c : List UInt8} (h1 : leS a b = true) (h2 : leS b c = true) : leS a c = true := by
  rw [leS_blt] at *
  cases hc : bltL c a
  · rfl
  · have h1' : bltL b a = false := by simpa using h1
    have h2' : bltL c b = false := by simpa using h2
    cases hb : bltL a b
    · have := blt_tri hb h1'; subst this; rw [hc] at h2'; cases h2'
    · have := blt_trans hc hb; rw [this] at h2'; cases h2'
theorem leS_total {a b : List UInt8} : (leS a b || leS b a) = true := by
  rw [leS_blt, leS_blt]
  cases h : bltL b a
  · rfl
  · rw [blt_asymm h]; rfl
theorem sorted_paths (l : List (List UInt8)) : (l.mergeSort fun x y => decide (x ≤ y)).Pairwise fun x y => leS x y = true :=
  List.pairwise_mergeSort (le := leS) (fun a b c => leS_trans) (fun a b => leS_total) l

theorem compact_strict {l : List (List UInt8)} (hl : l.Pairwise fun x y => leS x y = true) : ∀ m, m ≤ l.length → (Lib.compactUpTo l.toArray m).Pairwise (fun x y => bltL x y = true) ∧ ∀ x ∈ Lib.compactUpTo l.toArray m, ∃ (j : Nat) (_ : j < m) (h : j < l.length), x = l[j]
  | 0, _ => by simp [Lib.compactUpTo]
  | m + 1, hm => by
    obtain ⟨h1, h2⟩ := compact_strict hl m (by omega)
    rw [Lib.compactUpTo_succ]
    have hg : l.toArray[m]! = l[m] := by simp [getElem!_pos, show m < l.length by omega]
    split
    · rename_i hk
      rw [hg]
      refine ⟨List.pairwise_append.2 ⟨h1, by simp, fun x hx y hy => ?_⟩, fun x hx => ?_⟩
      · obtain ⟨j, hj, hjl, rfl⟩ := h2 x hx
        have : y = l[m] := by simpa using hy
        subst this
        have hm1 : m - 1 < l.length := by omega
        have hg1 : l.toArray[m - 1]! = l[m - 1] := by simp [getElem!_pos, hm1]
        unfold Lib.keeps at hk
        rw [hg, hg1] at hk
        simp only [decide_eq_true_eq] at hk
        have hne : l[m] ≠ l[m - 1] := by rcases hk with hk | hk; omega; exact hk
        have a1 : leS l[m - 1] l[m] = true := List.pairwise_iff_getElem.1 hl _ _ hm1 (by omega) (by omega)
        have a2 : bltL l[m - 1] l[m] = true := by
          cases h : bltL l[m - 1] l[m]
          · rw [leS_blt] at a1
            exact absurd (blt_tri h (by simpa using a1)).symm hne
          · rfl
        rcases Nat.lt_or_ge j (m - 1) with h | h
        · have a3 : leS l[j] l[m - 1] = true := List.pairwise_iff_getElem.1 hl _ _ hjl hm1 h
          cases h5 : bltL l[j] l[m - 1]
          · rw [leS_blt] at a3
            rw [blt_tri h5 (by simpa using a3)]; exact a2
          · exact blt_trans h5 a2
        · have : j = m - 1 := by omega
          subst this; exact a2
      · rcases List.mem_append.1 hx with hx | hx
        · obtain ⟨j, hj, hjl, he⟩ := h2 x hx
          exact ⟨j, by omega, hjl, he⟩
        · have : x = l[m] := by simpa using hx
          exact ⟨m, by omega, by omega, this⟩
    · rw [List.append_nil]
      exact ⟨h1, fun x hx => by obtain ⟨j, hj, hjl, he⟩ := h2 x hx; exact ⟨j, by omega, hjl, he⟩⟩
theorem paths_strict (l : List (List UInt8)) : (Lib.compact (l.mergeSort fun x y => decide (x ≤ y))).Pairwise fun x y => bltL x y = true :=
  (compact_strict (sorted_paths l) _ (Nat.le_refl _)).1

theorem chF_mem {a b : List It} {p : List UInt8} {x : Ch} (h : x ∈ chF a b p) : x = ⟨p, kindF (getR a p).isSome (getR b p).isSome ((getR a p).getD nd0) ((getR b p).getD nd0), (getR a p).getD nd0, (getR b p).getD nd0⟩ ∧ kindF (getR a p).isSome (getR b p).isSome ((getR a p).getD nd0) ((getR b p).getD nd0) ≠ 0 := by
  unfold chF at h
  split at h
  · rename_i hb; exact ⟨by simpa using h, by simpa using hb⟩
  · simp at h
theorem chsF_mem {a b : List It} {x : Ch} : ∀ {l : List (List UInt8)}, x ∈ chsF a b l → x.p ∈ l ∧ x ∈ chF a b x.p
  | [], h => by simp [chsF] at h
  | p :: r, h => by
    rcases List.mem_append.1 h with h | h
    · have := (chF_mem h).1
      have hp : x.p = p := by rw [this]
      rw [hp]; exact ⟨List.mem_cons_self, h⟩
    · obtain ⟨h1, h2⟩ := chsF_mem h
      exact ⟨List.mem_cons_of_mem _ h1, h2⟩
theorem chsF_srt {a b : List It} : ∀ {l : List (List UInt8)}, l.Pairwise (fun x y => bltL x y = true) → (chsF a b l).Pairwise fun x y => bltL x.p y.p = true
  | [], _ => by simp [chsF]
  | p :: r, h => by
    obtain ⟨h1, h2⟩ := List.pairwise_cons.1 h
    refine List.pairwise_append.2 ⟨?_, chsF_srt h2, fun x hx y hy => ?_⟩
    · unfold chF; split <;> simp
    · rw [(chF_mem hx).1]; exact h1 _ (chsF_mem hy).1
end Go.Dm
