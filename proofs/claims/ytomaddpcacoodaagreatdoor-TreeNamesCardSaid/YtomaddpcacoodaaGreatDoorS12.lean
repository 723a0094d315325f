/-
  A path's directory and its last name; a tree's names; what stands ahead in a tree. No condition.
-/
import Derived.Test.YtomaddpcacoodaaGreatDoorS11
set_option linter.unusedSimpArgs false
set_option linter.unusedVariables false
namespace Go.Dm
open Go

theorem lastIdx_eq (a : List UInt8) : ∀ k, k ≤ a.length → Lib.lastIdx ⟨a.toArray⟩ 47 k = match lastSlash a k with
    | some j => (j : Int)
    | none => -1
  | 0, _ => rfl
  | k + 1, hk => by
    have hlt : k < a.length := by omega
    have e1 : (ByteArray.mk a.toArray).data[k]! = a[k] := by
      show a.toArray[k]! = _
      simp [getElem!_pos, hlt]
    have e2 : a.getD k 0 = a[k] := by simp [List.getD_eq_getElem?_getD, hlt]
    rw [Lib.lastIdx, lastSlash, e1, e2]
    by_cases h : ((a[k].toNat : Int) = 47)
    · rw [if_pos h, if_pos (by simpa using h)]
    · rw [if_neg h, if_neg (by simpa using h), lastIdx_eq a k (by omega)]
theorem lastIndexByte_eq (a : List UInt8) : Lib.lastIndexByte ⟨a.toArray⟩ 47 = match lastSlash a a.length with
    | some j => (j : Int)
    | none => -1 := by
  have : (ByteArray.mk a.toArray).size = a.length := by simp [ByteArray.size]
  unfold Lib.lastIndexByte
  rw [this]; exact lastIdx_eq a _ (Nat.le_refl _)
theorem lastSlash_lt {p : List UInt8} {j : Nat} (h : lastSlash p p.length = some j) : j < p.length := by
  rcases lastSlash_spec p p.length (Nat.le_refl _) with ⟨h1, _⟩ | ⟨i, hi, h1, _⟩
  · rw [h1] at h; cases h
  · rw [h1] at h; cases h; exact hi
def baseF (p : List UInt8) : List UInt8 := match lastSlash p p.length with
  | some j => p.drop (j + 1)
  | none => p
theorem below_prefix {p q : List UInt8} (hp : p ≠ []) : (p ++ [47]).isPrefixOf q = belowR p q := by
  rw [Bool.eq_iff_iff, List.isPrefixOf_iff_prefix, below_iff hp]
  constructor
  · rintro ⟨r, hr⟩; exact ⟨r, by rw [← hr]; simp⟩
  · rintro ⟨r, hr⟩; exact ⟨r, by rw [hr]; simp⟩
/-- A path out of its directory and its last name. -/
def joinF (d n : List UInt8) : List UInt8 := if d == [] then n else d ++ 47 :: n
theorem dir_base (p : List UInt8) (hd : dirOfR p = [] → 47 ∉ p) : joinF (dirOfR p) (baseF p) = p := by
  unfold joinF baseF
  rcases lastSlash_spec p p.length (Nat.le_refl _) with ⟨h1, h2⟩ | ⟨i, h, h1, h2, h3, h4⟩
  · have : dirOfR p = [] := by unfold dirOfR; rw [h1]
    rw [this, h1]; rfl
  · have hdi : dirOfR p = p.take i := by unfold dirOfR; rw [h1]
    have hi : dirOfR p ≠ [] := by
      intro h0
      exact hd h0 (List.mem_iff_getElem.2 ⟨i, h, h3⟩)
    rw [if_neg (by simpa using hi), hdi, h1]
    have := List.take_append_drop i p
    rw [List.drop_eq_getElem_cons h, h3] at this
    exact this
def dirNames (t : List It) (p : List UInt8) : List (List UInt8) := (t.filter fun x => dirOfR x.p == p).map fun x => baseF x.p
def namesF (t : List It) (p : List UInt8) : List (List UInt8) := (dirNames t p).mergeSort fun x y => decide (x ≤ y)

theorem getR_self {y : It} : ∀ {t : List It}, Srt t → y ∈ t → getR t y.p = some y.n
  | x :: t, hs, hy => by
    obtain ⟨h1, h2⟩ := List.pairwise_cons.1 hs
    rw [getR]
    rcases List.mem_cons.1 hy with rfl | hy
    · rw [if_pos (by simp)]
    · rw [if_neg (by rw [blt_ne (h1 y hy)]; decide)]
      exact getR_self h2 hy
theorem blt_app (d : List UInt8) (b : UInt8) (n : List UInt8) : bltL d (d ++ b :: n) = true := by
  induction d with
  | nil => rfl
  | cons x d ih => rw [List.cons_append, blt_cons, ih]; simp
theorem isDir_take {t : List It} (h : OkT t) {k : Nat} {x : It} (hx : t[k]? = some x) : isDirR (t.take k) (dirOfR x.p) = true := by
  by_cases hd : dirOfR x.p = []
  · rw [hd]; rfl
  obtain ⟨m, h1, h2⟩ := isDir_some hd (h.par x (List.mem_of_getElem? hx))
  obtain ⟨y, hy, hyp, hyn⟩ := getR_mem h1
  obtain ⟨n, hn, _⟩ := dir_cases hd
  have hlt : bltL y.p x.p = true := by
    have := blt_app (dirOfR x.p) 47 n
    rw [← hn] at this
    rw [hyp]; exact this
  obtain ⟨j, hj, hje⟩ := List.mem_iff_getElem.1 hy
  obtain ⟨hk, hxe⟩ := List.getElem?_eq_some_iff.1 hx
  have hjk : j < k := by
    rcases Nat.lt_trichotomy j k with h' | h' | h'
    · exact h'
    · subst h'
      rw [← hje, ← hxe, blt_irrefl] at hlt; cases hlt
    · have := List.pairwise_iff_getElem.1 h.srt k j hk hj h'
      rw [hje, hxe, blt_asymm hlt] at this; cases this
  have hyt : y ∈ t.take k := List.mem_iff_getElem.2 ⟨j, by simp; omega, by rw [List.getElem_take]; exact hje⟩
  have hst : Srt (t.take k) := h.srt.sublist (List.take_sublist k t)
  have := getR_self hst hyt
  rw [hyp] at this
  exact isDir_mk this (by rw [hyn]; exact h2)
end Go.Dm
