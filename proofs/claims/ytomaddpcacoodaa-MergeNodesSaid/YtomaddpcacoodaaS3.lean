/-
  What the functions that draw nodes compute, in plain words. No condition.
-/
import Derived.Test.YtomaddpcacoodaaS2
set_option linter.unusedSimpArgs false
set_option linter.unusedVariables false
namespace Go.Dm
open Go

def namesL : List (List UInt8) := [[97], [98], [99], [100, 46, 101], [102, 45, 49], [255]]
def nameF (n : Int) : List UInt8 := namesL.getD (n % 6).toNat []
def pathL : Nat → Int → List UInt8 → List UInt8
  | 0, _, p => p
  | k + 1, n, p => pathL k (n / 7) (p ++ 47 :: nameF (n / 7))
def pathF (n : Int) : List UInt8 := pathL (n % 1073741824 / 6 % 3).toNat (n % 1073741824) (nameF (n % 1073741824))
def timesL : List Nat := [0, 9223372036854775808, 4607182418800017408, 13830554455654793216, 9218868437227405312, 18442240474082181120, 9221120237041090561, 4612811918334230528, 1, 9223372036854775809, 9218868437227405311, 18444492273895866373]
def timeF (n : Int) (x : Nat) : Nat := if n % 15 < 12 then timesL.getD (n % 15).toNat 0 else x
/-- A raw node. -/
structure RN where
  k : Int
  m : Int
  t : Int
  x : Nat
  d : List UInt8
abbrev rnc (k m t : Int) (x : Nat) (d : List UInt8) : List CV := [.p (.i .i64 k), .p (.i .i64 m), .p (.i .i64 t), .p (.f x), .p (.sl 1 (encB d))]
attribute [go_sem] rnc
def linkF (m : Int) : List UInt8 :=
  let a := if m.tmod 4 == 0 then [46, 46, 47] ++ pathF m else pathF m
  if m.tmod 5 == 0 then [47] ++ a else a
def nodeD (x : RN) : List UInt8 := if 1 + x.k % 3 == 1 then x.d.take 60 else if 1 + x.k % 3 == 3 then linkF x.m else []
def nodeF (x : RN) : Nd := ⟨1 + x.k % 3, x.m % 4096, bitsF (timeF x.t x.x), nodeD x⟩
def nearF (n : Nd) (how : Int) (x : RN) : Nd :=
  if how % 6 == 0 then nodeF x
  else if how % 6 == 1 then { n with m := x.m % 3 }
  else if how % 6 == 2 then { n with t := bitsF (timeF x.t x.x) }
  else if how % 6 == 3 then (if n.k == 1 then { n with d := x.d.take 1 } else n)
  else n
def fileF (t : Nat) (d : List UInt8) : Nd := ⟨1, 0, bitsF t, d⟩

theorem tmod_pos {n m : Int} (hm : 0 < m) (h : ¬ n.tmod m < 0) : n.tmod m = n % m := by
  rw [Int.tmod_eq_emod] at h ⊢
  split
  · simp
  · rename_i hc
    rw [if_neg hc] at h
    have := Int.emod_lt_of_pos n hm
    omega
theorem tmod_neg {n m : Int} (hm : 0 < m) (h : n.tmod m < 0) : n.tmod m + m = n % m := by
  rw [Int.tmod_eq_emod] at h ⊢
  split
  · rename_i hc
    rw [if_pos hc] at h
    have := Int.emod_nonneg n (show m ≠ 0 by omega)
    omega
  · omega
theorem nameF_len (n : Int) : (nameF n).length ≤ 3 := by
  unfold nameF
  have h1 := Int.emod_nonneg n (show (6 : Int) ≠ 0 by decide)
  have h2 := Int.emod_lt_of_pos n (show (0 : Int) < 6 by decide)
  generalize n % 6 = k at h1 h2
  have : k = 0 ∨ k = 1 ∨ k = 2 ∨ k = 3 ∨ k = 4 ∨ k = 5 := by omega
  rcases this with rfl | rfl | rfl | rfl | rfl | rfl <;> decide
theorem pathL_len : ∀ (k : Nat) (n : Int) (p : List UInt8), (pathL k n p).length ≤ p.length + 4 * k
  | 0, _, _ => by simp [pathL]
  | k + 1, n, p => by
    have h1 := pathL_len k (n / 7) (p ++ 47 :: nameF (n / 7))
    have h2 := nameF_len (n / 7)
    simp only [pathL, List.length_append, List.length_cons] at h1 ⊢
    omega
theorem pathF_len (n : Int) : (pathF n).length ≤ 11 := by
  have h1 := pathL_len (n % 1073741824 / 6 % 3).toNat (n % 1073741824) (nameF (n % 1073741824))
  have h2 := nameF_len (n % 1073741824)
  unfold pathF
  omega
theorem linkF_len (m : Int) : (linkF m).length ≤ 15 := by
  have := pathF_len m
  unfold linkF
  simp only
  split <;> split <;> simp <;> omega
theorem nodeD_len (x : RN) : (nodeD x).length ≤ 60 := by
  unfold nodeD
  have := linkF_len x.m
  split
  · simp; omega
  · split
    · omega
    · simp
theorem nearF_len {n : Nd} (h : n.d.length ≤ 60) (how : Int) (x : RN) : (nearF n how x).d.length ≤ 60 := by
  unfold nearF
  have := nodeD_len x
  repeat' split
  all_goals first | exact this | exact h | (simp; omega)
end Go.Dm
