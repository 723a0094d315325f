/-
  What is refused leaves nothing. No program in sight.
-/
import Derived.Test.YtfpeelbddefhhaaGreatDoorTA
set_option linter.unusedSimpArgs false
set_option linter.unusedVariables false
namespace Go.Dm
open Go
theorem putR_err {t : List It} {p : List UInt8} {n : Nd} (h : (putR t p n).2 ≠ 0) : (putR t p n).1 = [] := by
  unfold putR at h ⊢
  generalize (if n.k != 2 then noneBelow t p else t) = u at *
  split
  · rfl
  · rename_i h1
    rw [if_neg h1] at h
    split
    · rfl
    · rename_i h2
      rw [if_neg h2] at h
      split
      · rfl
      · rename_i h3
        rw [if_neg h3] at h
        exact absurd rfl h
theorem moveL_fail {a b : List UInt8} : ∀ (t out : List It), (moveL a b out t).2 ≠ 0 → (moveL a b out t).1 = []
  | [], out, h => absurd rfl h
  | x :: r, out, h => by
    rw [moveL] at h ⊢
    split
    · rename_i hc
      rw [if_pos hc] at h
      exact moveL_fail r _ h
    · rename_i hc
      rw [if_neg hc] at h
      split
      · rfl
      · rename_i hl
        rw [if_neg hl] at h
        exact moveL_fail r _ h
theorem moveR_err {t : List It} {a b : List UInt8} (h : (moveR t a b).2 ≠ 0) : (moveR t a b).1 = [] := by
  unfold moveR at h ⊢
  split
  · rfl
  · rename_i h1
    rw [if_neg h1] at h
    split
    · rfl
    · rename_i h2
      rw [if_neg h2] at h
      split
      · rfl
      · rename_i h3
        rw [if_neg h3] at h
        split
        · rfl
        · rename_i h4
          rw [if_neg h4] at h
          split
          · rfl
          · rename_i h5
            rw [if_neg h5] at h
            exact moveL_fail _ _ h
/-- What a call made: a tree, or nothing and a reason. -/
def MadeT (x : List It × Int) : Prop := (x.2 = 0 → OkT x.1) ∧ (x.2 ≠ 0 → x.1 = [])
theorem MadeT.len {x : List It × Int} (h : MadeT x) : x.1.length ≤ 1000000 := by
  by_cases h0 : x.2 = 0
  · exact Nat.le_trans (h.1 h0).len (by decide)
  · rw [h.2 h0]; simp
theorem made_put {t : List It} {p : List UInt8} {n : Nd} (h : OkT t) (hn : n.t < 18446744073709551616) : MadeT (putR t p n) := ⟨fun h0 => h.put hn h0, fun h0 => putR_err h0⟩
theorem made_move {t : List It} {a b : List UInt8} (h : OkT t) : MadeT (moveR t a b) := ⟨fun h0 => h.move h0, fun h0 => moveR_err h0⟩
theorem made_remove {t : List It} {p : List UInt8} (h : OkT t) : MadeT (removeR t p, 0) := ⟨fun _ => h.remove p, fun h0 => absurd rfl h0⟩
end Go.Dm
