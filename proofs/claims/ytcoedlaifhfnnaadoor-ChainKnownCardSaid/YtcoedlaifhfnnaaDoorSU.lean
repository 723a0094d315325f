import Derived.Test.YtcoedlaifhfnnaaDoorSE
import Derived.Test.YtcoedlaifhfnnaaDoorBQ

section
/-
  Changes done to a tree, as the program does it: plain words. No condition.
-/

set_option linter.unusedSimpArgs false
set_option linter.unusedVariables false
namespace Go.Dm
open Go Go.Sort Go.Proofs
set_option maxRecDepth 100000

/-! Items in order. -/
/-! What the changes make. -/
end Go.Dm

end

section
/-
  The changes of two trees, done to the one, are the other. No condition.
-/

set_option linter.unusedSimpArgs false
set_option linter.unusedVariables false
namespace Go.Dm
open Go Go.Sort Go.Proofs
set_option maxRecDepth 100000

end Go.Dm

end

section
/-
  Trees as the program puts and moves: an item set or inserted at its place; what moves, in order. No program in sight.
-/

set_option linter.unusedSimpArgs false
set_option linter.unusedVariables false
namespace Go.Dm
open Go

theorem setL_app {p : List UInt8} {n : Nd} {b : List It} : ∀ {a : List It}, (∀ x ∈ a, bltL x.p p = true) → setL p n false (a ++ b) = a ++ setL p n false b
  | [], _ => rfl
  | x :: a, h => by
    have hx := h x List.mem_cons_self
    have hn := blt_ne hx
    have := setL_app (n := n) (b := b) fun y hy => h y (List.mem_cons_of_mem _ hy)
    rw [List.cons_append, setL, hx, hn]
    simpa using this

/-- Where a path is, or would be. -/
def At (t : List It) (p : List UInt8) (i : Nat) : Prop := i ≤ t.length ∧ ∀ k x, t[k]? = some x → (k < i → bltL x.p p = true) ∧ (i ≤ k → bltL x.p p = false)

theorem setR_at {t : List It} {p : List UInt8} {n : Nd} {i : Nat} (hs : Srt t) (h : At t p i) : setR t p n = t.take i ++ ⟨p, n⟩ :: (match t[i]? with | some x => if x.p == p then t.drop (i + 1) else t.drop i | none => []) := by
  obtain ⟨hi, h⟩ := h
  have e : t = t.take i ++ t.drop i := (List.take_append_drop i t).symm
  have h1 : ∀ x ∈ t.take i, bltL x.p p = true := fun x hx => by
    obtain ⟨k, hk, rfl⟩ := List.mem_iff_getElem.1 hx
    rw [List.getElem_take]
    have hk2 : k < i := by simp at hk; omega
    exact (h k _ (List.getElem?_eq_getElem (by omega))).1 hk2
  unfold setR
  conv => lhs; rw [e]
  rw [setL_app h1]
  congr 1
  rcases Nat.lt_or_ge i t.length with hl | hl
  · have hx : t[i]? = some t[i] := List.getElem?_eq_getElem hl
    have hd := drop_at hx
    have hb := (h i _ hx).2 (Nat.le_refl _)
    rw [hx]
    simp only
    rw [hd, setL, hb, Bool.not_false, Bool.or_true, setL_true]
    have hdr : dropR (t.drop (i + 1)) p = t.drop (i + 1) := List.filter_eq_self.2 fun y hy => by
      obtain ⟨k, hk, rfl⟩ := List.mem_iff_getElem.1 hy
      have hk2 : i + 1 + k < t.length := by simp at hk; omega
      have h3 := List.pairwise_iff_getElem.1 hs i (i + 1 + k) hl hk2 (by omega)
      rw [List.getElem_drop]
      cases hq : (t[i + 1 + k].p == p)
      · rfl
      · rw [eq_of_beq hq, hb] at h3; cases h3
    rw [hdr]
    cases t[i].p == p <;> rfl
  · rw [List.getElem?_eq_none hl, List.drop_of_length_le hl]
    rfl

theorem setR_new {t : List It} {p : List UInt8} {n : Nd} {i : Nat} (hs : Srt t) (h : At t p i) (hx : ∀ x, t[i]? = some x → (x.p == p) = false) : setR t p n = t.take i ++ ⟨p, n⟩ :: t.drop i := by
  rw [setR_at hs h]
  congr 2
  cases hq : t[i]? with
  | none => rw [List.drop_of_length_le (List.getElem?_eq_none_iff.1 hq)]
  | some x => simp only; rw [hx x hq, if_neg (by decide)]

/-! What moves. -/
end Go.Dm
namespace Go.Dm
open Go
end Go.Dm

end
