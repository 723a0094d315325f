/-
  Layers: folded in parts; a layer without entries. No program in sight.
-/
import Derived.Test.YtfiopamaiolfhaaGreatDoorLG
import Derived.Test.YtfiopamaiolfhaaGreatDoorVE
set_option linter.unusedSimpArgs false
set_option linter.unusedVariables false
namespace Go.Dm
open Go
theorem OkE.nil : OkE [] := ⟨fun x hx => (by cases hx), List.Pairwise.nil, List.Pairwise.nil, fun x hx => (by cases hx), by decide⟩
theorem overF_nil {t : List It} (h : OkT t) : overF t [] = (t, true) := by
  unfold overF
  rw [show overs t [] = t from rfl, rightT_of h, if_pos rfl]
theorem foldG_app : ∀ {a b : List (List En)} {t s : List It}, foldG t a = (s, true) → foldG t (a ++ b) = foldG s b
  | [], b, t, s, h => by
    have : t = s := (Prod.mk.inj h).1
    rw [this]; rfl
  | x :: a, b, t, s, h => by
    rw [foldG] at h
    rw [List.cons_append, foldG]
    split at h
    · rename_i ho
      rw [if_pos ho]
      exact foldG_app h
    · cases h
theorem mksF_at {w : List It} : ∀ {ts : List (List It)} {t : List It} {i : Nat}, ts[i]? = some w → (mksF t ts)[i]? = some (makeF (lastT t (ts.take i)) w)
  | [], _, _, h => by simp at h
  | x :: r, t, 0, h => by
    simp only [List.getElem?_cons_zero, Option.some.injEq] at h
    subst h
    rfl
  | x :: r, t, i + 1, h => by
    rw [List.getElem?_cons_succ] at h
    rw [mksF, List.getElem?_cons_succ, mksF_at h]
    rfl
theorem lastT_all {ts : List (List It)} {i : Nat} (h : ts.length ≤ i) (t : List It) : lastT t (ts.take i) = lastT t ts := by rw [List.take_of_length_le h]
theorem fold_blank {ts : List (List It)} (hok : ∀ w ∈ ts, OkT w) (k : Nat) (hk : k ≤ ts.length) : foldG [] ((mksF [] ts).take k ++ [[]] ++ (mksF [] ts).drop k) = (lastT [] ts, true) := by
  have h1 : foldG [] ((mksF [] ts).take k) = (lastT [] (ts.take k), true) := by
    rw [mksF_take]
    exact fold_mks OkT.nil fun w h => hok w (List.mem_of_mem_take h)
  have h2 := lastT_ok OkT.nil (ws := ts.take k) fun w h => hok w (List.mem_of_mem_take h)
  have h3 := fold_mks (ws := ts) OkT.nil hok
  rw [List.append_assoc, foldG_app h1, List.singleton_append, foldG, overF_nil h2, if_pos rfl]
  rw [← foldG_app h1, List.take_append_drop]
  exact h3
/-- Layers with a nil one among them, as a row. -/
def blankR (ls : List (List En)) (k : Nat) : List (List PV) := encL (ls.take k) ++ [[.nil]] ++ encL (ls.drop k)
theorem wkQs_refl : ∀ e : List PV, wkQs e e
  | [] => True.intro
  | _ :: e => ⟨.inl (.inl rfl), wkQs_refl e⟩
theorem wkQRows_refl : ∀ e : List (List PV), wkQRows e e
  | [] => True.intro
  | e :: es => ⟨wkQs_refl e, wkQRows_refl es⟩
theorem wkQRows_app : ∀ {a b c d : List (List PV)}, wkQRows a b → wkQRows c d → wkQRows (a ++ c) (b ++ d)
  | [], [], _, _, _, h => h
  | _ :: _, _ :: _, _, _, h1, h2 => ⟨h1.1, wkQRows_app h1.2 h2⟩
  | [], _ :: _, _, _, h, _ => h.elim
  | _ :: _, [], _, _, h, _ => h.elim
theorem blank_wk (ls : List (List En)) (k : Nat) : wkQRows (blankR ls k) (encL (ls.take k ++ [[]] ++ ls.drop k)) := by
  unfold blankR
  rw [← encL_app, ← encL_app]
  exact wkQRows_app (wkQRows_app (wkQRows_refl _) ⟨⟨.inl (.inr ⟨rfl, 7, rfl⟩), True.intro⟩, True.intro⟩) (wkQRows_refl _)
end Go.Dm
