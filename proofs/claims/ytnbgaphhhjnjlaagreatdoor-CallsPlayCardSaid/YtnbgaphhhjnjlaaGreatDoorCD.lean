/-
  A walk's turns, one by one. No condition.
-/
import Derived.Test.YtnbgaphhhjnjlaaGreatDoorCA
set_option linter.unusedSimpArgs false
set_option linter.unusedVariables false
namespace Go.Dm
open Go

def thrE (d : List UInt8) (hops : Nat) : Int := if decide (8 ≤ hops) then 11 else (splitF d).2
def thrC (d : List UInt8) (hops : Nat) (c : List UInt8) : List UInt8 := if decide (8 ≤ hops) then c else if (splitF d).2 == 0 then (if slashed d then [] else c) else c
def thrP (d : List UInt8) (hops : Nat) (ps : List (List UInt8)) : List (List UInt8) := if decide (8 ≤ hops) then ps else if (splitF d).2 == 0 then (splitF d).1 ++ ps else ps
def downV (t : List It) (fo : Bool) (c s : List UInt8) (ps : List (List UInt8)) (hops : Nat) : (Bool × Int) × (List UInt8 × List (List UInt8) × Nat) :=
  if !isDirR t c then ((false, 9), (c, ps, hops)) else if decide ((120 : Int) < (joinF c s).length) then ((false, 12), (c, ps, hops))
  else match getR t (joinF c s) with
  | none => if ps == [] then ((false, 0), (joinF c s, ps, hops)) else ((false, 6), (c, ps, hops))
  | some n => if n.k == 3 && (!(ps == []) || fo) then ((true, thrE n.d hops), (thrC n.d hops c, thrP n.d hops ps, hops + 1)) else ((true, 0), (joinF c s, ps, hops))
theorem splitF_len {s : List UInt8} : (splitF s).1.length ≤ 121 := by
  unfold splitF
  split
  · simp
  · split
    · simp
    · split
      · rename_i h _ _
        have h : ¬ (120 : Int) < s.length := by simpa using h
        refine Nat.le_trans (List.length_filter_le ..) (Nat.le_trans (cutL_len s []) ?_)
        omega
      · simp
theorem splitF_mem {s : List UInt8} : ∀ p ∈ (splitF s).1, p.length ≤ 120 := by
  intro p hp
  unfold splitF at hp
  split at hp
  · simp at hp
  · rename_i h
    split at hp
    · simp at hp
    · split at hp
      · have := cutL_mem s [] p (List.mem_filter.1 hp).1
        have h : ¬ (120 : Int) < s.length := by simpa using h
        simp at this; omega
      · simp at hp

/-- What a walk holds at each turn: the bounds; and either that going on makes the walk's end, or that it has fallen. -/
structure WI (t : List It) (fo : Bool) (W : List UInt8 × Bool × Int) (f : Nat) (c : List UInt8) (ps : List (List UInt8)) (hops : Nat) (there : Bool) (e : Int) : Prop where
  cl : c.length ≤ 120
  pl : ∀ p ∈ ps, p.length ≤ 120
  fl : f ≤ 1400
  hl : hops ≤ 9
  go : e = 0 → hops ≤ 8 ∧ (9 - hops) * 130 + ps.length < f ∧ (ps ≠ [] → there = true ∧ walkW t fo f c ps hops = W) ∧ (ps = [] → W = (c, there, 0))
  no : e ≠ 0 → W = ([], false, e)
theorem dirOf_len (c : List UInt8) : (dirOfR c).length ≤ c.length := by
  by_cases h : dirOfR c = []
  · rw [h]; simp
  · exact Nat.le_of_lt (dir_lt h)
section
variable {t : List It} {fo : Bool} {W : List UInt8 × Bool × Int} {f : Nat} {c p : List UInt8} {ps : List (List UInt8)} {hops : Nat} {there : Bool}
theorem WI.next {c' : List UInt8} (h : WI t fo W (f + 1) c (p :: ps) hops there 0) (hc : c'.length ≤ 120) (hw : walkW t fo (f + 1) c (p :: ps) hops = walkW t fo f c' ps hops) : WI t fo W f c' ps hops true 0 := by
  obtain ⟨h1, h2, h3, _⟩ := h.go rfl
  obtain ⟨ht, hW⟩ := h3 (by simp)
  rw [hw] at hW
  have hfl := h.fl
  simp only [List.length_cons] at h2
  refine ⟨hc, fun q hq => h.pl q (List.mem_cons_of_mem _ hq), by omega, by omega, fun _ => ⟨h1, by omega, fun _ => ⟨rfl, hW⟩, fun h0 => ?_⟩, fun h0 => absurd rfl h0⟩
  subst h0
  obtain ⟨k, rfl⟩ : ∃ k, f = k + 1 := ⟨f - 1, by omega⟩
  rw [← hW]; rfl
theorem WI.there_true (h : WI t fo W f c (p :: ps) hops there 0) : there = true := ((h.go rfl).2.2.1 (by simp)).1
theorem WI.dot (h : WI t fo W (f + 1) c (p :: ps) hops there 0) (hp : (p == [46]) = true) : WI t fo W f c ps hops there 0 := by
  rw [h.there_true]
  exact h.next h.cl (by simp only [walkW, hp, if_true])
theorem WI.dots (h : WI t fo W (f + 1) c (p :: ps) hops there 0) (hp : (p == [46]) = false) (hq : (p == [46, 46]) = true) : WI t fo W f (dirOfR c) ps hops there 0 := by
  rw [h.there_true]
  exact h.next (Nat.le_trans (dirOf_len c) h.cl) (by simp only [walkW, hp, hq, if_true, Bool.false_eq_true, if_false])
theorem WI.down (h : WI t fo W (f + 1) c (p :: ps) hops there 0) (hp : (p == [46]) = false) (hq : (p == [46, 46]) = false) :
    WI t fo W f (downV t fo c p ps hops).2.1 (downV t fo c p ps hops).2.2.1 (downV t fo c p ps hops).2.2.2 (downV t fo c p ps hops).1.1 (downV t fo c p ps hops).1.2 := by
  obtain ⟨h1, h2, h3, _⟩ := h.go rfl
  obtain ⟨ht, hW⟩ := h3 (by simp)
  have hfl := h.fl
  simp only [List.length_cons] at h2
  have hpl : ∀ q ∈ ps, q.length ≤ 120 := fun q hq => h.pl q (List.mem_cons_of_mem _ hq)
  have fell : ∀ {e : Int} {c' : List UInt8} {ps' : List (List UInt8)} {h' : Nat} {th : Bool}, e ≠ 0 → W = ([], false, e) → c'.length ≤ 120 → (∀ q ∈ ps', q.length ≤ 120) → h' ≤ 9 → WI t fo W f c' ps' h' th e :=
    fun he hw a b g => ⟨a, b, by omega, g, fun h0 => absurd h0 he, fun _ => hw⟩
  simp only [walkW, hp, hq, Bool.false_eq_true, if_false] at hW
  unfold downV
  split
  · rename_i hd
    rw [if_pos hd] at hW
    show WI t fo W f c ps hops false 9
    exact fell (by decide) hW.symm h.cl hpl (by omega)
  · rename_i hd
    rw [if_neg hd] at hW
    split
    · rename_i hl
      rw [if_pos hl] at hW
      show WI t fo W f c ps hops false 12
      exact fell (by decide) hW.symm h.cl hpl (by omega)
    · rename_i hl
      rw [if_neg hl] at hW
      have hjl : (joinF c p).length ≤ 120 := by simp only [decide_eq_true_eq] at hl; omega
      cases hg : getR t (joinF c p) with
      | none =>
        rw [hg] at hW
        simp only at hW ⊢
        split
        · rename_i hps
          rw [if_pos hps] at hW
          have hps := eq_of_beq hps
          subst hps
          simp only
          exact ⟨hjl, hpl, by omega, by omega, fun _ => ⟨h1, by simp only [List.length_nil] at h2 ⊢; omega, fun h0 => absurd rfl h0, fun _ => hW.symm⟩, fun h0 => absurd rfl h0⟩
        · rename_i hps
          rw [if_neg hps] at hW
          show WI t fo W f c ps hops false 6
          exact fell (by decide) hW.symm h.cl hpl (by omega)
      | some n =>
        rw [hg] at hW
        simp only at hW ⊢
        split
        · rename_i hlk
          rw [if_pos hlk] at hW
          unfold thrE thrC thrP
          simp only at hW ⊢
          split
          · rename_i h8
            rw [if_pos h8] at hW
            exact fell (by decide) hW.symm h.cl hpl (by omega)
          · rename_i h8
            rw [if_neg h8] at hW
            simp only [decide_eq_true_eq] at h8
            have hsl := splitF_len (s := n.d)
            have hsm := splitF_mem (s := n.d)
            cases he : ((splitF n.d).2 == 0)
            · rw [he] at hW
              simp only [Bool.false_eq_true, if_false] at hW ⊢
              exact fell (by simpa using he) hW.symm h.cl hpl (by omega)
            · rw [he] at hW
              simp only [if_true] at hW ⊢
              have he := eq_of_beq he
              rw [he]
              refine ⟨by split; simp; exact h.cl, fun q hq => ?_, by omega, by omega, fun _ => ⟨by omega, by rw [List.length_append]; omega, fun _ => ⟨rfl, hW⟩, fun h0 => ?_⟩, fun h0 => absurd rfl h0⟩
              · rcases List.mem_append.1 hq with hq | hq
                · exact hsm q hq
                · exact hpl q hq
              · rw [h0] at hW
                obtain ⟨k, rfl⟩ : ∃ k, f = k + 1 := ⟨f - 1, by omega⟩
                rw [← hW]; rfl
        · rename_i hlk
          rw [if_neg hlk] at hW
          simp only
          refine ⟨hjl, hpl, by omega, by omega, fun _ => ⟨h1, by omega, fun _ => ⟨rfl, hW⟩, fun h0 => ?_⟩, fun h0 => absurd rfl h0⟩
          subst h0
          obtain ⟨k, rfl⟩ : ∃ k, f = k + 1 := ⟨f - 1, by omega⟩
          rw [← hW]; rfl
end
theorem walkW_len {t : List It} {fo : Bool} : ∀ (f : Nat) (c : List UInt8) (ps : List (List UInt8)) (hops : Nat), c.length ≤ 120 → (walkW t fo f c ps hops).1.length ≤ 120
  | 0, _, _, _, _ => by simp [walkW]
  | _ + 1, _, [], _, h => h
  | f + 1, c, p :: ps, hops, h => by
    simp only [walkW]
    split
    · exact walkW_len f _ _ _ h
    · split
      · exact walkW_len f _ _ _ (Nat.le_trans (dirOf_len c) h)
      · split
        · simp
        · split
          · simp
          · rename_i hl
            have hjl : (joinF c p).length ≤ 120 := by simp only [decide_eq_true_eq] at hl; omega
            split
            · split
              · exact hjl
              · simp
            · split
              · split
                · simp
                · split
                  · refine walkW_len f _ _ _ ?_
                    split
                    · simp
                    · exact h
                  · simp
              · exact walkW_len f _ _ _ hjl
theorem walkF_len {t : List It} {s : List UInt8} {fo : Bool} : (walkF t s fo).1.length ≤ 120 := by
  unfold walkF
  split
  · exact walkW_len _ _ _ _ (by simp)
  · simp
end Go.Dm
