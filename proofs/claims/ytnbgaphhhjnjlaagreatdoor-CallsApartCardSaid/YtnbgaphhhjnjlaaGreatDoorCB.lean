/-
  What a walk leads to; a call of a tree as the program has it is a call as the document has it. Conditions: the tree is right.
-/
import Derived.Test.YtnbgaphhhjnjlaaGreatDoorCA
set_option linter.unusedSimpArgs false
set_option linter.unusedVariables false
namespace Go.Dm
open Go

theorem joinF_ne {c x : List UInt8} (h : x ≠ []) : joinF c x ≠ [] := by
  unfold joinF; split
  · exact h
  · simp
/-! Nothing is below what is no directory. -/
theorem par_dir {t : List It} {b : List UInt8} (h : Par t) (hb : b ≠ []) : ∀ (n : Nat) (q : List UInt8), q.length ≤ n → (getR t q).isSome = true → belowR b q = true → isDirR t b = true
  | 0, q, hl, _, hq => by
    have h1 : q = [] := by simpa using hl
    subst h1
    have h2 := belowR_len hq
    exact absurd (by simpa using h2) hb
  | n + 1, q, hl, hs, hq => by
    obtain ⟨m, hm⟩ := Option.isSome_iff_exists.1 hs
    obtain ⟨x, hx, rfl, _⟩ := getR_mem hm
    have hdx := h x hx
    rcases below_up hb hq with h1 | h1
    · rw [← h1]; exact hdx
    · have h0 : dirOfR x.p ≠ [] := by
        intro h0
        rw [h0] at h1
        have := belowR_len h1
        exact absurd (by simpa using this) hb
      obtain ⟨m, h2, _⟩ := isDir_some h0 hdx
      have hlt := dir_lt h0
      exact par_dir h hb n _ (by omega) (by rw [h2]; rfl) h1
theorem none_below {t : List It} (h : OkT t) {p : List UInt8} (hp : p ≠ []) (hd : isDirR t p = false) : noneBelow t p = t := by
  unfold noneBelow
  refine List.filter_eq_self.2 fun x hx => ?_
  cases hb : belowR p x.p
  · rfl
  · have := par_dir h.par hp _ x.p (Nat.le_refl _) (by rw [getR_self h.srt hx]; rfl) hb
    rw [hd] at this; cases this
theorem isDir_get {t : List It} {p : List UInt8} (hp : p ≠ []) : isDirR t p = match getR t p with | some n => n.k == 2 | none => false := by
  unfold isDirR
  have : (p == []) = false := by simpa using hp
  rw [this]; rfl
theorem drop_no {t : List It} {p : List UInt8} (h : getR t p = none) : dropR t p = t := by
  unfold dropR
  refine List.filter_eq_self.2 fun x hx => ?_
  cases hb : x.p == p
  · rfl
  · exfalso
    have : ∀ {t : List It}, x ∈ t → getR t p ≠ none := by
      intro t ht
      induction t with
      | nil => simp at ht
      | cons y r ih =>
        rw [getR]
        split
        · simp
        · rcases List.mem_cons.1 ht with rfl | ht
          · rename_i hn; exact absurd hb hn
          · exact ih ht
    exact this hx h
theorem remove_no {t : List It} (h : OkT t) {p : List UInt8} (hp : p ≠ []) (hn : getR t p = none) : removeR t p = t := by
  unfold removeR
  rw [none_below h hp (by rw [isDir_get hp, hn]), drop_no hn]

/-! What a walk leads to. -/
def ThereT (t : List It) (fo : Bool) (r : List UInt8 × Bool × Int) : Prop :=
  r.2.2 = 0 → (r.2.1 = true → r.1 = [] ∨ ∃ n, getR t r.1 = some n ∧ (fo = true → (n.k == 3) = false)) ∧ (r.2.1 = false → r.1 ≠ [] ∧ getR t r.1 = none)
def InT (t : List It) (c : List UInt8) : Prop := c = [] ∨ ∃ n, getR t c = some n
theorem splitF_ne {s : List UInt8} : ∀ x ∈ (splitF s).1, x ≠ [] := by
  intro x hx
  unfold splitF at hx
  split at hx
  · simp at hx
  · split at hx
    · simp at hx
    · split at hx
      · have := (List.mem_filter.1 hx).2
        intro h; subst h; simp at this
      · simp at hx
theorem dirOf_dir {t : List It} (h : OkT t) {c : List UInt8} (hc : InT t c) : isDirR t (dirOfR c) = true := by
  rcases hc with rfl | ⟨n, hn⟩
  · rfl
  · obtain ⟨x, hx, rfl, _⟩ := getR_mem hn
    exact h.par x hx
theorem dir_in {t : List It} {c : List UInt8} (h : isDirR t c = true) : c = [] ∨ ∃ n, getR t c = some n ∧ (n.k == 3) = false := by
  by_cases hc : c = []
  · exact .inl hc
  · obtain ⟨m, h1, h2⟩ := isDir_some hc h
    exact .inr ⟨m, h1, by rw [h2]; rfl⟩
/-- What the walk holds: where it is there is something that is no link, unless it ends there. -/
theorem walkW_there {t : List It} (h : OkT t) {fo : Bool} : ∀ (f : Nat) (c : List UInt8) (ps : List (List UInt8)) (hops : Nat), (c = [] ∨ ∃ n, getR t c = some n ∧ (fo = true → (n.k == 3) = false)) → (∀ x ∈ ps, x ≠ []) → ThereT t fo (walkW t fo f c ps hops)
  | 0, c, ps, hops, hc, hps => by intro h0; simp [walkW] at h0
  | f + 1, c, [], hops, hc, hps => by
    intro _
    simp only [walkW]
    exact ⟨fun _ => hc, fun h => by cases h⟩
  | f + 1, c, p :: ps, hops, hc, hps => by
    have hpn := hps p List.mem_cons_self
    have hps' : ∀ x ∈ ps, x ≠ [] := fun x hx => hps x (List.mem_cons_of_mem _ hx)
    have bad : ∀ e : Int, e ≠ 0 → ThereT t fo ([], false, e) := fun e he h0 => absurd h0 he
    simp only [walkW]
    split
    · exact walkW_there h f c ps hops hc hps'
    · split
      · refine walkW_there h f _ ps hops ?_ hps'
        have hd : isDirR t (dirOfR c) = true := dirOf_dir h (hc.imp id fun ⟨n, hn, _⟩ => ⟨n, hn⟩)
        exact (dir_in hd).imp id fun ⟨n, h1, h2⟩ => ⟨n, h1, fun _ => h2⟩
      · split
        · exact bad 9 (by decide)
        · split
          · exact bad 12 (by decide)
          · rename_i hdir _
            have hdir : isDirR t c = true := by simpa using hdir
            split
            · rename_i hg
              split
              · refine fun _ => ⟨fun h => ?_, fun _ => ⟨joinF_ne hpn, hg⟩⟩
                cases h
              · exact bad 6 (by decide)
            · rename_i n hg
              split
              · split
                · exact bad 11 (by decide)
                · split
                  · refine walkW_there h f _ _ _ ?_ ?_
                    · split
                      · exact .inl rfl
                      · exact (dir_in hdir).imp id fun ⟨n, h1, h2⟩ => ⟨n, h1, fun _ => h2⟩
                    · intro x hx
                      rcases List.mem_append.1 hx with hx | hx
                      · exact splitF_ne x hx
                      · exact hps' x hx
                  · rename_i he
                    exact bad _ (by simpa using he)
              · rename_i hlk
                refine walkW_there h f _ ps hops (.inr ⟨n, hg, fun hf => ?_⟩) hps'
                rw [hf, Bool.or_true, Bool.and_true] at hlk
                simpa using hlk
theorem walkF_there {t : List It} (h : OkT t) (s : List UInt8) (fo : Bool) : ThereT t fo (walkF t s fo) := by
  unfold walkF
  split
  · exact walkW_there h _ _ _ _ (.inl rfl) splitF_ne
  · rename_i he
    exact fun h0 => absurd h0 (by simpa using he)

/-! The path of an item, walked. -/
end Go.Dm
