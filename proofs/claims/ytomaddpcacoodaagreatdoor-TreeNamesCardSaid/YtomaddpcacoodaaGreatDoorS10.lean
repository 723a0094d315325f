/-
  The document's diff: its paths, its kinds; it is the program's. No condition.
-/
import Derived.Test.YtomaddpcacoodaaGreatDoorS9
set_option linter.unusedSimpArgs false
set_option linter.unusedVariables false
namespace Go.Dm
open Go

/-- A text into its place, once. -/
def insS (s : List UInt8) : List (List UInt8) → List (List UInt8)
  | [] => [s]
  | x :: l => if bltL x s then x :: insS s l else if x == s then x :: l else s :: x :: l
theorem insS_mem {s q : List UInt8} : ∀ {l : List (List UInt8)}, q ∈ insS s l ↔ q = s ∨ q ∈ l
  | [] => by simp [insS]
  | x :: l => by
    rw [insS]
    split
    · rw [List.mem_cons, insS_mem, List.mem_cons]
      constructor
      · rintro (h | h | h)
        · exact .inr (.inl h)
        · exact .inl h
        · exact .inr (.inr h)
      · rintro (h | h | h)
        · exact .inr (.inl h)
        · exact .inl h
        · exact .inr (.inr h)
    · split
      · rename_i h
        have h := eq_of_beq h
        subst h
        simp
      · simp
theorem insS_srt {s : List UInt8} : ∀ {l : List (List UInt8)}, l.Pairwise (fun x y => bltL x y = true) → (insS s l).Pairwise fun x y => bltL x y = true
  | [], _ => by simp [insS]
  | x :: l, h => by
    obtain ⟨h1, h2⟩ := List.pairwise_cons.1 h
    rw [insS]
    split
    · rename_i hb
      refine List.pairwise_cons.2 ⟨fun y hy => ?_, insS_srt h2⟩
      rcases insS_mem.1 hy with rfl | hy
      · exact hb
      · exact h1 y hy
    · rename_i hb
      split
      · exact h
      · rename_i hn
        have hs : bltL s x = true := by
          cases hc : bltL s x
          · have := blt_tri (by simpa using hb) hc
            subst this; simp at hn
          · rfl
        refine List.pairwise_cons.2 ⟨fun y hy => ?_, h⟩
        rcases List.mem_cons.1 hy with rfl | hy
        · exact hs
        · exact blt_trans hs (h1 y hy)
theorem insS_at {s : List UInt8} : ∀ {l : List (List UInt8)} {k : Nat}, k ≤ l.length → (∀ j x, l[j]? = some x → j < k → bltL x s = true) → (∀ x, l[k]? = some x → bltL x s = false) →
    insS s l = match l[k]? with
      | some x => if x == s then l else l.take k ++ s :: l.drop k
      | none => l ++ [s]
  | [], k, hk, _, _ => by simp [insS]
  | x :: l, 0, _, _, h2 => by
    have := h2 x rfl
    simp only [insS, this, Bool.false_eq_true, if_false, List.getElem?_cons_zero, List.take_zero, List.nil_append, List.drop_zero]
  | x :: l, k + 1, hk, h1, h2 => by
    have h3 := h1 0 x rfl (by omega)
    have ih := insS_at (s := s) (l := l) (k := k) (by simpa using hk) (fun j y hy hj => h1 (j + 1) y (by simpa using hy) (by omega)) (fun y hy => h2 y (by simpa using hy))
    rw [insS, if_pos h3, ih, List.getElem?_cons_succ]
    cases l[k]? with
    | none => rfl
    | some y =>
      simp only [List.take_succ_cons, List.drop_succ_cons, List.cons_append]
      split <;> rfl
def insAll (o : List (List UInt8)) (t : List It) : List (List UInt8) := t.foldl (fun o x => insS x.p o) o
theorem insAll_srt : ∀ {t : List It} {o : List (List UInt8)}, o.Pairwise (fun x y => bltL x y = true) → (insAll o t).Pairwise fun x y => bltL x y = true
  | [], _, h => h
  | _ :: t, _, h => insAll_srt (t := t) (insS_srt h)
theorem insAll_mem {q : List UInt8} : ∀ {t : List It} {o : List (List UInt8)}, q ∈ insAll o t ↔ q ∈ o ∨ ∃ x ∈ t, x.p = q
  | [], o => by simp [insAll]
  | x :: t, o => by
    show q ∈ insAll (insS x.p o) t ↔ _
    rw [insAll_mem, insS_mem]
    constructor
    · rintro ((h | h) | ⟨y, hy, h⟩)
      · exact .inr ⟨x, List.mem_cons_self, h.symm⟩
      · exact .inl h
      · exact .inr ⟨y, List.mem_cons_of_mem _ hy, h⟩
    · rintro (h | ⟨y, hy, h⟩)
      · exact .inl (.inr h)
      · rcases List.mem_cons.1 hy with rfl | hy
        · exact .inl (.inl h.symm)
        · exact .inr ⟨y, hy, h⟩
theorem insS_len (s : List UInt8) : ∀ l : List (List UInt8), (insS s l).length ≤ l.length + 1
  | [] => by simp [insS]
  | x :: l => by
    have := insS_len s l
    rw [insS]; repeat' split
    all_goals simp only [List.length_cons]; omega
theorem insAll_len : ∀ (t : List It) (o : List (List UInt8)), (insAll o t).length ≤ o.length + t.length
  | [], o => by simp [insAll]
  | x :: t, o => by
    have h1 := insAll_len t (insS x.p o)
    have h2 := insS_len x.p o
    show (insAll (insS x.p o) t).length ≤ _
    rw [List.length_cons]; omega
def pathsR (a b : List It) : List (List UInt8) := insAll (insAll [] a) b
theorem pathsR_eq (a b : List It) : pathsR a b = pathsF a b :=
  strict_unique (lt := bltL) blt_irrefl (fun h => blt_asymm h) (insAll_srt (insAll_srt (by simp))) (paths_strict _) fun p => by
    show p ∈ pathsR a b ↔ p ∈ pathsF a b
    rw [pathsF_iff]; unfold pathsR; rw [insAll_mem, insAll_mem]; simp

def kindR (x y : Nd) (p q : Bool) : Int := if !p then 1 else if !q then 2 else if x.k != y.k then 4 else if !(x.d == y.d) then 3 else 5
def refCh (a b : List It) (p : List UInt8) : List Ch :=
  if (getR a p).isSome && (getR b p).isSome && sameNd ((getR a p).getD nd0) ((getR b p).getD nd0) then [] else [⟨p, kindR ((getR a p).getD nd0) ((getR b p).getD nd0) (getR a p).isSome (getR b p).isSome, (getR a p).getD nd0, (getR b p).getD nd0⟩]
def refChs (a b : List It) : List (List UInt8) → List Ch
  | [] => []
  | p :: r => refCh a b p ++ refChs a b r
def refDiff (a b : List It) : List Ch := refChs a b (pathsR a b)
theorem refCh_eq {a b : List It} (ha : OkT a) (hb : OkT b) {p : List UInt8} (hp : (getR a p).isSome = true ∨ (getR b p).isSome = true) : refCh a b p = chF a b p := by
  have he := ndSame_eq (ha.gett p) (hb.gett p)
  unfold refCh chF kindF kindR
  rw [he]
  generalize (getR a p).isSome = u at *
  generalize (getR b p).isSome = v at *
  generalize (getR a p).getD nd0 = x at *
  generalize (getR b p).getD nd0 = y at *
  cases u <;> cases v
  · simp at hp
  · rfl
  · rfl
  · simp only [Bool.not_true, Bool.true_and, if_true, Bool.false_eq_true, if_false]
    cases sameNd x y
    · simp only [Bool.false_eq_true, if_false]
      repeat' split
      all_goals first | rfl | (rename_i h; exact absurd h (by decide)) | (rename_i h _; exact absurd h (by decide)) | (rename_i h _ _; exact absurd h (by decide))
    · rfl
theorem refChs_eq {a b : List It} (ha : OkT a) (hb : OkT b) : ∀ {l : List (List UInt8)}, (∀ p ∈ l, (getR a p).isSome = true ∨ (getR b p).isSome = true) → refChs a b l = chsF a b l
  | [], _ => rfl
  | p :: r, h => by rw [refChs, chsF, refCh_eq ha hb (h p List.mem_cons_self), refChs_eq ha hb fun q hq => h q (List.mem_cons_of_mem _ hq)]
theorem pathsF_there {a b : List It} {p : List UInt8} (h : p ∈ pathsF a b) : (getR a p).isSome = true ∨ (getR b p).isSome = true := by
  rcases pathsF_iff.1 h with ⟨x, hx, rfl⟩ | ⟨x, hx, rfl⟩
  · exact .inl (getR_has hx)
  · exact .inr (getR_has hx)
theorem refDiff_eq {a b : List It} (ha : OkT a) (hb : OkT b) : refDiff a b = diffF a b := by
  unfold refDiff diffF
  rw [pathsR_eq, refChs_eq ha hb fun p hp => pathsF_there hp]
def sameCsR : List Ch → List Ch → Bool
  | [], [] => true
  | x :: a, y :: b => (x.p == y.p && x.k == y.k && sameNd x.o y.o && sameNd x.n y.n) && sameCsR a b
  | _, _ => false
theorem sameCsR_refl : ∀ a : List Ch, sameCsR a a = true
  | [] => rfl
  | x :: a => by rw [sameCsR, sameCsR_refl a]; simp [sameNd_refl]
theorem sameCsR_drop {a b : List Ch} {k : Nat} {x y : Ch} (ha : a[k]? = some x) (hb : b[k]? = some y) : sameCsR (a.drop k) (b.drop k) = ((x.p == y.p && x.k == y.k && sameNd x.o y.o && sameNd x.n y.n) && sameCsR (a.drop (k + 1)) (b.drop (k + 1))) := by
  obtain ⟨h1, rfl⟩ := List.getElem?_eq_some_iff.1 ha
  obtain ⟨h2, rfl⟩ := List.getElem?_eq_some_iff.1 hb
  rw [List.drop_eq_getElem_cons h1, List.drop_eq_getElem_cons h2, sameCsR]
theorem sameCsR_len : ∀ {a b : List Ch}, a.length ≠ b.length → sameCsR a b = false
  | [], [], h => absurd rfl h
  | [], _ :: _, _ => rfl
  | _ :: _, [], _ => rfl
  | x :: a, y :: b, h => by rw [sameCsR, sameCsR_len (by simpa using h), Bool.and_false]
end Go.Dm
