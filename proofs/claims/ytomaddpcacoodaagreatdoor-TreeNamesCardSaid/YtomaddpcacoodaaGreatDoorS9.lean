/-
  What a diff says of two trees: the other way round, of a tree and itself, of each path. No condition.
-/
import Derived.Test.YtomaddpcacoodaaGreatDoorS8
set_option linter.unusedSimpArgs false
set_option linter.unusedVariables false
namespace Go.Dm
open Go

theorem compact_mem {l : List (List UInt8)} : ∀ m, m ≤ l.length → ∀ j (hj : j < l.length), j < m → l[j] ∈ Lib.compactUpTo l.toArray m
  | 0, _, _, _, h => by omega
  | m + 1, hm, j, hj, h => by
    rw [Lib.compactUpTo_succ]
    have hg : l.toArray[m]! = l[m] := by simp [getElem!_pos, show m < l.length by omega]
    by_cases hjm : j < m
    · exact List.mem_append_left _ (compact_mem m (by omega) j hj hjm)
    · have : j = m := by omega
      subst this
      cases hk : Lib.keeps l.toArray j
      · have hg1 : l.toArray[j - 1]! = l[j - 1] := by simp [getElem!_pos, show j - 1 < l.length by omega]
        unfold Lib.keeps at hk
        rw [hg, hg1] at hk
        simp only [decide_eq_false_iff_not, not_or, Decidable.not_not] at hk
        rw [hk.2]
        exact List.mem_append_left _ (compact_mem j (by omega) (j - 1) (by omega) (by omega))
      · rw [hg]; exact List.mem_append_right _ (by simp)
theorem compact_iff {l : List (List UInt8)} {p : List UInt8} : p ∈ Lib.compact (l.mergeSort fun x y => decide (x ≤ y)) ↔ p ∈ l := by
  have hp : ∀ q, q ∈ (l.mergeSort fun x y => decide (x ≤ y)) ↔ q ∈ l := fun q => List.mem_mergeSort
  constructor
  · intro h
    obtain ⟨j, _, hj, rfl⟩ := (compact_strict (sorted_paths l) _ (Nat.le_refl _)).2 p h
    exact (hp _).1 (List.getElem_mem hj)
  · intro h
    obtain ⟨j, hj, rfl⟩ := List.mem_iff_getElem.1 ((hp p).2 h)
    exact compact_mem _ (Nat.le_refl _) j hj hj

/-- Two lists in strict order that have the same members are one. -/
theorem strict_unique {α : Type} {lt : α → α → Bool} (hirr : ∀ a, lt a a = false) (hasm : ∀ {a b}, lt a b = true → lt b a = false) : ∀ {a b : List α}, a.Pairwise (fun x y => lt x y = true) → b.Pairwise (fun x y => lt x y = true) → (∀ x, x ∈ a ↔ x ∈ b) → a = b
  | [], [], _, _, _ => rfl
  | [], y :: b, _, _, h => by have := (h y).2 List.mem_cons_self; simp at this
  | x :: a, [], _, _, h => by have := (h x).1 List.mem_cons_self; simp at this
  | x :: a, y :: b, ha, hb, h => by
    obtain ⟨ha1, ha2⟩ := List.pairwise_cons.1 ha
    obtain ⟨hb1, hb2⟩ := List.pairwise_cons.1 hb
    have hxy : x = y := by
      rcases List.mem_cons.1 ((h x).1 List.mem_cons_self) with e | e
      · exact e
      · rcases List.mem_cons.1 ((h y).2 List.mem_cons_self) with e2 | e2
        · exact e2.symm
        · have h1 := hasm (hb1 x e)
          rw [ha1 y e2] at h1; cases h1
    subst hxy
    rw [strict_unique hirr hasm ha2 hb2 fun z => ?_]
    constructor
    · intro hz
      rcases List.mem_cons.1 ((h z).1 (List.mem_cons_of_mem _ hz)) with e | e
      · subst e; have := ha1 z hz; rw [hirr] at this; cases this
      · exact e
    · intro hz
      rcases List.mem_cons.1 ((h z).2 (List.mem_cons_of_mem _ hz)) with e | e
      · subst e; have := hb1 z hz; rw [hirr] at this; cases this
      · exact e

def pathsF (a b : List It) : List (List UInt8) := Lib.compact (((a ++ b).map It.p).mergeSort fun x y => decide (x ≤ y))
def diffF (a b : List It) : List Ch := chsF a b (pathsF a b)
theorem pathsF_iff {a b : List It} {p : List UInt8} : p ∈ pathsF a b ↔ (∃ x ∈ a, x.p = p) ∨ ∃ x ∈ b, x.p = p := by
  unfold pathsF
  rw [compact_iff]
  simp only [List.mem_map, List.mem_append]
  constructor
  · rintro ⟨x, h | h, rfl⟩
    · exact .inl ⟨x, h, rfl⟩
    · exact .inr ⟨x, h, rfl⟩
  · rintro (⟨x, h, rfl⟩ | ⟨x, h, rfl⟩)
    · exact ⟨x, .inl h, rfl⟩
    · exact ⟨x, .inr h, rfl⟩
theorem pathsF_swap (a b : List It) : pathsF a b = pathsF b a :=
  strict_unique (lt := bltL) blt_irrefl (fun h => blt_asymm h) (paths_strict _) (paths_strict _) fun p => by
    show p ∈ pathsF a b ↔ p ∈ pathsF b a
    rw [pathsF_iff, pathsF_iff]; exact Or.comm

/-- The other way round. -/
def backK (k : Int) : Int := if k == 1 then 2 else if k == 2 then 1 else k
def backC (x : Ch) : Ch := ⟨x.p, backK x.k, x.n, x.o⟩
def sameCh (x y : Ch) : Bool := x.p == y.p && x.k == y.k && ndSame x.o y.o && ndSame x.n y.n
def sameCs : List Ch → List Ch → Bool
  | [], [] => true
  | x :: a, y :: b => sameCh x y && sameCs a b
  | _, _ => false
theorem sameCs_drop {a b : List Ch} {k : Nat} {x y : Ch} (ha : a[k]? = some x) (hb : b[k]? = some y) : sameCs (a.drop k) (b.drop k) = (sameCh x y && sameCs (a.drop (k + 1)) (b.drop (k + 1))) := by
  obtain ⟨h1, rfl⟩ := List.getElem?_eq_some_iff.1 ha
  obtain ⟨h2, rfl⟩ := List.getElem?_eq_some_iff.1 hb
  rw [List.drop_eq_getElem_cons h1, List.drop_eq_getElem_cons h2, sameCs]
theorem sameCs_len : ∀ {a b : List Ch}, a.length ≠ b.length → sameCs a b = false
  | [], [], h => absurd rfl h
  | [], _ :: _, _ => rfl
  | _ :: _, [], _ => rfl
  | x :: a, y :: b, h => by rw [sameCs, sameCs_len (by simpa using h), Bool.and_false]
theorem ndSame_self {x : Nd} (h : x.wf) : ndSame x x = true := by rw [ndSame_eq h h]; exact sameNd_refl x
theorem ndSame_swap {x y : Nd} (hx : x.wf) (hy : y.wf) : ndSame x y = ndSame y x := by
  rw [ndSame_eq hx hy, ndSame_eq hy hx]
  cases h : sameNd x y
  · cases h2 : sameNd y x
    · rfl
    · rw [sameNd_symm h2] at h; cases h
  · exact (sameNd_symm h).symm
theorem sameCs_refl : ∀ {a : List Ch}, (∀ x ∈ a, x.o.wf ∧ x.n.wf) → sameCs a a = true
  | [], _ => rfl
  | x :: a, h => by
    have h1 := h x List.mem_cons_self
    rw [sameCs, sameCs_refl fun y hy => h y (List.mem_cons_of_mem _ hy), sameCh, ndSame_self h1.1, ndSame_self h1.2]; simp
theorem kindF_swap {u v : Bool} {x y : Nd} (hx : x.wf) (hy : y.wf) : kindF v u y x = backK (kindF u v x y) := by
  cases u <;> cases v
  · rfl
  · rfl
  · rfl
  · unfold kindF
    simp only [if_true]
    rw [ndSame_swap hy hx]
    have e1 : (y.k != x.k) = (x.k != y.k) := by rw [bne, bne, BEq.comm]
    have e2 : (y.d == x.d) = (x.d == y.d) := BEq.comm
    rw [e1, e2]
    repeat' split
    all_goals rfl
theorem backK_zero (k : Int) : (backK k != 0) = (k != 0) := by
  unfold backK
  split
  · rename_i h; rw [eq_of_beq h]; rfl
  · split
    · rename_i h; rw [eq_of_beq h]; rfl
    · rfl
theorem backK_back (k : Int) : backK (backK k) = k := by
  unfold backK
  by_cases h1 : k = 1
  · subst h1; rfl
  · by_cases h2 : k = 2
    · subst h2; rfl
    · simp [h1, h2]
theorem backC_back (l : List Ch) : (l.map backC).map backC = l := by
  rw [List.map_map]
  refine (List.map_congr_left fun x _ => ?_).trans (List.map_id' l)
  show backC (backC x) = x
  simp [backC, backK_back]
theorem chF_back {a b : List It} (ha : ∀ p, ((getR a p).getD nd0).wf) (hb : ∀ p, ((getR b p).getD nd0).wf) (p : List UInt8) : (chF a b p).map backC = chF b a p := by
  unfold chF
  rw [kindF_swap (u := (getR a p).isSome) (ha p) (hb p), backK_zero]
  split <;> rfl
theorem chsF_back {a b : List It} (ha : ∀ p, ((getR a p).getD nd0).wf) (hb : ∀ p, ((getR b p).getD nd0).wf) : ∀ l, (chsF a b l).map backC = chsF b a l
  | [] => rfl
  | p :: r => by rw [chsF, List.map_append, chF_back ha hb, chsF_back ha hb r, chsF]
theorem diffF_back {a b : List It} (ha : OkT a) (hb : OkT b) : (diffF a b).map backC = diffF b a := by
  unfold diffF
  rw [chsF_back ha.gett hb.gett, pathsF_swap]
theorem kindF_self {u : Bool} {x : Nd} (hx : x.wf) : kindF u u x x = 0 := by
  cases u
  · rfl
  · unfold kindF; rw [ndSame_self hx]; rfl
theorem diffF_self {a : List It} (ha : OkT a) : diffF a a = [] := by
  unfold diffF
  generalize pathsF a a = l
  induction l with
  | nil => rfl
  | cons p r ih => rw [chsF, ih]; simp [chF, kindF_self (ha.gett p)]
theorem chsF_len {a b : List It} : ∀ l : List (List UInt8), (chsF a b l).length ≤ l.length
  | [] => by simp [chsF]
  | p :: r => by
    have := chsF_len (a := a) (b := b) r
    have h2 : (chF a b p).length ≤ 1 := by unfold chF; split <;> simp
    rw [chsF, List.length_append, List.length_cons]; omega
theorem compact_le (l : List (List UInt8)) : (Lib.compact l).length ≤ l.length := by
  unfold Lib.compact Lib.compactUpTo
  rw [List.length_map]
  exact Nat.le_trans (List.length_filter_le ..) (by simp)
theorem diffF_len (a b : List It) : (diffF a b).length ≤ a.length + b.length := by
  unfold diffF pathsF
  refine Nat.le_trans (chsF_len _) (Nat.le_trans (compact_le _) ?_)
  rw [List.length_mergeSort, List.length_map, List.length_append]; exact Nat.le_refl _
theorem diffF_mem {a b : List It} {x : Ch} (h : x ∈ diffF a b) : x.k = kindF (getR a x.p).isSome (getR b x.p).isSome ((getR a x.p).getD nd0) ((getR b x.p).getD nd0) ∧ kindF (getR a x.p).isSome (getR b x.p).isSome ((getR a x.p).getD nd0) ((getR b x.p).getD nd0) ≠ 0 := by
  obtain ⟨h1, h2⟩ := chF_mem (chsF_mem h).2
  exact ⟨congrArg Ch.k h1, h2⟩
theorem diffF_nodes {a b : List It} {x : Ch} (h : x ∈ diffF a b) : x.o = (getR a x.p).getD nd0 ∧ x.n = (getR b x.p).getD nd0 := by
  obtain ⟨h1, _⟩ := chF_mem (chsF_mem h).2
  exact ⟨congrArg Ch.o h1, congrArg Ch.n h1⟩
theorem diffF_wf {a b : List It} (ha : OkT a) (hb : OkT b) {x : Ch} (h : x ∈ diffF a b) : x.o.wf ∧ x.n.wf := by
  obtain ⟨h1, h2⟩ := diffF_nodes h
  rw [h1, h2]; exact ⟨ha.gett _, hb.gett _⟩
theorem diffF_srt (a b : List It) : (diffF a b).Pairwise fun x y => bltL x.p y.p = true := chsF_srt (paths_strict _)
theorem chsF_has {a b : List It} {p : List UInt8} : ∀ {l : List (List UInt8)}, p ∈ l → kindF (getR a p).isSome (getR b p).isSome ((getR a p).getD nd0) ((getR b p).getD nd0) ≠ 0 → ∃ x ∈ chsF a b l, x.p = p
  | q :: r, h, hk => by
    rcases List.mem_cons.1 h with rfl | h
    · refine ⟨⟨p, kindF (getR a p).isSome (getR b p).isSome ((getR a p).getD nd0) ((getR b p).getD nd0), (getR a p).getD nd0, (getR b p).getD nd0⟩, List.mem_append_left _ ?_, rfl⟩
      unfold chF; rw [if_pos (by simpa using hk)]; simp
    · obtain ⟨x, hx, he⟩ := chsF_has h hk
      exact ⟨x, List.mem_append_right _ hx, he⟩
/-- A path is told just where the trees differ. -/
theorem told_iff {a b : List It} (ha : OkT a) (hb : OkT b) {p : List UInt8} (hp : (getR a p).isSome = true ∨ (getR b p).isSome = true) :
    ((diffF a b).any fun x => x.p == p) = (((getR a p).isSome != (getR b p).isSome) || !sameNd ((getR a p).getD nd0) ((getR b p).getD nd0)) := by
  have hk : kindF (getR a p).isSome (getR b p).isSome ((getR a p).getD nd0) ((getR b p).getD nd0) ≠ 0 ↔ (((getR a p).isSome != (getR b p).isSome) || !sameNd ((getR a p).getD nd0) ((getR b p).getD nd0)) = true := by
    have he := ndSame_eq (ha.gett p) (hb.gett p)
    generalize (getR a p).isSome = u at *
    generalize (getR b p).isSome = v at *
    generalize (getR a p).getD nd0 = x at *
    generalize (getR b p).getD nd0 = y at *
    unfold kindF
    rw [he]
    cases u <;> cases v
    · simp at hp
    · simp
    · simp
    · simp only [if_true]
      cases sameNd x y
      · simp only [Bool.false_eq_true, if_false]
        constructor
        · intro _; rfl
        · intro _; repeat' split
          all_goals decide
      · simp
  cases hr : (((getR a p).isSome != (getR b p).isSome) || !sameNd ((getR a p).getD nd0) ((getR b p).getD nd0))
  · cases ht : (diffF a b).any fun x => x.p == p
    · rfl
    · obtain ⟨x, hx, he⟩ := List.any_eq_true.1 ht
      have := eq_of_beq he
      subst this
      rw [hk.1 (diffF_mem hx).2] at hr; cases hr
  · have hpath : p ∈ pathsF a b := by
      rw [pathsF_iff]
      rcases hp with hp | hp
      · obtain ⟨n, hn⟩ := Option.isSome_iff_exists.1 hp
        obtain ⟨x, hx, he, _⟩ := getR_mem hn
        exact .inl ⟨x, hx, he⟩
      · obtain ⟨n, hn⟩ := Option.isSome_iff_exists.1 hp
        obtain ⟨x, hx, he, _⟩ := getR_mem hn
        exact .inr ⟨x, hx, he⟩
    obtain ⟨x, hx, he⟩ := chsF_has hpath (hk.2 hr)
    exact List.any_eq_true.2 ⟨x, hx, by simp [he]⟩
theorem getR_has {x : It} : ∀ {t : List It}, x ∈ t → (getR t x.p).isSome = true
  | y :: r, h => by
    rw [getR]
    split
    · rfl
    · rename_i hy
      rcases List.mem_cons.1 h with rfl | h
      · simp at hy
      · exact getR_has h
theorem drop_map_at {l : List Ch} {k : Nat} {x : Ch} (h : l[k]? = some x) : (l.take k).map backC ++ l.drop k = (l.take k).map backC ++ x :: l.drop (k + 1) := by
  obtain ⟨h1, rfl⟩ := List.getElem?_eq_some_iff.1 h
  rw [List.drop_eq_getElem_cons h1]
end Go.Dm
