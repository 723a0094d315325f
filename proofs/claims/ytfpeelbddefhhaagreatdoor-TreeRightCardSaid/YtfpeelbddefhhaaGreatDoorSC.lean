/-
  Diffs, names, paths: plain laws. No condition.
-/
import Derived.Test.YtfpeelbddefhhaaGreatDoorBB
import Derived.Test.YtfpeelbddefhhaaGreatDoorSB
set_option linter.unusedSimpArgs false
set_option linter.unusedVariables false

section
/-
  The paths that a diff looks at: in strict order, each once. No condition.
-/
namespace Go.Dm
open Go

theorem blt_lt : ∀ a b : List UInt8, bltL a b = decide (a < b)
  | a, [] => by rw [blt_nil]; simp
  | [], y :: b => by show true = _; simp
  | x :: a, y :: b => by
    rw [blt_cons, blt_lt a b]
    by_cases h1 : x < y
    · simp [h1, List.cons_lt_cons_iff]
    · by_cases h2 : x = y
      · subst h2; simp [List.cons_lt_cons_iff]
      · simp [h1, h2, List.cons_lt_cons_iff]
theorem le_blt {a b : List UInt8} : a ≤ b ↔ bltL b a = false := by rw [blt_lt, decide_eq_false_iff_not, List.not_lt]
def leS (x y : List UInt8) : Bool := decide (x ≤ y)
theorem leS_blt {a b : List UInt8} : leS a b = !bltL b a := by
  unfold leS
  cases h : bltL b a
  · simpa using le_blt.2 h
  · have : ¬ a ≤ b := fun h2 => by rw [le_blt.1 h2] at h; cases h
    simpa using this
theorem leS_trans {a b c : List UInt8} (h1 : leS a b = true) (h2 : leS b c = true) : leS a c = true := by
  rw [leS_blt] at *
  cases hc : bltL c a
  · rfl
  · have h1' : bltL b a = false := by simpa using h1
    have h2' : bltL c b = false := by simpa using h2
    cases hb : bltL a b
    · have := blt_tri hb h1'; subst this; rw [hc] at h2'; cases h2'
    · have := blt_trans hc hb; rw [this] at h2'; cases h2'
theorem leS_total {a b : List UInt8} : (leS a b || leS b a) = true := by
  rw [leS_blt, leS_blt]
  cases h : bltL b a
  · rfl
  · rw [blt_asymm h]; rfl
theorem sorted_paths (l : List (List UInt8)) : (l.mergeSort fun x y => decide (x ≤ y)).Pairwise fun x y => leS x y = true :=
  List.pairwise_mergeSort (le := leS) (fun a b c => leS_trans) (fun a b => leS_total) l

theorem compact_strict {l : List (List UInt8)} (hl : l.Pairwise fun x y => leS x y = true) : ∀ m, m ≤ l.length → (Lib.compactUpTo l.toArray m).Pairwise (fun x y => bltL x y = true) ∧ ∀ x ∈ Lib.compactUpTo l.toArray m, ∃ (j : Nat) (_ : j < m) (h : j < l.length), x = l[j]
  | 0, _ => by simp [Lib.compactUpTo]
  | m + 1, hm => by
    obtain ⟨h1, h2⟩ := compact_strict hl m (by omega)
    rw [Lib.compactUpTo_succ]
    have hg : l.toArray[m]! = l[m] := by simp [getElem!_pos, show m < l.length by omega]
    split
    · rename_i hk
      rw [hg]
      refine ⟨List.pairwise_append.2 ⟨h1, by simp, fun x hx y hy => ?_⟩, fun x hx => ?_⟩
      · obtain ⟨j, hj, hjl, rfl⟩ := h2 x hx
        have : y = l[m] := by simpa using hy
        subst this
        have hm1 : m - 1 < l.length := by omega
        have hg1 : l.toArray[m - 1]! = l[m - 1] := by simp [getElem!_pos, hm1]
        unfold Lib.keeps at hk
        rw [hg, hg1] at hk
        simp only [decide_eq_true_eq] at hk
        have hne : l[m] ≠ l[m - 1] := by rcases hk with hk | hk; omega; exact hk
        have a1 : leS l[m - 1] l[m] = true := List.pairwise_iff_getElem.1 hl _ _ hm1 (by omega) (by omega)
        have a2 : bltL l[m - 1] l[m] = true := by
          cases h : bltL l[m - 1] l[m]
          · rw [leS_blt] at a1
            exact absurd (blt_tri h (by simpa using a1)).symm hne
          · rfl
        rcases Nat.lt_or_ge j (m - 1) with h | h
        · have a3 : leS l[j] l[m - 1] = true := List.pairwise_iff_getElem.1 hl _ _ hjl hm1 h
          cases h5 : bltL l[j] l[m - 1]
          · rw [leS_blt] at a3
            rw [blt_tri h5 (by simpa using a3)]; exact a2
          · exact blt_trans h5 a2
        · have : j = m - 1 := by omega
          subst this; exact a2
      · rcases List.mem_append.1 hx with hx | hx
        · obtain ⟨j, hj, hjl, he⟩ := h2 x hx
          exact ⟨j, by omega, hjl, he⟩
        · have : x = l[m] := by simpa using hx
          exact ⟨m, by omega, by omega, this⟩
    · rw [List.append_nil]
      exact ⟨h1, fun x hx => by obtain ⟨j, hj, hjl, he⟩ := h2 x hx; exact ⟨j, by omega, hjl, he⟩⟩
theorem paths_strict (l : List (List UInt8)) : (Lib.compact (l.mergeSort fun x y => decide (x ≤ y))).Pairwise fun x y => bltL x y = true :=
  (compact_strict (sorted_paths l) _ (Nat.le_refl _)).1

theorem chF_mem {a b : List It} {p : List UInt8} {x : Ch} (h : x ∈ chF a b p) : x = ⟨p, kindF (getR a p).isSome (getR b p).isSome ((getR a p).getD nd0) ((getR b p).getD nd0), (getR a p).getD nd0, (getR b p).getD nd0⟩ ∧ kindF (getR a p).isSome (getR b p).isSome ((getR a p).getD nd0) ((getR b p).getD nd0) ≠ 0 := by
  unfold chF at h
  split at h
  · rename_i hb; exact ⟨by simpa using h, by simpa using hb⟩
  · simp at h
theorem chsF_mem {a b : List It} {x : Ch} : ∀ {l : List (List UInt8)}, x ∈ chsF a b l → x.p ∈ l ∧ x ∈ chF a b x.p
  | [], h => by simp [chsF] at h
  | p :: r, h => by
    rcases List.mem_append.1 h with h | h
    · have := (chF_mem h).1
      have hp : x.p = p := by rw [this]
      rw [hp]; exact ⟨List.mem_cons_self, h⟩
    · obtain ⟨h1, h2⟩ := chsF_mem h
      exact ⟨List.mem_cons_of_mem _ h1, h2⟩
theorem chsF_srt {a b : List It} : ∀ {l : List (List UInt8)}, l.Pairwise (fun x y => bltL x y = true) → (chsF a b l).Pairwise fun x y => bltL x.p y.p = true
  | [], _ => by simp [chsF]
  | p :: r, h => by
    obtain ⟨h1, h2⟩ := List.pairwise_cons.1 h
    refine List.pairwise_append.2 ⟨?_, chsF_srt h2, fun x hx y hy => ?_⟩
    · unfold chF; split <;> simp
    · rw [(chF_mem hx).1]; exact h1 _ (chsF_mem hy).1
end Go.Dm
end

section
/-
  What a diff says of two trees: the other way round, of a tree and itself, of each path. No condition.
-/
namespace Go.Dm
open Go

theorem compact_mem {l : List (List UInt8)} : ∀ m, m ≤ l.length → ∀ j (hj : j < l.length), j < m → l[j] ∈ Lib.compactUpTo l.toArray m
  | 0, _, _, _, h => by omega
  | m + 1, hm, j, hj, h => by
    rw [Lib.compactUpTo_succ]
    have hg : l.toArray[m]! = l[m] := by simp [getElem!_pos, show m < l.length by omega]
    by_cases hjm : j < m
    · exact List.mem_append_left _ (compact_mem m (by omega) j hj hjm)
    · have : j = m := by omega
      subst this
      cases hk : Lib.keeps l.toArray j
      · have hg1 : l.toArray[j - 1]! = l[j - 1] := by simp [getElem!_pos, show j - 1 < l.length by omega]
        unfold Lib.keeps at hk
        rw [hg, hg1] at hk
        simp only [decide_eq_false_iff_not, not_or, Decidable.not_not] at hk
        rw [hk.2]
        exact List.mem_append_left _ (compact_mem j (by omega) (j - 1) (by omega) (by omega))
      · rw [hg]; exact List.mem_append_right _ (by simp)
theorem compact_iff {l : List (List UInt8)} {p : List UInt8} : p ∈ Lib.compact (l.mergeSort fun x y => decide (x ≤ y)) ↔ p ∈ l := by
  have hp : ∀ q, q ∈ (l.mergeSort fun x y => decide (x ≤ y)) ↔ q ∈ l := fun q => List.mem_mergeSort
  constructor
  · intro h
    obtain ⟨j, _, hj, rfl⟩ := (compact_strict (sorted_paths l) _ (Nat.le_refl _)).2 p h
    exact (hp _).1 (List.getElem_mem hj)
  · intro h
    obtain ⟨j, hj, rfl⟩ := List.mem_iff_getElem.1 ((hp p).2 h)
    exact compact_mem _ (Nat.le_refl _) j hj hj

/-- Two lists in strict order that have the same members are one. -/
theorem strict_unique {α : Type} {lt : α → α → Bool} (hirr : ∀ a, lt a a = false) (hasm : ∀ {a b}, lt a b = true → lt b a = false) : ∀ {a b : List α}, a.Pairwise (fun x y => lt x y = true) → b.Pairwise (fun x y => lt x y = true) → (∀ x, x ∈ a ↔ x ∈ b) → a = b
  | [], [], _, _, _ => rfl
  | [], y :: b, _, _, h => by have := (h y).2 List.mem_cons_self; simp at this
  | x :: a, [], _, _, h => by have := (h x).1 List.mem_cons_self; simp at this
  | x :: a, y :: b, ha, hb, h => by
    obtain ⟨ha1, ha2⟩ := List.pairwise_cons.1 ha
    obtain ⟨hb1, hb2⟩ := List.pairwise_cons.1 hb
    have hxy : x = y := by
      rcases List.mem_cons.1 ((h x).1 List.mem_cons_self) with e | e
      · exact e
      · rcases List.mem_cons.1 ((h y).2 List.mem_cons_self) with e2 | e2
        · exact e2.symm
        · have h1 := hasm (hb1 x e)
          rw [ha1 y e2] at h1; cases h1
    subst hxy
    rw [strict_unique hirr hasm ha2 hb2 fun z => ?_]
    constructor
    · intro hz
      rcases List.mem_cons.1 ((h z).1 (List.mem_cons_of_mem _ hz)) with e | e
      · subst e; have := ha1 z hz; rw [hirr] at this; cases this
      · exact e
    · intro hz
      rcases List.mem_cons.1 ((h z).2 (List.mem_cons_of_mem _ hz)) with e | e
      · subst e; have := hb1 z hz; rw [hirr] at this; cases this
      · exact e

def pathsF (a b : List It) : List (List UInt8) := Lib.compact (((a ++ b).map It.p).mergeSort fun x y => decide (x ≤ y))
def diffF (a b : List It) : List Ch := chsF a b (pathsF a b)
theorem pathsF_iff {a b : List It} {p : List UInt8} : p ∈ pathsF a b ↔ (∃ x ∈ a, x.p = p) ∨ ∃ x ∈ b, x.p = p := by
  unfold pathsF
  rw [compact_iff]
  simp only [List.mem_map, List.mem_append]
  constructor
  · rintro ⟨x, h | h, rfl⟩
    · exact .inl ⟨x, h, rfl⟩
    · exact .inr ⟨x, h, rfl⟩
  · rintro (⟨x, h, rfl⟩ | ⟨x, h, rfl⟩)
    · exact ⟨x, .inl h, rfl⟩
    · exact ⟨x, .inr h, rfl⟩
theorem pathsF_swap (a b : List It) : pathsF a b = pathsF b a :=
  strict_unique (lt := bltL) blt_irrefl (fun h => blt_asymm h) (paths_strict _) (paths_strict _) fun p => by
    show p ∈ pathsF a b ↔ p ∈ pathsF b a
    rw [pathsF_iff, pathsF_iff]; exact Or.comm

/-- The other way round. -/
def backK (k : Int) : Int := if k == 1 then 2 else if k == 2 then 1 else k
def backC (x : Ch) : Ch := ⟨x.p, backK x.k, x.n, x.o⟩
def sameCh (x y : Ch) : Bool := x.p == y.p && x.k == y.k && ndSame x.o y.o && ndSame x.n y.n
def sameCs : List Ch → List Ch → Bool
  | [], [] => true
  | x :: a, y :: b => sameCh x y && sameCs a b
  | _, _ => false
theorem sameCs_drop {a b : List Ch} {k : Nat} {x y : Ch} (ha : a[k]? = some x) (hb : b[k]? = some y) : sameCs (a.drop k) (b.drop k) = (sameCh x y && sameCs (a.drop (k + 1)) (b.drop (k + 1))) := by
  obtain ⟨h1, rfl⟩ := List.getElem?_eq_some_iff.1 ha
  obtain ⟨h2, rfl⟩ := List.getElem?_eq_some_iff.1 hb
  rw [List.drop_eq_getElem_cons h1, List.drop_eq_getElem_cons h2, sameCs]
theorem sameCs_len : ∀ {a b : List Ch}, a.length ≠ b.length → sameCs a b = false
  | [], [], h => absurd rfl h
  | [], _ :: _, _ => rfl
  | _ :: _, [], _ => rfl
  | x :: a, y :: b, h => by rw [sameCs, sameCs_len (by simpa using h), Bool.and_false]
theorem ndSame_self {x : Nd} (h : x.wf) : ndSame x x = true := by rw [ndSame_eq h h]; exact sameNd_refl x
theorem ndSame_swap {x y : Nd} (hx : x.wf) (hy : y.wf) : ndSame x y = ndSame y x := by
  rw [ndSame_eq hx hy, ndSame_eq hy hx]
  cases h : sameNd x y
  · cases h2 : sameNd y x
    · rfl
    · rw [sameNd_symm h2] at h; cases h
  · exact (sameNd_symm h).symm
theorem sameCs_refl : ∀ {a : List Ch}, (∀ x ∈ a, x.o.wf ∧ x.n.wf) → sameCs a a = true
  | [], _ => rfl
  | x :: a, h => by
    have h1 := h x List.mem_cons_self
    rw [sameCs, sameCs_refl fun y hy => h y (List.mem_cons_of_mem _ hy), sameCh, ndSame_self h1.1, ndSame_self h1.2]; simp
theorem kindF_swap {u v : Bool} {x y : Nd} (hx : x.wf) (hy : y.wf) : kindF v u y x = backK (kindF u v x y) := by
  cases u <;> cases v
  · rfl
  · rfl
  · rfl
  · unfold kindF
    simp only [if_true]
    rw [ndSame_swap hy hx]
    have e1 : (y.k != x.k) = (x.k != y.k) := by rw [bne, bne, BEq.comm]
    have e2 : (y.d == x.d) = (x.d == y.d) := BEq.comm
    rw [e1, e2]
    repeat' split
    all_goals rfl
theorem backK_zero (k : Int) : (backK k != 0) = (k != 0) := by
  unfold backK
  split
  · rename_i h; rw [eq_of_beq h]; rfl
  · split
    · rename_i h; rw [eq_of_beq h]; rfl
    · rfl
theorem backK_back (k : Int) : backK (backK k) = k := by
  unfold backK
  by_cases h1 : k = 1
  · subst h1; rfl
  · by_cases h2 : k = 2
    · subst h2; rfl
    · simp [h1, h2]
theorem backC_back (l : List Ch) : (l.map backC).map backC = l := by
  rw [List.map_map]
  refine (List.map_congr_left fun x _ => ?_).trans (List.map_id' l)
  show backC (backC x) = x
  simp [backC, backK_back]
theorem chF_back {a b : List It} (ha : ∀ p, ((getR a p).getD nd0).wf) (hb : ∀ p, ((getR b p).getD nd0).wf) (p : List UInt8) : (chF a b p).map backC = chF b a p := by
  unfold chF
  rw [kindF_swap (u := (getR a p).isSome) (ha p) (hb p), backK_zero]
  split <;> rfl
theorem chsF_back {a b : List It} (ha : ∀ p, ((getR a p).getD nd0).wf) (hb : ∀ p, ((getR b p).getD nd0).wf) : ∀ l, (chsF a b l).map backC = chsF b a l
  | [] => rfl
  | p :: r => by rw [chsF, List.map_append, chF_back ha hb, chsF_back ha hb r, chsF]
theorem diffF_back {a b : List It} (ha : OkT a) (hb : OkT b) : (diffF a b).map backC = diffF b a := by
  unfold diffF
  rw [chsF_back ha.gett hb.gett, pathsF_swap]
theorem kindF_self {u : Bool} {x : Nd} (hx : x.wf) : kindF u u x x = 0 := by
  cases u
  · rfl
  · unfold kindF; rw [ndSame_self hx]; rfl
theorem diffF_self {a : List It} (ha : OkT a) : diffF a a = [] := by
  unfold diffF
  generalize pathsF a a = l
  induction l with
  | nil => rfl
  | cons p r ih => rw [chsF, ih]; simp [chF, kindF_self (ha.gett p)]
theorem chsF_len {a b : List It} : ∀ l : List (List UInt8), (chsF a b l).length ≤ l.length
  | [] => by simp [chsF]
  | p :: r => by
    have := chsF_len (a := a) (b := b) r
    have h2 : (chF a b p).length ≤ 1 := by unfold chF; split <;> simp
    rw [chsF, List.length_append, List.length_cons]; omega
theorem compact_le (l : List (List UInt8)) : (Lib.compact l).length ≤ l.length := by
  unfold Lib.compact Lib.compactUpTo
  rw [List.length_map]
  exact Nat.le_trans (List.length_filter_le ..) (by simp)
theorem diffF_len (a b : List It) : (diffF a b).length ≤ a.length + b.length := by
  unfold diffF pathsF
  refine Nat.le_trans (chsF_len _) (Nat.le_trans (compact_le _) ?_)
  rw [List.length_mergeSort, List.length_map, List.length_append]; exact Nat.le_refl _
theorem diffF_mem {a b : List It} {x : Ch} (h : x ∈ diffF a b) : x.k = kindF (getR a x.p).isSome (getR b x.p).isSome ((getR a x.p).getD nd0) ((getR b x.p).getD nd0) ∧ kindF (getR a x.p).isSome (getR b x.p).isSome ((getR a x.p).getD nd0) ((getR b x.p).getD nd0) ≠ 0 := by
  obtain ⟨h1, h2⟩ := chF_mem (chsF_mem h).2
  exact ⟨congrArg Ch.k h1, h2⟩
theorem diffF_nodes {a b : List It} {x : Ch} (h : x ∈ diffF a b) : x.o = (getR a x.p).getD nd0 ∧ x.n = (getR b x.p).getD nd0 := by
  obtain ⟨h1, _⟩ := chF_mem (chsF_mem h).2
  exact ⟨congrArg Ch.o h1, congrArg Ch.n h1⟩
theorem diffF_wf {a b : List It} (ha : OkT a) (hb : OkT b) {x : Ch} (h : x ∈ diffF a b) : x.o.wf ∧ x.n.wf := by
  obtain ⟨h1, h2⟩ := diffF_nodes h
  rw [h1, h2]; exact ⟨ha.gett _, hb.gett _⟩
theorem diffF_srt (a b : List It) : (diffF a b).Pairwise fun x y => bltL x.p y.p = true := chsF_srt (paths_strict _)
theorem chsF_has {a b : List It} {p : List UInt8} : ∀ {l : List (List UInt8)}, p ∈ l → kindF (getR a p).isSome (getR b p).isSome ((getR a p).getD nd0) ((getR b p).getD nd0) ≠ 0 → ∃ x ∈ chsF a b l, x.p = p
  | q :: r, h, hk => by
    rcases List.mem_cons.1 h with rfl | h
    · refine ⟨⟨p, kindF (getR a p).isSome (getR b p).isSome ((getR a p).getD nd0) ((getR b p).getD nd0), (getR a p).getD nd0, (getR b p).getD nd0⟩, List.mem_append_left _ ?_, rfl⟩
      unfold chF; rw [if_pos (by simpa using hk)]; simp
    · obtain ⟨x, hx, he⟩ := chsF_has h hk
      exact ⟨x, List.mem_append_right _ hx, he⟩
/-- A path is told just where the trees differ. -/
theorem told_iff {a b : List It} (ha : OkT a) (hb : OkT b) {p : List UInt8} (hp : (getR a p).isSome = true ∨ (getR b p).isSome = true) :
    ((diffF a b).any fun x => x.p == p) = (((getR a p).isSome != (getR b p).isSome) || !sameNd ((getR a p).getD nd0) ((getR b p).getD nd0)) := by
  have hk : kindF (getR a p).isSome (getR b p).isSome ((getR a p).getD nd0) ((getR b p).getD nd0) ≠ 0 ↔ (((getR a p).isSome != (getR b p).isSome) || !sameNd ((getR a p).getD nd0) ((getR b p).getD nd0)) = true := by
    have he := ndSame_eq (ha.gett p) (hb.gett p)
    generalize (getR a p).isSome = u at *
    generalize (getR b p).isSome = v at *
    generalize (getR a p).getD nd0 = x at *
    generalize (getR b p).getD nd0 = y at *
    unfold kindF
    rw [he]
    cases u <;> cases v
    · simp at hp
    · simp
    · simp
    · simp only [if_true]
      cases sameNd x y
      · simp only [Bool.false_eq_true, if_false]
        constructor
        · intro _; rfl
        · intro _; repeat' split
          all_goals decide
      · simp
  cases hr : (((getR a p).isSome != (getR b p).isSome) || !sameNd ((getR a p).getD nd0) ((getR b p).getD nd0))
  · cases ht : (diffF a b).any fun x => x.p == p
    · rfl
    · obtain ⟨x, hx, he⟩ := List.any_eq_true.1 ht
      have := eq_of_beq he
      subst this
      rw [hk.1 (diffF_mem hx).2] at hr; cases hr
  · have hpath : p ∈ pathsF a b := by
      rw [pathsF_iff]
      rcases hp with hp | hp
      · obtain ⟨n, hn⟩ := Option.isSome_iff_exists.1 hp
        obtain ⟨x, hx, he, _⟩ := getR_mem hn
        exact .inl ⟨x, hx, he⟩
      · obtain ⟨n, hn⟩ := Option.isSome_iff_exists.1 hp
        obtain ⟨x, hx, he, _⟩ := getR_mem hn
        exact .inr ⟨x, hx, he⟩
    obtain ⟨x, hx, he⟩ := chsF_has hpath (hk.2 hr)
    exact List.any_eq_true.2 ⟨x, hx, by simp [he]⟩
theorem getR_has {x : It} : ∀ {t : List It}, x ∈ t → (getR t x.p).isSome = true
  | y :: r, h => by
    rw [getR]
    split
    · rfl
    · rename_i hy
      rcases List.mem_cons.1 h with rfl | h
      · simp at hy
      · exact getR_has h
theorem drop_map_at {l : List Ch} {k : Nat} {x : Ch} (h : l[k]? = some x) : (l.take k).map backC ++ l.drop k = (l.take k).map backC ++ x :: l.drop (k + 1) := by
  obtain ⟨h1, rfl⟩ := List.getElem?_eq_some_iff.1 h
  rw [List.drop_eq_getElem_cons h1]
end Go.Dm
end

section
/-
  The document's diff: its paths, its kinds; it is the program's. No condition.
-/
namespace Go.Dm
open Go

/-- A text into its place, once. -/
def insS (s : List UInt8) : List (List UInt8) → List (List UInt8)
  | [] => [s]
  | x :: l => if bltL x s then x :: insS s l else if x == s then x :: l else s :: x :: l
theorem insS_mem {s q : List UInt8} : ∀ {l : List (List UInt8)}, q ∈ insS s l ↔ q = s ∨ q ∈ l
  | [] => by simp [insS]
  | x :: l => by
    rw [insS]
    split
    · rw [List.mem_cons, insS_mem, List.mem_cons]
      constructor
      · rintro (h | h | h)
        · exact .inr (.inl h)
        · exact .inl h
        · exact .inr (.inr h)
      · rintro (h | h | h)
        · exact .inr (.inl h)
        · exact .inl h
        · exact .inr (.inr h)
    · split
      · rename_i h
        have h := eq_of_beq h
        subst h
        simp
      · simp
theorem insS_srt {s : List UInt8} : ∀ {l : List (List UInt8)}, l.Pairwise (fun x y => bltL x y = true) → (insS s l).Pairwise fun x y => bltL x y = true
  | [], _ => by simp [insS]
  | x :: l, h => by
    obtain ⟨h1, h2⟩ := List.pairwise_cons.1 h
    rw [insS]
    split
    · rename_i hb
      refine List.pairwise_cons.2 ⟨fun y hy => ?_, insS_srt h2⟩
      rcases insS_mem.1 hy with rfl | hy
      · exact hb
      · exact h1 y hy
    · rename_i hb
      split
      · exact h
      · rename_i hn
        have hs : bltL s x = true := by
          cases hc : bltL s x
          · have := blt_tri (by simpa using hb) hc
            subst this; simp at hn
          · rfl
        refine List.pairwise_cons.2 ⟨fun y hy => ?_, h⟩
        rcases List.mem_cons.1 hy with rfl | hy
        · exact hs
        · exact blt_trans hs (h1 y hy)
theorem insS_at {s : List UInt8} : ∀ {l : List (List UInt8)} {k : Nat}, k ≤ l.length → (∀ j x, l[j]? = some x → j < k → bltL x s = true) → (∀ x, l[k]? = some x → bltL x s = false) →
    insS s l = match l[k]? with
      | some x => if x == s then l else l.take k ++ s :: l.drop k
      | none => l ++ [s]
  | [], k, hk, _, _ => by simp [insS]
  | x :: l, 0, _, _, h2 => by
    have := h2 x rfl
    simp only [insS, this, Bool.false_eq_true, if_false, List.getElem?_cons_zero, List.take_zero, List.nil_append, List.drop_zero]
  | x :: l, k + 1, hk, h1, h2 => by
    have h3 := h1 0 x rfl (by omega)
    have ih := insS_at (s := s) (l := l) (k := k) (by simpa using hk) (fun j y hy hj => h1 (j + 1) y (by simpa using hy) (by omega)) (fun y hy => h2 y (by simpa using hy))
    rw [insS, if_pos h3, ih, List.getElem?_cons_succ]
    cases l[k]? with
    | none => rfl
    | some y =>
      simp only [List.take_succ_cons, List.drop_succ_cons, List.cons_append]
      split <;> rfl
def insAll (o : List (List UInt8)) (t : List It) : List (List UInt8) := t.foldl (fun o x => insS x.p o) o
theorem insAll_srt : ∀ {t : List It} {o : List (List UInt8)}, o.Pairwise (fun x y => bltL x y = true) → (insAll o t).Pairwise fun x y => bltL x y = true
  | [], _, h => h
  | _ :: t, _, h => insAll_srt (t := t) (insS_srt h)
theorem insAll_mem {q : List UInt8} : ∀ {t : List It} {o : List (List UInt8)}, q ∈ insAll o t ↔ q ∈ o ∨ ∃ x ∈ t, x.p = q
  | [], o => by simp [insAll]
  | x :: t, o => by
    show q ∈ insAll (insS x.p o) t ↔ _
    rw [insAll_mem, insS_mem]
    constructor
    · rintro ((h | h) | ⟨y, hy, h⟩)
      · exact .inr ⟨x, List.mem_cons_self, h.symm⟩
      · exact .inl h
      · exact .inr ⟨y, List.mem_cons_of_mem _ hy, h⟩
    · rintro (h | ⟨y, hy, h⟩)
      · exact .inl (.inr h)
      · rcases List.mem_cons.1 hy with rfl | hy
        · exact .inl (.inl h.symm)
        · exact .inr ⟨y, hy, h⟩
theorem insS_len (s : List UInt8) : ∀ l : List (List UInt8), (insS s l).length ≤ l.length + 1
  | [] => by simp [insS]
  | x :: l => by
    have := insS_len s l
    rw [insS]; repeat' split
    all_goals simp only [List.length_cons]; omega
theorem insAll_len : ∀ (t : List It) (o : List (List UInt8)), (insAll o t).length ≤ o.length + t.length
  | [], o => by simp [insAll]
  | x :: t, o => by
    have h1 := insAll_len t (insS x.p o)
    have h2 := insS_len x.p o
    show (insAll (insS x.p o) t).length ≤ _
    rw [List.length_cons]; omega
def pathsR (a b : List It) : List (List UInt8) := insAll (insAll [] a) b
theorem pathsR_eq (a b : List It) : pathsR a b = pathsF a b :=
  strict_unique (lt := bltL) blt_irrefl (fun h => blt_asymm h) (insAll_srt (insAll_srt (by simp))) (paths_strict _) fun p => by
    show p ∈ pathsR a b ↔ p ∈ pathsF a b
    rw [pathsF_iff]; unfold pathsR; rw [insAll_mem, insAll_mem]; simp

def kindR (x y : Nd) (p q : Bool) : Int := if !p then 1 else if !q then 2 else if x.k != y.k then 4 else if !(x.d == y.d) then 3 else 5
def refCh (a b : List It) (p : List UInt8) : List Ch :=
  if (getR a p).isSome && (getR b p).isSome && sameNd ((getR a p).getD nd0) ((getR b p).getD nd0) then [] else [⟨p, kindR ((getR a p).getD nd0) ((getR b p).getD nd0) (getR a p).isSome (getR b p).isSome, (getR a p).getD nd0, (getR b p).getD nd0⟩]
def refChs (a b : List It) : List (List UInt8) → List Ch
  | [] => []
  | p :: r => refCh a b p ++ refChs a b r
def refDiff (a b : List It) : List Ch := refChs a b (pathsR a b)
theorem refCh_eq {a b : List It} (ha : OkT a) (hb : OkT b) {p : List UInt8} (hp : (getR a p).isSome = true ∨ (getR b p).isSome = true) : refCh a b p = chF a b p := by
  have he := ndSame_eq (ha.gett p) (hb.gett p)
  unfold refCh chF kindF kindR
  rw [he]
  generalize (getR a p).isSome = u at *
  generalize (getR b p).isSome = v at *
  generalize (getR a p).getD nd0 = x at *
  generalize (getR b p).getD nd0 = y at *
  cases u <;> cases v
  · simp at hp
  · rfl
  · rfl
  · simp only [Bool.not_true, Bool.true_and, if_true, Bool.false_eq_true, if_false]
    cases sameNd x y
    · simp only [Bool.false_eq_true, if_false]
      repeat' split
      all_goals first | rfl | (rename_i h; exact absurd h (by decide)) | (rename_i h _; exact absurd h (by decide)) | (rename_i h _ _; exact absurd h (by decide))
    · rfl
theorem refChs_eq {a b : List It} (ha : OkT a) (hb : OkT b) : ∀ {l : List (List UInt8)}, (∀ p ∈ l, (getR a p).isSome = true ∨ (getR b p).isSome = true) → refChs a b l = chsF a b l
  | [], _ => rfl
  | p :: r, h => by rw [refChs, chsF, refCh_eq ha hb (h p List.mem_cons_self), refChs_eq ha hb fun q hq => h q (List.mem_cons_of_mem _ hq)]
theorem pathsF_there {a b : List It} {p : List UInt8} (h : p ∈ pathsF a b) : (getR a p).isSome = true ∨ (getR b p).isSome = true := by
  rcases pathsF_iff.1 h with ⟨x, hx, rfl⟩ | ⟨x, hx, rfl⟩
  · exact .inl (getR_has hx)
  · exact .inr (getR_has hx)
theorem refDiff_eq {a b : List It} (ha : OkT a) (hb : OkT b) : refDiff a b = diffF a b := by
  unfold refDiff diffF
  rw [pathsR_eq, refChs_eq ha hb fun p hp => pathsF_there hp]
def sameCsR : List Ch → List Ch → Bool
  | [], [] => true
  | x :: a, y :: b => (x.p == y.p && x.k == y.k && sameNd x.o y.o && sameNd x.n y.n) && sameCsR a b
  | _, _ => false
theorem sameCsR_refl : ∀ a : List Ch, sameCsR a a = true
  | [] => rfl
  | x :: a => by rw [sameCsR, sameCsR_refl a]; simp [sameNd_refl]
theorem sameCsR_drop {a b : List Ch} {k : Nat} {x y : Ch} (ha : a[k]? = some x) (hb : b[k]? = some y) : sameCsR (a.drop k) (b.drop k) = ((x.p == y.p && x.k == y.k && sameNd x.o y.o && sameNd x.n y.n) && sameCsR (a.drop (k + 1)) (b.drop (k + 1))) := by
  obtain ⟨h1, rfl⟩ := List.getElem?_eq_some_iff.1 ha
  obtain ⟨h2, rfl⟩ := List.getElem?_eq_some_iff.1 hb
  rw [List.drop_eq_getElem_cons h1, List.drop_eq_getElem_cons h2, sameCsR]
theorem sameCsR_len : ∀ {a b : List Ch}, a.length ≠ b.length → sameCsR a b = false
  | [], [], h => absurd rfl h
  | [], _ :: _, _ => rfl
  | _ :: _, [], _ => rfl
  | x :: a, y :: b, h => by rw [sameCsR, sameCsR_len (by simpa using h), Bool.and_false]
end Go.Dm
end

section
/-
  Which nodes may be, by their time's bits; which changes may be; a diff's changes may. No condition beyond times that are words of 64 bits.
-/
namespace Go.Dm
open Go

theorem byteF_nat (x k : Nat) : (byteF x k).toNat = x / 2 ^ k % 256 := by
  have h : IntKind.u8.wrap ((x : Int).fdiv (2 ^ k)) = ((x / 2 ^ k % 256 : Nat) : Int) := by
    have h2 : (x : Int).fdiv (2 ^ k) = ((x / 2 ^ k : Nat) : Int) := by
      rw [Int.fdiv_eq_ediv_of_nonneg _ (by exact Int.le_of_lt (Int.pow_pos (by decide)))]
      simp
    rw [h2]
    simp only [IntKind.wrap, IntKind.bits, IntKind.signed, Bool.false_and]
    split <;> rename_i h
    · simp at h
    · simp
  unfold byteF
  rw [h, Int.toNat_natCast]
  show _ % 256 = _
  exact Nat.mod_eq_of_lt (Nat.mod_lt _ (by decide))
theorem bytesF_inj {x y : Nat} (hx : x < 18446744073709551616) (hy : y < 18446744073709551616) (h : bytesF x = bytesF y) : x = y := by
  simp only [bytesF, List.cons.injEq, and_true] at h
  obtain ⟨h7, h6, h5, h4, h3, h2, h1, h0⟩ := h
  have e : ∀ k, byteF x k = byteF y k → x / 2 ^ k % 256 = y / 2 ^ k % 256 := fun k h => by rw [← byteF_nat, ← byteF_nat, h]
  have e7 := e _ h7; have e6 := e _ h6; have e5 := e _ h5; have e4 := e _ h4; have e3 := e _ h3; have e2 := e _ h2; have e1 := e _ h1; have e0 := e _ h0
  simp only [show (2 : Nat) ^ 56 = 72057594037927936 from rfl, show (2 : Nat) ^ 48 = 281474976710656 from rfl, show (2 : Nat) ^ 40 = 1099511627776 from rfl, show (2 : Nat) ^ 32 = 4294967296 from rfl, show (2 : Nat) ^ 24 = 16777216 from rfl, show (2 : Nat) ^ 16 = 65536 from rfl, show (2 : Nat) ^ 8 = 256 from rfl, show (2 : Nat) ^ 0 = 1 from rfl, Nat.div_one] at e7 e6 e5 e4 e3 e2 e1 e0
  omega
theorem plainR_eq {x : Nat} (hx : x < 18446744073709551616) : plainR x = (bitsF x == x) := by
  unfold plainR
  rw [Bool.eq_iff_iff, beq_iff_eq, beq_iff_eq]
  exact ⟨fun h => (bytesF_inj hx (bitsF_lt hx) h).symm, fun h => by rw [h]⟩

/-- Which data a node may have; which nodes may be, as the program asks it. -/
def dataP (n : Nd) : Bool := if n.k == 1 then decide ((n.d.length : Int) ≤ 2000) else if n.k == 2 then (n.d.length : Int) == 0 else if n.k == 3 then (decide ((1 : Int) ≤ n.d.length) && decide ((n.d.length : Int) ≤ 120)) && n.d.all fun b => !(b == 0) else false
theorem zero_nat (b : UInt8) : ((b.toNat : Int) == 0) = (b == 0) := by
  rw [Bool.eq_iff_iff]; simp only [beq_iff_eq]
  exact ⟨fun h => UInt8.toNat_inj.1 (by have : (0 : UInt8).toNat = 0 := rfl; omega), fun h => by rw [h]; rfl⟩
theorem targetR_eq (d : List UInt8) : targetR d = ((decide ((1 : Int) ≤ d.length) && decide ((d.length : Int) ≤ 120)) && d.all fun b => !(b == 0)) := by
  unfold targetR
  simp only [zero_nat]
  rw [Bool.and_comm]
def nodeRightP (n : Nd) : Bool := dataP n && decide (0 ≤ n.m) && decide (n.m ≤ 4095) && (bitsF n.t == n.t)
theorem nodeRightP_eq {n : Nd} (h : n.wf) : nodeRightP n = rightNodeR n := by
  unfold nodeRightP rightNodeR dataP
  rw [plainR_eq h]
  simp only [targetR_eq]
  have e1 : decide (0 ≤ n.m) = !decide (n.m < 0) := by rw [Bool.eq_iff_iff]; simp
  have e2 : decide (n.m ≤ 4095) = !decide (4095 < n.m) := by rw [Bool.eq_iff_iff]; simp
  rw [e1, e2]
  generalize (if n.k == 1 then decide ((n.d.length : Int) ≤ 2000) else if n.k == 2 then (n.d.length : Int) == 0 else if n.k == 3 then (decide ((1 : Int) ≤ n.d.length) && decide ((n.d.length : Int) ≤ 120)) && n.d.all (fun b => !(b == 0)) else false) = q
  cases q <;> cases decide (n.m < 0) <;> cases decide (4095 < n.m) <;> cases (bitsF n.t == n.t) <;> rfl

def zeroN (n : Nd) : Bool := n.k == 0 && n.m == 0 && n.t == 0 && n.d.length == 0
def mayC (c : Ch) : Bool := !(c.p == []) && isPathR c.p && (zeroN c.o || !(c.k == 1)) && (zeroN c.n || !(c.k == 2)) && (c.k == 1 || rightNodeR c.o) && (c.k == 2 || rightNodeR c.n) && !(c.k == 0) && (kindF (!(c.k == 1)) (!(c.k == 2)) c.o c.n == c.k)
def aheadOf : Option (List UInt8) → List UInt8 → Bool
  | none, _ => true
  | some q, p => bltL q p
def rightFrom : Option (List UInt8) → List Ch → Bool
  | _, [] => true
  | q, c :: l => mayC c && aheadOf q c.p && rightFrom (some c.p) l
theorem rightFrom_of {l : List Ch} (hm : ∀ c ∈ l, mayC c = true) : ∀ {q : Option (List UInt8)}, l.Pairwise (fun x y => bltL x.p y.p = true) → (∀ p, q = some p → ∀ c ∈ l, bltL p c.p = true) → rightFrom q l = true := by
  induction l with
  | nil => intros; rfl
  | cons c l ih =>
    intro q hs hq
    obtain ⟨h1, h2⟩ := List.pairwise_cons.1 hs
    rw [rightFrom, hm c List.mem_cons_self, ih (fun d hd => hm d (List.mem_cons_of_mem _ hd)) h2 (fun p hp d hd => by cases hp; exact h1 d hd)]
    cases q with
    | none => rfl
    | some p => simp [aheadOf, hq p rfl c List.mem_cons_self]
theorem OkT.getok {t : List It} (h : OkT t) {p : List UInt8} (hs : (getR t p).isSome = true) : p ≠ [] ∧ isPathR p = true ∧ rightNodeR ((getR t p).getD nd0) = true := by
  cases hg : getR t p with
  | none => rw [hg] at hs; cases hs
  | some n =>
    obtain ⟨x, hx, rfl, rfl⟩ := getR_mem hg
    have := h.its x hx
    exact ⟨this.1, this.2.1, this.2.2.1⟩
theorem diffF_may {a b : List It} (ha : OkT a) (hb : OkT b) : ∀ c ∈ diffF a b, mayC c = true := by
  intro c hc
  obtain ⟨h1, h2⟩ := diffF_mem hc
  obtain ⟨h3, h4⟩ := diffF_nodes hc
  have ga := ha.getok (p := c.p)
  have gb := hb.getok (p := c.p)
  have na : (getR a c.p).isSome = false → (getR a c.p).getD nd0 = nd0 := fun h => by cases hg : getR a c.p with
    | none => rfl
    | some _ => rw [hg] at h; cases h
  have nb : (getR b c.p).isSome = false → (getR b c.p).getD nd0 = nd0 := fun h => by cases hg : getR b c.p with
    | none => rfl
    | some _ => rw [hg] at h; cases h
  rw [← h3] at h1 h2 ga na
  rw [← h4] at h1 h2 gb nb
  rw [← h1] at h2
  generalize (getR a c.p).isSome = u at *
  generalize (getR b c.p).isSome = v at *
  have key : ∀ (u v : Bool), c.k = kindF u v c.o c.n → u = (!(c.k == 1)) ∧ v = (!(c.k == 2)) := by
    intro u v h
    have hk : kindF u v c.o c.n ≠ 0 := by rw [← h]; exact h2
    rcases u with _ | _ <;> rcases v with _ | _
    · exact absurd rfl hk
    · rw [h]; exact ⟨rfl, rfl⟩
    · rw [h]; exact ⟨rfl, rfl⟩
    · rw [h]
      unfold kindF at hk ⊢
      simp only [if_true] at hk ⊢
      split at hk
      · exact absurd rfl hk
      · rename_i hq
        rw [if_neg hq]
        repeat' split
        all_goals exact ⟨rfl, rfl⟩
  obtain ⟨k1, k2⟩ := key u v h1
  have k0 : (c.k == 0) = false := by simpa using h2
  have kk : (kindF u v c.o c.n == c.k) = true := by rw [← h1]; simp
  have hp : c.p ≠ [] ∧ isPathR c.p = true := by
    cases u
    · cases v
      · exact absurd h1 (by intro h; exact h2 (by rw [h]; rfl))
      · exact ⟨(gb rfl).1, (gb rfl).2.1⟩
    · exact ⟨(ga rfl).1, (ga rfl).2.1⟩
  unfold mayC
  rw [← k1, ← k2, k0, kk, hp.2]
  have e1 : (c.k == 1) = !u := by rw [k1]; simp
  have e2 : (c.k == 2) = !v := by rw [k2]; simp
  rw [e1, e2]
  have e3 : (c.p == []) = false := by simpa using hp.1
  rw [e3]
  have z0 : zeroN nd0 = true := by decide
  cases u <;> cases v
  · exact absurd (h1.trans rfl) h2
  · rw [na rfl, z0, (gb rfl).2.2]; simp
  · rw [nb rfl, z0, (ga rfl).2.2]; simp
  · rw [(ga rfl).2.2, (gb rfl).2.2]; simp
theorem diffF_right {a b : List It} (ha : OkT a) (hb : OkT b) : rightFrom none (diffF a b) = true :=
  rightFrom_of (diffF_may ha hb) (diffF_srt a b) (fun p h => by cases h)
end Go.Dm
end

section
/-
  A path's directory and its last name; a tree's names; what stands ahead in a tree. No condition.
-/
namespace Go.Dm
open Go

theorem lastIdx_eq (a : List UInt8) : ∀ k, k ≤ a.length → Lib.lastIdx ⟨a.toArray⟩ 47 k = match lastSlash a k with
    | some j => (j : Int)
    | none => -1
  | 0, _ => rfl
  | k + 1, hk => by
    have hlt : k < a.length := by omega
    have e1 : (ByteArray.mk a.toArray).data[k]! = a[k] := by
      show a.toArray[k]! = _
      simp [getElem!_pos, hlt]
    have e2 : a.getD k 0 = a[k] := by simp [List.getD_eq_getElem?_getD, hlt]
    rw [Lib.lastIdx, lastSlash, e1, e2]
    by_cases h : ((a[k].toNat : Int) = 47)
    · rw [if_pos h, if_pos (by simpa using h)]
    · rw [if_neg h, if_neg (by simpa using h), lastIdx_eq a k (by omega)]
theorem lastIndexByte_eq (a : List UInt8) : Lib.lastIndexByte ⟨a.toArray⟩ 47 = match lastSlash a a.length with
    | some j => (j : Int)
    | none => -1 := by
  have : (ByteArray.mk a.toArray).size = a.length := by simp [ByteArray.size]
  unfold Lib.lastIndexByte
  rw [this]; exact lastIdx_eq a _ (Nat.le_refl _)
theorem lastSlash_lt {p : List UInt8} {j : Nat} (h : lastSlash p p.length = some j) : j < p.length := by
  rcases lastSlash_spec p p.length (Nat.le_refl _) with ⟨h1, _⟩ | ⟨i, hi, h1, _⟩
  · rw [h1] at h; cases h
  · rw [h1] at h; cases h; exact hi
def baseF (p : List UInt8) : List UInt8 := match lastSlash p p.length with
  | some j => p.drop (j + 1)
  | none => p
theorem below_prefix {p q : List UInt8} (hp : p ≠ []) : (p ++ [47]).isPrefixOf q = belowR p q := by
  rw [Bool.eq_iff_iff, List.isPrefixOf_iff_prefix, below_iff hp]
  constructor
  · rintro ⟨r, hr⟩; exact ⟨r, by rw [← hr]; simp⟩
  · rintro ⟨r, hr⟩; exact ⟨r, by rw [hr]; simp⟩
/-- A path out of its directory and its last name. -/
def joinF (d n : List UInt8) : List UInt8 := if d == [] then n else d ++ 47 :: n
theorem dir_base (p : List UInt8) (hd : dirOfR p = [] → 47 ∉ p) : joinF (dirOfR p) (baseF p) = p := by
  unfold joinF baseF
  rcases lastSlash_spec p p.length (Nat.le_refl _) with ⟨h1, h2⟩ | ⟨i, h, h1, h2, h3, h4⟩
  · have : dirOfR p = [] := by unfold dirOfR; rw [h1]
    rw [this, h1]; rfl
  · have hdi : dirOfR p = p.take i := by unfold dirOfR; rw [h1]
    have hi : dirOfR p ≠ [] := by
      intro h0
      exact hd h0 (List.mem_iff_getElem.2 ⟨i, h, h3⟩)
    rw [if_neg (by simpa using hi), hdi, h1]
    have := List.take_append_drop i p
    rw [List.drop_eq_getElem_cons h, h3] at this
    exact this
def dirNames (t : List It) (p : List UInt8) : List (List UInt8) := (t.filter fun x => dirOfR x.p == p).map fun x => baseF x.p
def namesF (t : List It) (p : List UInt8) : List (List UInt8) := (dirNames t p).mergeSort fun x y => decide (x ≤ y)

theorem getR_self {y : It} : ∀ {t : List It}, Srt t → y ∈ t → getR t y.p = some y.n
  | x :: t, hs, hy => by
    obtain ⟨h1, h2⟩ := List.pairwise_cons.1 hs
    rw [getR]
    rcases List.mem_cons.1 hy with rfl | hy
    · rw [if_pos (by simp)]
    · rw [if_neg (by rw [blt_ne (h1 y hy)]; decide)]
      exact getR_self h2 hy
theorem blt_app (d : List UInt8) (b : UInt8) (n : List UInt8) : bltL d (d ++ b :: n) = true := by
  induction d with
  | nil => rfl
  | cons x d ih => rw [List.cons_append, blt_cons, ih]; simp
theorem isDir_take {t : List It} (h : OkT t) {k : Nat} {x : It} (hx : t[k]? = some x) : isDirR (t.take k) (dirOfR x.p) = true := by
  by_cases hd : dirOfR x.p = []
  · rw [hd]; rfl
  obtain ⟨m, h1, h2⟩ := isDir_some hd (h.par x (List.mem_of_getElem? hx))
  obtain ⟨y, hy, hyp, hyn⟩ := getR_mem h1
  obtain ⟨n, hn, _⟩ := dir_cases hd
  have hlt : bltL y.p x.p = true := by
    have := blt_app (dirOfR x.p) 47 n
    rw [← hn] at this
    rw [hyp]; exact this
  obtain ⟨j, hj, hje⟩ := List.mem_iff_getElem.1 hy
  obtain ⟨hk, hxe⟩ := List.getElem?_eq_some_iff.1 hx
  have hjk : j < k := by
    rcases Nat.lt_trichotomy j k with h' | h' | h'
    · exact h'
    · subst h'
      rw [← hje, ← hxe, blt_irrefl] at hlt; cases hlt
    · have := List.pairwise_iff_getElem.1 h.srt k j hk hj h'
      rw [hje, hxe, blt_asymm hlt] at this; cases this
  have hyt : y ∈ t.take k := List.mem_iff_getElem.2 ⟨j, by simp; omega, by rw [List.getElem_take]; exact hje⟩
  have hst : Srt (t.take k) := h.srt.sublist (List.take_sublist k t)
  have := getR_self hst hyt
  rw [hyp] at this
  exact isDir_mk this (by rw [hyn]; exact h2)
end Go.Dm
end

section
/-
  The names of a tree's directories are all its paths, each once; what a removal leaves. No condition.
-/
namespace Go.Dm
open Go

/-- Texts in order, none twice, are in strict order. -/
theorem strict_of {l : List (List UInt8)} (hs : l.Pairwise fun x y => leS x y = true) (hn : l.Nodup) : l.Pairwise fun x y => bltL x y = true :=
  (hs.and hn).imp fun {x y} ⟨h1, h2⟩ => by
    cases hb : bltL x y
    · rw [leS_blt] at h1
      exact absurd (blt_tri hb (by simpa using h1)) h2
    · rfl
theorem isPath_noslash {p : List UInt8} (hp : isPathR p = true) (h0 : p ≠ []) (hd : dirOfR p = []) : 47 ∉ p := by
  rcases dir_spec p with ⟨_, h⟩ | ⟨n, h, _⟩
  · exact h
  · rw [hd, List.nil_append] at h
    unfold isPathR at hp
    have : (p == []) = false := by simpa using h0
    rw [this, Bool.false_or, Bool.and_eq_true] at hp
    rw [h] at hp
    have h1 := hp.1
    unfold cutR at h1
    rw [show (47 :: n : List UInt8) = [] ++ 47 :: n from rfl, cutL_app, List.all_append] at h1
    simp [cutL, rightNameR] at h1
theorem OkT.joined {t : List It} (h : OkT t) {x : It} (hx : x ∈ t) : joinF (dirOfR x.p) (baseF x.p) = x.p :=
  dir_base _ fun hd => isPath_noslash (h.its x hx).2.1 (h.its x hx).1 hd
theorem dirNames_mem {t : List It} (h : OkT t) {d b : List UInt8} (hb : b ∈ dirNames t d) : ∃ x ∈ t, dirOfR x.p = d ∧ baseF x.p = b ∧ joinF d b = x.p := by
  unfold dirNames at hb
  obtain ⟨x, hx, rfl⟩ := List.mem_map.1 hb
  obtain ⟨hx, hd⟩ := List.mem_filter.1 hx
  have hd := eq_of_beq hd
  exact ⟨x, hx, hd, rfl, by rw [← hd]; exact h.joined hx⟩
theorem dirNames_nodup {t : List It} (h : OkT t) (d : List UInt8) : (dirNames t d).Nodup := by
  unfold dirNames
  have key : ∀ s : List It, (∀ x ∈ s, x ∈ t) → Srt s → ((s.filter fun x => dirOfR x.p == d).map fun x => baseF x.p).Nodup := by
    intro s
    induction s with
    | nil => intros; simp
    | cons x s ih =>
      intro hm hs
      obtain ⟨h1, h2⟩ := List.pairwise_cons.1 hs
      have ih := ih (fun y hy => hm y (List.mem_cons_of_mem _ hy)) h2
      rw [List.filter_cons]
      split
      · rename_i hx
        rw [List.map_cons, List.nodup_cons]
        refine ⟨fun hb => ?_, ih⟩
        obtain ⟨y, hy, hyb⟩ := List.mem_map.1 hb
        obtain ⟨hy, hyd⟩ := List.mem_filter.1 hy
        have e1 := h.joined (hm x List.mem_cons_self)
        have e2 := h.joined (hm y (List.mem_cons_of_mem _ hy))
        rw [eq_of_beq hx] at e1
        rw [eq_of_beq hyd, hyb, e1] at e2
        have := h1 y hy
        rw [e2, blt_irrefl] at this; cases this
      · exact ih
  exact key t (fun _ h => h) h.srt
theorem namesF_strict {t : List It} (h : OkT t) (d : List UInt8) : (namesF t d).Pairwise fun x y => bltL x y = true :=
  strict_of (sorted_paths _) ((List.mergeSort_perm _ _).nodup_iff.2 (dirNames_nodup h d))
theorem namesF_mem {t : List It} (h : OkT t) {d b : List UInt8} (hb : b ∈ namesF t d) : (getR t (joinF d b)).isSome = true := by
  have hb : b ∈ dirNames t d := List.mem_mergeSort.1 hb
  obtain ⟨x, hx, _, _, hj⟩ := dirNames_mem h hb
  rw [hj]; exact getR_has hx
theorem namesF_len (t : List It) (d : List UInt8) : (namesF t d).length = (t.filter fun x => dirOfR x.p == d).length := by
  unfold namesF dirNames
  rw [List.length_mergeSort, List.length_map]
theorem namesF_file {t : List It} (h : OkT t) {x : It} (hx : x ∈ t) (hk : x.n.k ≠ 2) : namesF t x.p = [] := by
  apply List.eq_nil_of_length_eq_zero
  rw [namesF_len, List.length_eq_zero_iff, List.filter_eq_nil_iff]
  intro y hy hd
  have hd := eq_of_beq hd
  have hp := h.par y hy
  rw [hd] at hp
  obtain ⟨m, h1, h2⟩ := isDir_some (h.ne x hx) hp
  rw [getR_self h.srt hx] at h1
  cases h1
  exact hk h2
/-- All directories of a tree, the root first. -/
def dirsF (t : List It) : List (List UInt8) := [] :: (t.filter fun x => x.n.k == 2).map It.p
theorem dirsF_nodup {t : List It} (h : OkT t) : (dirsF t).Nodup := by
  unfold dirsF
  rw [List.nodup_cons]
  constructor
  · intro hm
    obtain ⟨x, hx, he⟩ := List.mem_map.1 hm
    exact h.ne x (List.mem_filter.1 hx).1 he
  · have : Srt (t.filter fun x => x.n.k == 2) := h.srt.filter _
    rw [List.nodup_iff_pairwise_ne, List.pairwise_map]
    exact this.imp fun {x y} hb e => by rw [e, blt_irrefl] at hb; cases hb
theorem dirsF_has {t : List It} (h : OkT t) {x : It} (hx : x ∈ t) : dirOfR x.p ∈ dirsF t := by
  unfold dirsF
  by_cases hd : dirOfR x.p = []
  · rw [hd]; exact List.mem_cons_self
  · obtain ⟨m, h1, h2⟩ := isDir_some hd (h.par x hx)
    obtain ⟨y, hy, hyp, hyn⟩ := getR_mem h1
    exact List.mem_cons_of_mem _ (List.mem_map.2 ⟨y, List.mem_filter.2 ⟨hy, by rw [hyn, h2]; rfl⟩, hyp⟩)
theorem one_of {ds : List (List UInt8)} {d : List UInt8} (hn : ds.Nodup) (hd : d ∈ ds) : (ds.map fun e => if d == e then 1 else 0).sum = 1 := by
  induction ds with
  | nil => cases hd
  | cons e ds ih =>
    obtain ⟨h1, h2⟩ := List.nodup_cons.1 hn
    rw [List.map_cons, List.sum_cons]
    by_cases he : d = e
    · subst he
      have h0 : (ds.map fun e => if d == e then 1 else 0).sum = 0 := by
        clear ih hn hd h2
        induction ds with
        | nil => rfl
        | cons x ds ih2 =>
          rw [List.map_cons, List.sum_cons, ih2 fun h => h1 (List.mem_cons_of_mem _ h)]
          have : (d == x) = false := by
            cases hb : d == x
            · rfl
            · exact absurd (by rw [eq_of_beq hb]; exact List.mem_cons_self) h1
          rw [this]; rfl
      rw [h0]; simp
    · have hb : (d == e) = false := by simpa using he
      rw [hb, ih h2 (by rcases List.mem_cons.1 hd with h | h; exact absurd h he; exact h)]; rfl
theorem sum_names {ds : List (List UInt8)} (hn : ds.Nodup) : ∀ {s : List It}, (∀ x ∈ s, dirOfR x.p ∈ ds) → (ds.map fun d => (s.filter fun x => dirOfR x.p == d).length).sum = s.length
  | [], _ => by
    have : ∀ l : List (List UInt8), (l.map fun _ => 0).sum = 0 := fun l => by induction l with
      | nil => rfl
      | cons x l ih => rw [List.map_cons, List.sum_cons, ih]
    simpa using this ds
  | x :: s, h => by
    have ih := sum_names hn (s := s) fun y hy => h y (List.mem_cons_of_mem _ hy)
    have e : ∀ d, ((x :: s).filter fun x => dirOfR x.p == d).length = (if dirOfR x.p == d then 1 else 0) + (s.filter fun x => dirOfR x.p == d).length := fun d => by
      rw [List.filter_cons]; split <;> simp; omega
    have add : ∀ (l : List (List UInt8)) (f g : List UInt8 → Nat), (l.map fun d => f d + g d).sum = (l.map f).sum + (l.map g).sum := fun l f g => by
      induction l with
      | nil => rfl
      | cons a l ih => rw [List.map_cons, List.map_cons, List.map_cons, List.sum_cons, List.sum_cons, List.sum_cons, ih]; omega
    rw [List.map_congr_left fun d _ => e d, add, ih, one_of hn (h x List.mem_cons_self), List.length_cons]; omega
theorem names_all {t : List It} (h : OkT t) : ((dirsF t).map fun d => (namesF t d).length).sum = t.length := by
  rw [List.map_congr_left fun d _ => namesF_len t d]
  exact sum_names (dirsF_nodup h) fun x hx => dirsF_has h hx

/-! What a filter leaves, by its place. -/
theorem filter_place {α : Type} {g : α → Bool} {t : List α} {i : Nat} {x : α} (hx : t[i]? = some x) (hg : g x = true) : (t.filter g)[((t.take i).filter g).length]? = some x := by
  obtain ⟨h1, rfl⟩ := List.getElem?_eq_some_iff.1 hx
  have e : t = t.take i ++ t[i] :: t.drop (i + 1) := by rw [← List.drop_eq_getElem_cons h1, List.take_append_drop]
  conv => lhs; rw [e]
  rw [List.filter_append, List.filter_cons, if_pos hg, List.getElem?_append_right (Nat.le_of_eq ?_)]
  · simp
  · rw [List.take_append_of_le_length (by simp; omega), List.take_take, Nat.min_self]
theorem filter_next {α : Type} {g : α → Bool} {t : List α} {i : Nat} {x : α} (hx : t[i]? = some x) : (t.take (i + 1)).filter g = (t.take i).filter g ++ (if g x then [x] else []) := by
  rw [List.take_add_one, hx, List.filter_append]
  show _ ++ [x].filter g = _
  rw [List.filter_cons]; split <;> rfl
end Go.Dm
end
