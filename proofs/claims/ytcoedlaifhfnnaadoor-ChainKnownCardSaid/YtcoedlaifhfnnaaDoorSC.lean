/-
  Diffs, names, paths: plain laws. No condition.
-/
import Derived.Test.YtcoedlaifhfnnaaDoorBB
import Derived.Test.YtcoedlaifhfnnaaDoorSB
set_option linter.unusedSimpArgs false
set_option linter.unusedVariables false

section
/-
  The paths that a diff looks at: in strict order, each once. No condition.
-/
namespace Go.Dm
open Go

theorem blt_lt : ∀ a b : List UInt8, bltL a b = decide (a < b)
  | a, [] => by rw [blt_nil]; simp
  | [], y :: b => by show true = _; simp
  | x :: a, y :: b => by
    rw [blt_cons, blt_lt a b]
    by_cases h1 : x < y
    · simp [h1, List.cons_lt_cons_iff]
    · by_cases h2 : x = y
      · subst h2; simp [List.cons_lt_cons_iff]
      · simp [h1, h2, List.cons_lt_cons_iff]
theorem le_blt {a b : List UInt8} : a ≤ b ↔ bltL b a = false := by rw [blt_lt, decide_eq_false_iff_not, List.not_lt]
def leS (x y : List UInt8) : Bool := decide (x ≤ y)
theorem leS_blt {a b : List UInt8} : leS a b = !bltL b a := by
  unfold leS
  cases h : bltL b a
  · simpa using le_blt.2 h
  · have : ¬ a ≤ b := fun h2 => by rw [le_blt.1 h2] at h; cases h
    simpa using this
theorem leS_trans {a b c : List UInt8} (h1 : leS a b = true) (h2 : leS b c = true) : leS a c = true := by
  rw [leS_blt] at *
  cases hc : bltL c a
  · rfl
  · have h1' : bltL b a = false := by simpa using h1
    have h2' : bltL c b = false := by simpa using h2
    cases hb : bltL a b
    · have := blt_tri hb h1'; subst this; rw [hc] at h2'; cases h2'
    · have := blt_trans hc hb; rw [this] at h2'; cases h2'
theorem leS_total {a b : List UInt8} : (leS a b || leS b a) = true := by
  rw [leS_blt, leS_blt]
  cases h : bltL b a
  · rfl
  · rw [blt_asymm h]; rfl
theorem sorted_paths (l : List (List UInt8)) : (l.mergeSort fun x y => decide (x ≤ y)).Pairwise fun x y => leS x y = true :=
  List.pairwise_mergeSort (le := leS) (fun a b c => leS_trans) (fun a b => leS_total) l

theorem compact_strict {l : List (List UInt8)} (hl : l.Pairwise fun x y => leS x y = true) : ∀ m, m ≤ l.length → (Lib.compactUpTo l.toArray m).Pairwise (fun x y => bltL x y = true) ∧ ∀ x ∈ Lib.compactUpTo l.toArray m, ∃ (j : Nat) (_ : j < m) (h : j < l.length), x = l[j]
  | 0, _ => by simp [Lib.compactUpTo]
  | m + 1, hm => by
    obtain ⟨h1, h2⟩ := compact_strict hl m (by omega)
    rw [Lib.compactUpTo_succ]
    have hg : l.toArray[m]! = l[m] := by simp [getElem!_pos, show m < l.length by omega]
    split
    · rename_i hk
      rw [hg]
      refine ⟨List.pairwise_append.2 ⟨h1, by simp, fun x hx y hy => ?_⟩, fun x hx => ?_⟩
      · obtain ⟨j, hj, hjl, rfl⟩ := h2 x hx
        have : y = l[m] := by simpa using hy
        subst this
        have hm1 : m - 1 < l.length := by omega
        have hg1 : l.toArray[m - 1]! = l[m - 1] := by simp [getElem!_pos, hm1]
        unfold Lib.keeps at hk
        rw [hg, hg1] at hk
        simp only [decide_eq_true_eq] at hk
        have hne : l[m] ≠ l[m - 1] := by rcases hk with hk | hk; omega; exact hk
        have a1 : leS l[m - 1] l[m] = true := List.pairwise_iff_getElem.1 hl _ _ hm1 (by omega) (by omega)
        have a2 : bltL l[m - 1] l[m] = true := by
          cases h : bltL l[m - 1] l[m]
          · rw [leS_blt] at a1
            exact absurd (blt_tri h (by simpa using a1)).symm hne
          · rfl
        rcases Nat.lt_or_ge j (m - 1) with h | h
        · have a3 : leS l[j] l[m - 1] = true := List.pairwise_iff_getElem.1 hl _ _ hjl hm1 h
          cases h5 : bltL l[j] l[m - 1]
          · rw [leS_blt] at a3
            rw [blt_tri h5 (by simpa using a3)]; exact a2
          · exact blt_trans h5 a2
        · have : j = m - 1 := by omega
          subst this; exact a2
      · rcases List.mem_append.1 hx with hx | hx
        · obtain ⟨j, hj, hjl, he⟩ := h2 x hx
          exact ⟨j, by omega, hjl, he⟩
        · have : x = l[m] := by simpa using hx
          exact ⟨m, by omega, by omega, this⟩
    · rw [List.append_nil]
      exact ⟨h1, fun x hx => by obtain ⟨j, hj, hjl, he⟩ := h2 x hx; exact ⟨j, by omega, hjl, he⟩⟩
theorem paths_strict (l : List (List UInt8)) : (Lib.compact (l.mergeSort fun x y => decide (x ≤ y))).Pairwise fun x y => bltL x y = true :=
  (compact_strict (sorted_paths l) _ (Nat.le_refl _)).1

end Go.Dm
end

section
/-
  What a diff says of two trees: the other way round, of a tree and itself, of each path. No condition.
-/
namespace Go.Dm
open Go

theorem compact_mem {l : List (List UInt8)} : ∀ m, m ≤ l.length → ∀ j (hj : j < l.length), j < m → l[j] ∈ Lib.compactUpTo l.toArray m
  | 0, _, _, _, h => by omega
  | m + 1, hm, j, hj, h => by
    rw [Lib.compactUpTo_succ]
    have hg : l.toArray[m]! = l[m] := by simp [getElem!_pos, show m < l.length by omega]
    by_cases hjm : j < m
    · exact List.mem_append_left _ (compact_mem m (by omega) j hj hjm)
    · have : j = m := by omega
      subst this
      cases hk : Lib.keeps l.toArray j
      · have hg1 : l.toArray[j - 1]! = l[j - 1] := by simp [getElem!_pos, show j - 1 < l.length by omega]
        unfold Lib.keeps at hk
        rw [hg, hg1] at hk
        simp only [decide_eq_false_iff_not, not_or, Decidable.not_not] at hk
        rw [hk.2]
        exact List.mem_append_left _ (compact_mem j (by omega) (j - 1) (by omega) (by omega))
      · rw [hg]; exact List.mem_append_right _ (by simp)
theorem compact_iff {l : List (List UInt8)} {p : List UInt8} : p ∈ Lib.compact (l.mergeSort fun x y => decide (x ≤ y)) ↔ p ∈ l := by
  have hp : ∀ q, q ∈ (l.mergeSort fun x y => decide (x ≤ y)) ↔ q ∈ l := fun q => List.mem_mergeSort
  constructor
  · intro h
    obtain ⟨j, _, hj, rfl⟩ := (compact_strict (sorted_paths l) _ (Nat.le_refl _)).2 p h
    exact (hp _).1 (List.getElem_mem hj)
  · intro h
    obtain ⟨j, hj, rfl⟩ := List.mem_iff_getElem.1 ((hp p).2 h)
    exact compact_mem _ (Nat.le_refl _) j hj hj

/-- Two lists in strict order that have the same members are one. -/
theorem strict_unique {α : Type} {lt : α → α → Bool} (hirr : ∀ a, lt a a = false) (hasm : ∀ {a b}, lt a b = true → lt b a = false) : ∀ {a b : List α}, a.Pairwise (fun x y => lt x y = true) → b.Pairwise (fun x y => lt x y = true) → (∀ x, x ∈ a ↔ x ∈ b) → a = b
  | [], [], _, _, _ => rfl
  | [], y :: b, _, _, h => by have := (h y).2 List.mem_cons_self; simp at this
  | x :: a, [], _, _, h => by have := (h x).1 List.mem_cons_self; simp at this
  | x :: a, y :: b, ha, hb, h => by
    obtain ⟨ha1, ha2⟩ := List.pairwise_cons.1 ha
    obtain ⟨hb1, hb2⟩ := List.pairwise_cons.1 hb
    have hxy : x = y := by
      rcases List.mem_cons.1 ((h x).1 List.mem_cons_self) with e | e
      · exact e
      · rcases List.mem_cons.1 ((h y).2 List.mem_cons_self) with e2 | e2
        · exact e2.symm
        · have h1 := hasm (hb1 x e)
          rw [ha1 y e2] at h1; cases h1
    subst hxy
    rw [strict_unique hirr hasm ha2 hb2 fun z => ?_]
    constructor
    · intro hz
      rcases List.mem_cons.1 ((h z).1 (List.mem_cons_of_mem _ hz)) with e | e
      · subst e; have := ha1 z hz; rw [hirr] at this; cases this
      · exact e
    · intro hz
      rcases List.mem_cons.1 ((h z).2 (List.mem_cons_of_mem _ hz)) with e | e
      · subst e; have := hb1 z hz; rw [hirr] at this; cases this
      · exact e

theorem getR_has {x : It} : ∀ {t : List It}, x ∈ t → (getR t x.p).isSome = true
  | y :: r, h => by
    rw [getR]
    split
    · rfl
    · rename_i hy
      rcases List.mem_cons.1 h with rfl | h
      · simp at hy
      · exact getR_has h
end Go.Dm
end

section
/-
  The document's diff: its paths, its kinds; it is the program's. No condition.
-/
namespace Go.Dm
open Go

end Go.Dm
end

section
/-
  Which nodes may be, by their time's bits; which changes may be; a diff's changes may. No condition beyond times that are words of 64 bits.
-/
namespace Go.Dm
open Go

theorem byteF_nat (x k : Nat) : (byteF x k).toNat = x / 2 ^ k % 256 := by
  have h : IntKind.u8.wrap ((x : Int).fdiv (2 ^ k)) = ((x / 2 ^ k % 256 : Nat) : Int) := by
    have h2 : (x : Int).fdiv (2 ^ k) = ((x / 2 ^ k : Nat) : Int) := by
      rw [Int.fdiv_eq_ediv_of_nonneg _ (by exact Int.le_of_lt (Int.pow_pos (by decide)))]
      simp
    rw [h2]
    simp only [IntKind.wrap, IntKind.bits, IntKind.signed, Bool.false_and]
    split <;> rename_i h
    · simp at h
    · simp
  unfold byteF
  rw [h, Int.toNat_natCast]
  show _ % 256 = _
  exact Nat.mod_eq_of_lt (Nat.mod_lt _ (by decide))
theorem bytesF_inj {x y : Nat} (hx : x < 18446744073709551616) (hy : y < 18446744073709551616) (h : bytesF x = bytesF y) : x = y := by
  simp only [bytesF, List.cons.injEq, and_true] at h
  obtain ⟨h7, h6, h5, h4, h3, h2, h1, h0⟩ := h
  have e : ∀ k, byteF x k = byteF y k → x / 2 ^ k % 256 = y / 2 ^ k % 256 := fun k h => by rw [← byteF_nat, ← byteF_nat, h]
  have e7 := e _ h7; have e6 := e _ h6; have e5 := e _ h5; have e4 := e _ h4; have e3 := e _ h3; have e2 := e _ h2; have e1 := e _ h1; have e0 := e _ h0
  simp only [show (2 : Nat) ^ 56 = 72057594037927936 from rfl, show (2 : Nat) ^ 48 = 281474976710656 from rfl, show (2 : Nat) ^ 40 = 1099511627776 from rfl, show (2 : Nat) ^ 32 = 4294967296 from rfl, show (2 : Nat) ^ 24 = 16777216 from rfl, show (2 : Nat) ^ 16 = 65536 from rfl, show (2 : Nat) ^ 8 = 256 from rfl, show (2 : Nat) ^ 0 = 1 from rfl, Nat.div_one] at e7 e6 e5 e4 e3 e2 e1 e0
  omega
theorem plainR_eq {x : Nat} (hx : x < 18446744073709551616) : plainR x = (bitsF x == x) := by
  unfold plainR
  rw [Bool.eq_iff_iff, beq_iff_eq, beq_iff_eq]
  exact ⟨fun h => (bytesF_inj hx (bitsF_lt hx) h).symm, fun h => by rw [h]⟩

/-- Which data a node may have; which nodes may be, as the program asks it. -/
def dataP (n : Nd) : Bool := if n.k == 1 then decide ((n.d.length : Int) ≤ 2000) else if n.k == 2 then (n.d.length : Int) == 0 else if n.k == 3 then (decide ((1 : Int) ≤ n.d.length) && decide ((n.d.length : Int) ≤ 120)) && n.d.all fun b => !(b == 0) else false
theorem zero_nat (b : UInt8) : ((b.toNat : Int) == 0) = (b == 0) := by
  rw [Bool.eq_iff_iff]; simp only [beq_iff_eq]
  exact ⟨fun h => UInt8.toNat_inj.1 (by have : (0 : UInt8).toNat = 0 := rfl; omega), fun h => by rw [h]; rfl⟩
theorem targetR_eq (d : List UInt8) : targetR d = ((decide ((1 : Int) ≤ d.length) && decide ((d.length : Int) ≤ 120)) && d.all fun b => !(b == 0)) := by
  unfold targetR
  simp only [zero_nat]
  rw [Bool.and_comm]
def nodeRightP (n : Nd) : Bool := dataP n && decide (0 ≤ n.m) && decide (n.m ≤ 4095) && (bitsF n.t == n.t)
theorem nodeRightP_eq {n : Nd} (h : n.wf) : nodeRightP n = rightNodeR n := by
  unfold nodeRightP rightNodeR dataP
  rw [plainR_eq h]
  simp only [targetR_eq]
  have e1 : decide (0 ≤ n.m) = !decide (n.m < 0) := by rw [Bool.eq_iff_iff]; simp
  have e2 : decide (n.m ≤ 4095) = !decide (4095 < n.m) := by rw [Bool.eq_iff_iff]; simp
  rw [e1, e2]
  generalize (if n.k == 1 then decide ((n.d.length : Int) ≤ 2000) else if n.k == 2 then (n.d.length : Int) == 0 else if n.k == 3 then (decide ((1 : Int) ≤ n.d.length) && decide ((n.d.length : Int) ≤ 120)) && n.d.all (fun b => !(b == 0)) else false) = q
  cases q <;> cases decide (n.m < 0) <;> cases decide (4095 < n.m) <;> cases (bitsF n.t == n.t) <;> rfl

def zeroN (n : Nd) : Bool := n.k == 0 && n.m == 0 && n.t == 0 && n.d.length == 0
end Go.Dm
end

section
/-
  A path's directory and its last name; a tree's names; what stands ahead in a tree. No condition.
-/
namespace Go.Dm
open Go

theorem lastIdx_eq (a : List UInt8) : ∀ k, k ≤ a.length → Lib.lastIdx ⟨a.toArray⟩ 47 k = match lastSlash a k with
    | some j => (j : Int)
    | none => -1
  | 0, _ => rfl
  | k + 1, hk => by
    have hlt : k < a.length := by omega
    have e1 : (ByteArray.mk a.toArray).data[k]! = a[k] := by
      show a.toArray[k]! = _
      simp [getElem!_pos, hlt]
    have e2 : a.getD k 0 = a[k] := by simp [List.getD_eq_getElem?_getD, hlt]
    rw [Lib.lastIdx, lastSlash, e1, e2]
    by_cases h : ((a[k].toNat : Int) = 47)
    · rw [if_pos h, if_pos (by simpa using h)]
    · rw [if_neg h, if_neg (by simpa using h), lastIdx_eq a k (by omega)]
theorem lastIndexByte_eq (a : List UInt8) : Lib.lastIndexByte ⟨a.toArray⟩ 47 = match lastSlash a a.length with
    | some j => (j : Int)
    | none => -1 := by
  have : (ByteArray.mk a.toArray).size = a.length := by simp [ByteArray.size]
  unfold Lib.lastIndexByte
  rw [this]; exact lastIdx_eq a _ (Nat.le_refl _)
theorem lastSlash_lt {p : List UInt8} {j : Nat} (h : lastSlash p p.length = some j) : j < p.length := by
  rcases lastSlash_spec p p.length (Nat.le_refl _) with ⟨h1, _⟩ | ⟨i, hi, h1, _⟩
  · rw [h1] at h; cases h
  · rw [h1] at h; cases h; exact hi
def baseF (p : List UInt8) : List UInt8 := match lastSlash p p.length with
  | some j => p.drop (j + 1)
  | none => p
theorem below_prefix {p q : List UInt8} (hp : p ≠ []) : (p ++ [47]).isPrefixOf q = belowR p q := by
  rw [Bool.eq_iff_iff, List.isPrefixOf_iff_prefix, below_iff hp]
  constructor
  · rintro ⟨r, hr⟩; exact ⟨r, by rw [← hr]; simp⟩
  · rintro ⟨r, hr⟩; exact ⟨r, by rw [hr]; simp⟩
/-- A path out of its directory and its last name. -/
def joinF (d n : List UInt8) : List UInt8 := if d == [] then n else d ++ 47 :: n
theorem dir_base (p : List UInt8) (hd : dirOfR p = [] → 47 ∉ p) : joinF (dirOfR p) (baseF p) = p := by
  unfold joinF baseF
  rcases lastSlash_spec p p.length (Nat.le_refl _) with ⟨h1, h2⟩ | ⟨i, h, h1, h2, h3, h4⟩
  · have : dirOfR p = [] := by unfold dirOfR; rw [h1]
    rw [this, h1]; rfl
  · have hdi : dirOfR p = p.take i := by unfold dirOfR; rw [h1]
    have hi : dirOfR p ≠ [] := by
      intro h0
      exact hd h0 (List.mem_iff_getElem.2 ⟨i, h, h3⟩)
    rw [if_neg (by simpa using hi), hdi, h1]
    have := List.take_append_drop i p
    rw [List.drop_eq_getElem_cons h, h3] at this
    exact this
def dirNames (t : List It) (p : List UInt8) : List (List UInt8) := (t.filter fun x => dirOfR x.p == p).map fun x => baseF x.p
def namesF (t : List It) (p : List UInt8) : List (List UInt8) := (dirNames t p).mergeSort fun x y => decide (x ≤ y)

theorem getR_self {y : It} : ∀ {t : List It}, Srt t → y ∈ t → getR t y.p = some y.n
  | x :: t, hs, hy => by
    obtain ⟨h1, h2⟩ := List.pairwise_cons.1 hs
    rw [getR]
    rcases List.mem_cons.1 hy with rfl | hy
    · rw [if_pos (by simp)]
    · rw [if_neg (by rw [blt_ne (h1 y hy)]; decide)]
      exact getR_self h2 hy
theorem blt_app (d : List UInt8) (b : UInt8) (n : List UInt8) : bltL d (d ++ b :: n) = true := by
  induction d with
  | nil => rfl
  | cons x d ih => rw [List.cons_append, blt_cons, ih]; simp
end Go.Dm
end

section
/-
  The names of a tree's directories are all its paths, each once; what a removal leaves. No condition.
-/
namespace Go.Dm
open Go

/-- Texts in order, none twice, are in strict order. -/
theorem strict_of {l : List (List UInt8)} (hs : l.Pairwise fun x y => leS x y = true) (hn : l.Nodup) : l.Pairwise fun x y => bltL x y = true :=
  (hs.and hn).imp fun {x y} ⟨h1, h2⟩ => by
    cases hb : bltL x y
    · rw [leS_blt] at h1
      exact absurd (blt_tri hb (by simpa using h1)) h2
    · rfl
theorem isPath_noslash {p : List UInt8} (hp : isPathR p = true) (h0 : p ≠ []) (hd : dirOfR p = []) : 47 ∉ p := by
  rcases dir_spec p with ⟨_, h⟩ | ⟨n, h, _⟩
  · exact h
  · rw [hd, List.nil_append] at h
    unfold isPathR at hp
    have : (p == []) = false := by simpa using h0
    rw [this, Bool.false_or, Bool.and_eq_true] at hp
    rw [h] at hp
    have h1 := hp.1
    unfold cutR at h1
    rw [show (47 :: n : List UInt8) = [] ++ 47 :: n from rfl, cutL_app, List.all_append] at h1
    simp [cutL, rightNameR] at h1
theorem OkT.joined {t : List It} (h : OkT t) {x : It} (hx : x ∈ t) : joinF (dirOfR x.p) (baseF x.p) = x.p :=
  dir_base _ fun hd => isPath_noslash (h.its x hx).2.1 (h.its x hx).1 hd
theorem dirNames_nodup {t : List It} (h : OkT t) (d : List UInt8) : (dirNames t d).Nodup := by
  unfold dirNames
  have key : ∀ s : List It, (∀ x ∈ s, x ∈ t) → Srt s → ((s.filter fun x => dirOfR x.p == d).map fun x => baseF x.p).Nodup := by
    intro s
    induction s with
    | nil => intros; simp
    | cons x s ih =>
      intro hm hs
      obtain ⟨h1, h2⟩ := List.pairwise_cons.1 hs
      have ih := ih (fun y hy => hm y (List.mem_cons_of_mem _ hy)) h2
      rw [List.filter_cons]
      split
      · rename_i hx
        rw [List.map_cons, List.nodup_cons]
        refine ⟨fun hb => ?_, ih⟩
        obtain ⟨y, hy, hyb⟩ := List.mem_map.1 hb
        obtain ⟨hy, hyd⟩ := List.mem_filter.1 hy
        have e1 := h.joined (hm x List.mem_cons_self)
        have e2 := h.joined (hm y (List.mem_cons_of_mem _ hy))
        rw [eq_of_beq hx] at e1
        rw [eq_of_beq hyd, hyb, e1] at e2
        have := h1 y hy
        rw [e2, blt_irrefl] at this; cases this
      · exact ih
  exact key t (fun _ h => h) h.srt
theorem namesF_strict {t : List It} (h : OkT t) (d : List UInt8) : (namesF t d).Pairwise fun x y => bltL x y = true :=
  strict_of (sorted_paths _) ((List.mergeSort_perm _ _).nodup_iff.2 (dirNames_nodup h d))
/-! What a filter leaves, by its place. -/
theorem filter_next {α : Type} {g : α → Bool} {t : List α} {i : Nat} {x : α} (hx : t[i]? = some x) : (t.take (i + 1)).filter g = (t.take i).filter g ++ (if g x then [x] else []) := by
  rw [List.take_add_one, hx, List.filter_append]
  show _ ++ [x].filter g = _
  rw [List.filter_cons]; split <;> rfl
end Go.Dm
end
