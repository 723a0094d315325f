/-
  Diffs, names, paths: plain laws. No condition.
-/
import Derived.Test.YtnbgaphhhjnjlaaGreatDoorBB
import Derived.Test.YtnbgaphhhjnjlaaGreatDoorSB
set_option linter.unusedSimpArgs false
set_option linter.unusedVariables false

section
/-
  The paths that a diff looks at: in strict order, each once. No condition.
-/
namespace Go.Dm
open Go

theorem blt_lt : ∀ a b : List UInt8, bltL a b = decide (a < b)
  | a, [] => by rw [blt_nil]; simp
  | [], y :: b => by show true = _; simp
  | x :: a, y :: b => by
    rw [blt_cons, blt_lt a b]
    by_cases h1 : x < y
    · simp [h1, List.cons_lt_cons_iff]
    · by_cases h2 : x = y
      · subst h2; simp [List.cons_lt_cons_iff]
      · simp [h1, h2, List.cons_lt_cons_iff]
theorem le_blt {a b : List UInt8} : a ≤ b ↔ bltL b a = false := by rw [blt_lt, decide_eq_false_iff_not, List.not_lt]
def leS (x y : List UInt8) : Bool := decide (x ≤ y)
theorem leS_blt {a b : List UInt8} : leS a b = !bltL b a := by
  unfold leS
  cases h : bltL b a
  · simpa using le_blt.2 h
  · have : ¬ a ≤ b := fun h2 => by rw [le_blt.1 h2] at h; cases h
    simpa using this
theorem leS_trans {a b c : List UInt8} (h1 : leS a b = true) (h2 : leS b c = true) : leS a c = true := by
  rw [leS_blt] at *
  cases hc : bltL c a
  · rfl
  · have h1' : bltL b a = false := by simpa using h1
    have h2' : bltL c b = false := by simpa using h2
    cases hb : bltL a b
    · have := blt_tri hb h1'; subst this; rw [hc] at h2'; cases h2'
    · have := blt_trans hc hb; rw [this] at h2'; cases h2'
theorem leS_total {a b : List UInt8} : (leS a b || leS b a) = true := by
  rw [leS_blt, leS_blt]
  cases h : bltL b a
  · rfl
  · rw [blt_asymm h]; rfl
theorem sorted_paths (l : List (List UInt8)) : (l.mergeSort fun x y => decide (x ≤ y)).Pairwise fun x y => leS x y = true :=
  List.pairwise_mergeSort (le := leS) (fun a b c => leS_trans) (fun a b => leS_total) l

end Go.Dm
end

section
/-
  What a diff says of two trees: the other way round, of a tree and itself, of each path. No condition.
-/
namespace Go.Dm
open Go

end Go.Dm
end

section
/-
  The document's diff: its paths, its kinds; it is the program's. No condition.
-/
namespace Go.Dm
open Go

end Go.Dm
end

section
/-
  Which nodes may be, by their time's bits; which changes may be; a diff's changes may. No condition beyond times that are words of 64 bits.
-/
namespace Go.Dm
open Go

theorem byteF_nat (x k : Nat) : (byteF x k).toNat = x / 2 ^ k % 256 := by
  have h : IntKind.u8.wrap ((x : Int).fdiv (2 ^ k)) = ((x / 2 ^ k % 256 : Nat) : Int) := by
    have h2 : (x : Int).fdiv (2 ^ k) = ((x / 2 ^ k : Nat) : Int) := by
      rw [Int.fdiv_eq_ediv_of_nonneg _ (by exact Int.le_of_lt (Int.pow_pos (by decide)))]
      simp
    rw [h2]
    simp only [IntKind.wrap, IntKind.bits, IntKind.signed, Bool.false_and]
    split <;> rename_i h
    · simp at h
    · simp
  unfold byteF
  rw [h, Int.toNat_natCast]
  show _ % 256 = _
  exact Nat.mod_eq_of_lt (Nat.mod_lt _ (by decide))
theorem bytesF_inj {x y : Nat} (hx : x < 18446744073709551616) (hy : y < 18446744073709551616) (h : bytesF x = bytesF y) : x = y := by
  simp only [bytesF, List.cons.injEq, and_true] at h
  obtain ⟨h7, h6, h5, h4, h3, h2, h1, h0⟩ := h
  have e : ∀ k, byteF x k = byteF y k → x / 2 ^ k % 256 = y / 2 ^ k % 256 := fun k h => by rw [← byteF_nat, ← byteF_nat, h]
  have e7 := e _ h7; have e6 := e _ h6; have e5 := e _ h5; have e4 := e _ h4; have e3 := e _ h3; have e2 := e _ h2; have e1 := e _ h1; have e0 := e _ h0
  simp only [show (2 : Nat) ^ 56 = 72057594037927936 from rfl, show (2 : Nat) ^ 48 = 281474976710656 from rfl, show (2 : Nat) ^ 40 = 1099511627776 from rfl, show (2 : Nat) ^ 32 = 4294967296 from rfl, show (2 : Nat) ^ 24 = 16777216 from rfl, show (2 : Nat) ^ 16 = 65536 from rfl, show (2 : Nat) ^ 8 = 256 from rfl, show (2 : Nat) ^ 0 = 1 from rfl, Nat.div_one] at e7 e6 e5 e4 e3 e2 e1 e0
  omega
theorem plainR_eq {x : Nat} (hx : x < 18446744073709551616) : plainR x = (bitsF x == x) := by
  unfold plainR
  rw [Bool.eq_iff_iff, beq_iff_eq, beq_iff_eq]
  exact ⟨fun h => (bytesF_inj hx (bitsF_lt hx) h).symm, fun h => by rw [h]⟩

/-- Which data a node may have; which nodes may be, as the program asks it. -/
def dataP (n : Nd) : Bool := if n.k == 1 then decide ((n.d.length : Int) ≤ 2000) else if n.k == 2 then (n.d.length : Int) == 0 else if n.k == 3 then (decide ((1 : Int) ≤ n.d.length) && decide ((n.d.length : Int) ≤ 120)) && n.d.all fun b => !(b == 0) else false
theorem zero_nat (b : UInt8) : ((b.toNat : Int) == 0) = (b == 0) := by
  rw [Bool.eq_iff_iff]; simp only [beq_iff_eq]
  exact ⟨fun h => UInt8.toNat_inj.1 (by have : (0 : UInt8).toNat = 0 := rfl; omega), fun h => by rw [h]; rfl⟩
theorem targetR_eq (d : List UInt8) : targetR d = ((decide ((1 : Int) ≤ d.length) && decide ((d.length : Int) ≤ 120)) && d.all fun b => !(b == 0)) := by
  unfold targetR
  simp only [zero_nat]
  rw [Bool.and_comm]
def nodeRightP (n : Nd) : Bool := dataP n && decide (0 ≤ n.m) && decide (n.m ≤ 4095) && (bitsF n.t == n.t)
theorem nodeRightP_eq {n : Nd} (h : n.wf) : nodeRightP n = rightNodeR n := by
  unfold nodeRightP rightNodeR dataP
  rw [plainR_eq h]
  simp only [targetR_eq]
  have e1 : decide (0 ≤ n.m) = !decide (n.m < 0) := by rw [Bool.eq_iff_iff]; simp
  have e2 : decide (n.m ≤ 4095) = !decide (4095 < n.m) := by rw [Bool.eq_iff_iff]; simp
  rw [e1, e2]
  generalize (if n.k == 1 then decide ((n.d.length : Int) ≤ 2000) else if n.k == 2 then (n.d.length : Int) == 0 else if n.k == 3 then (decide ((1 : Int) ≤ n.d.length) && decide ((n.d.length : Int) ≤ 120)) && n.d.all (fun b => !(b == 0)) else false) = q
  cases q <;> cases decide (n.m < 0) <;> cases decide (4095 < n.m) <;> cases (bitsF n.t == n.t) <;> rfl

theorem OkT.getok {t : List It} (h : OkT t) {p : List UInt8} (hs : (getR t p).isSome = true) : p ≠ [] ∧ isPathR p = true ∧ rightNodeR ((getR t p).getD nd0) = true := by
  cases hg : getR t p with
  | none => rw [hg] at hs; cases hs
  | some n =>
    obtain ⟨x, hx, rfl, rfl⟩ := getR_mem hg
    have := h.its x hx
    exact ⟨this.1, this.2.1, this.2.2.1⟩
end Go.Dm
end

section
/-
  A path's directory and its last name; a tree's names; what stands ahead in a tree. No condition.
-/
namespace Go.Dm
open Go

theorem lastIdx_eq (a : List UInt8) : ∀ k, k ≤ a.length → Lib.lastIdx ⟨a.toArray⟩ 47 k = match lastSlash a k with
    | some j => (j : Int)
    | none => -1
  | 0, _ => rfl
  | k + 1, hk => by
    have hlt : k < a.length := by omega
    have e1 : (ByteArray.mk a.toArray).data[k]! = a[k] := by
      show a.toArray[k]! = _
      simp [getElem!_pos, hlt]
    have e2 : a.getD k 0 = a[k] := by simp [List.getD_eq_getElem?_getD, hlt]
    rw [Lib.lastIdx, lastSlash, e1, e2]
    by_cases h : ((a[k].toNat : Int) = 47)
    · rw [if_pos h, if_pos (by simpa using h)]
    · rw [if_neg h, if_neg (by simpa using h), lastIdx_eq a k (by omega)]
theorem lastIndexByte_eq (a : List UInt8) : Lib.lastIndexByte ⟨a.toArray⟩ 47 = match lastSlash a a.length with
    | some j => (j : Int)
    | none => -1 := by
  have : (ByteArray.mk a.toArray).size = a.length := by simp [ByteArray.size]
  unfold Lib.lastIndexByte
  rw [this]; exact lastIdx_eq a _ (Nat.le_refl _)
theorem lastSlash_lt {p : List UInt8} {j : Nat} (h : lastSlash p p.length = some j) : j < p.length := by
  rcases lastSlash_spec p p.length (Nat.le_refl _) with ⟨h1, _⟩ | ⟨i, hi, h1, _⟩
  · rw [h1] at h; cases h
  · rw [h1] at h; cases h; exact hi
def baseF (p : List UInt8) : List UInt8 := match lastSlash p p.length with
  | some j => p.drop (j + 1)
  | none => p
theorem below_prefix {p q : List UInt8} (hp : p ≠ []) : (p ++ [47]).isPrefixOf q = belowR p q := by
  rw [Bool.eq_iff_iff, List.isPrefixOf_iff_prefix, below_iff hp]
  constructor
  · rintro ⟨r, hr⟩; exact ⟨r, by rw [← hr]; simp⟩
  · rintro ⟨r, hr⟩; exact ⟨r, by rw [hr]; simp⟩
/-- A path out of its directory and its last name. -/
def joinF (d n : List UInt8) : List UInt8 := if d == [] then n else d ++ 47 :: n
theorem dir_base (p : List UInt8) (hd : dirOfR p = [] → 47 ∉ p) : joinF (dirOfR p) (baseF p) = p := by
  unfold joinF baseF
  rcases lastSlash_spec p p.length (Nat.le_refl _) with ⟨h1, h2⟩ | ⟨i, h, h1, h2, h3, h4⟩
  · have : dirOfR p = [] := by unfold dirOfR; rw [h1]
    rw [this, h1]; rfl
  · have hdi : dirOfR p = p.take i := by unfold dirOfR; rw [h1]
    have hi : dirOfR p ≠ [] := by
      intro h0
      exact hd h0 (List.mem_iff_getElem.2 ⟨i, h, h3⟩)
    rw [if_neg (by simpa using hi), hdi, h1]
    have := List.take_append_drop i p
    rw [List.drop_eq_getElem_cons h, h3] at this
    exact this
def dirNames (t : List It) (p : List UInt8) : List (List UInt8) := (t.filter fun x => dirOfR x.p == p).map fun x => baseF x.p
def namesF (t : List It) (p : List UInt8) : List (List UInt8) := (dirNames t p).mergeSort fun x y => decide (x ≤ y)

theorem getR_self {y : It} : ∀ {t : List It}, Srt t → y ∈ t → getR t y.p = some y.n
  | x :: t, hs, hy => by
    obtain ⟨h1, h2⟩ := List.pairwise_cons.1 hs
    rw [getR]
    rcases List.mem_cons.1 hy with rfl | hy
    · rw [if_pos (by simp)]
    · rw [if_neg (by rw [blt_ne (h1 y hy)]; decide)]
      exact getR_self h2 hy
end Go.Dm
end

section
/-
  The names of a tree's directories are all its paths, each once; what a removal leaves. No condition.
-/
namespace Go.Dm
open Go

theorem isPath_noslash {p : List UInt8} (hp : isPathR p = true) (h0 : p ≠ []) (hd : dirOfR p = []) : 47 ∉ p := by
  rcases dir_spec p with ⟨_, h⟩ | ⟨n, h, _⟩
  · exact h
  · rw [hd, List.nil_append] at h
    unfold isPathR at hp
    have : (p == []) = false := by simpa using h0
    rw [this, Bool.false_or, Bool.and_eq_true] at hp
    rw [h] at hp
    have h1 := hp.1
    unfold cutR at h1
    rw [show (47 :: n : List UInt8) = [] ++ 47 :: n from rfl, cutL_app, List.all_append] at h1
    simp [cutL, rightNameR] at h1
theorem OkT.joined {t : List It} (h : OkT t) {x : It} (hx : x ∈ t) : joinF (dirOfR x.p) (baseF x.p) = x.p :=
  dir_base _ fun hd => isPath_noslash (h.its x hx).2.1 (h.its x hx).1 hd
/-! What a filter leaves, by its place. -/
theorem filter_next {α : Type} {g : α → Bool} {t : List α} {i : Nat} {x : α} (hx : t[i]? = some x) : (t.take (i + 1)).filter g = (t.take i).filter g ++ (if g x then [x] else []) := by
  rw [List.take_add_one, hx, List.filter_append]
  show _ ++ [x].filter g = _
  rw [List.filter_cons]; split <;> rfl
end Go.Dm
end
