/-
  What the functions on numbers compute, in plain words; that the program's order of numbers is the document's. No condition beyond words of 64 bits.
-/
import Derived.Test.YtomaddpcacoodaaF1
import Derived.Test.YtomaddpcacoodaaV5
set_option linter.unusedSimpArgs false
set_option linter.unusedVariables false
namespace Go.Dm
open Go

def isNaN (x : Nat) : Bool := ford x x != some .eq
def theNaN : Nat := 9221120237041090561
def bitsF (x : Nat) : Nat := if isNaN x then theNaN else x
def neg64 (x : Nat) : Bool := decide (IntKind.i64.wrap x < 0)
def sidesF (x : Nat) : Int × Int := if isNaN x then (1, 0) else if ford x 0 == some .eq && neg64 x then (0, -1) else (0, 0)
def rankI (x : Nat) : Int := if Int.fdiv (bitsF x) (2 ^ (min (63 : Int).toNat 64)) == 1 then bits .xor .u64 (if IntKind.u64.signed then -1 else IntKind.u64.max) (bitsF x) else bits .or .u64 (bitsF x) 9223372036854775808
def cmp1 (x y : Nat) : Int := if rankI x < rankI y then -1 else if rankI y < rankI x then 1 else 0
def cmpI (a b : Int) : Int := if a < b then -1 else if b < a then 1 else 0
def cmpF (a b : Nat) : Int := if isNaN a then (if isNaN b then 0 else -1) else if isNaN b then 1 else if ford a b == some .lt then -1 else if ford a b == some .gt then 1 else 0
def numCmp (a b : Nat) : Int := if 0 < IntKind.i64.wrap ((sidesF a).1 + (sidesF b).1) then cmpI (sidesF a).1 (sidesF b).1 else if cmpF a b == 0 then cmpI (sidesF a).2 (sidesF b).2 else cmpF a b
def laterN (a b : Nat) : Nat := if numCmp a b < 0 then bitsF b else bitsF a
def laterR (a b : Nat) : Nat := if cmp1 a b < 0 then bitsF b else bitsF a

theorem cmpO_self (a : Int) : cmpO a a = .eq := by unfold cmpO; rw [if_neg (by omega), if_pos rfl]
theorem isNaN_iff (x : Nat) : isNaN x = decide (9218868437227405312 < rg x) := by
  unfold isNaN
  rcases Nat.lt_or_ge 9218868437227405312 (rg x) with h | h
  · rw [ford_nan_l h, decide_eq_true h]; rfl
  · rw [ford_key h h, cmpO_self, decide_eq_false (by omega)]; rfl
theorem rg_lt (x : Nat) : rg x < 9223372036854775808 := Nat.mod_lt _ (by omega)
theorem isNaN_the : isNaN theNaN = true := by rw [isNaN_iff]; decide
theorem bitsF_lt {x : Nat} (h : x < 18446744073709551616) : bitsF x < 18446744073709551616 := by
  unfold bitsF; split
  · decide
  · exact h
theorem bitsF_idem (x : Nat) : bitsF (bitsF x) = bitsF x := by
  unfold bitsF
  by_cases h : isNaN x = true
  · rw [if_pos h, if_pos isNaN_the]
  · rw [if_neg h, if_neg h]
theorem neg64_eq {x : Nat} (h : x < 18446744073709551616) : neg64 x = decide (9223372036854775808 ≤ x) := by
  unfold neg64
  congr 1
  simp only [IntKind.wrap, IntKind.bits, IntKind.signed, Bool.true_and, eq_iff_iff]
  split <;> rename_i h' <;> simp at h' <;> omega

theorem xor_max {b : Nat} (h : b < 18446744073709551616) : bits .xor .u64 (if IntKind.u64.signed then -1 else IntKind.u64.max) (b : Int) = 18446744073709551615 - (b : Int) := by
  have e : (if IntKind.u64.signed then (-1 : Int) else IntKind.u64.max) = 18446744073709551615 := by decide
  rw [e]
  have e1 : BitVec.ofInt 64 18446744073709551615 = BitVec.allOnes 64 := by decide
  show IntKind.u64.wrap (((BitVec.ofInt 64 18446744073709551615 : BitVec 64) ^^^ (BitVec.ofInt 64 (b : Int) : BitVec 64)).toNat : Int) = _
  rw [e1, BitVec.allOnes_xor, BitVec.toNat_not]
  have e2 : (BitVec.ofInt 64 (b : Int)).toNat = b := by
    rw [BitVec.ofInt_natCast, BitVec.toNat_ofNat]; omega
  rw [e2, wrap_u64 (by omega) (by omega)]
  omega
theorem or_top {b : Nat} (h : b < 9223372036854775808) : bits .or .u64 (b : Int) 9223372036854775808 = (b : Int) + 9223372036854775808 := by
  show IntKind.u64.wrap (((BitVec.ofInt 64 (b : Int) : BitVec 64) ||| (BitVec.ofInt 64 9223372036854775808 : BitVec 64)).toNat : Int) = _
  have e2 : (BitVec.ofInt 64 (b : Int)).toNat = b := by
    rw [BitVec.ofInt_natCast, BitVec.toNat_ofNat]; omega
  have e3 : (BitVec.ofInt 64 (9223372036854775808 : Int)).toNat = 9223372036854775808 := by decide
  rw [BitVec.toNat_or, e2, e3]
  have : b ||| 9223372036854775808 = 9223372036854775808 + b := by
    have := Nat.two_pow_add_eq_or_of_lt (i := 63) (b := b) (by omega) 1
    rw [Nat.or_comm]
    simpa using this.symm
  rw [this, wrap_u64 (by omega) (by omega)]
  omega
theorem rankI_eq {x : Nat} (h : x < 18446744073709551616) : rankI x = if 9223372036854775808 ≤ bitsF x then 18446744073709551615 - (bitsF x : Int) else (bitsF x : Int) + 9223372036854775808 := by
  have hb := bitsF_lt h
  unfold rankI
  generalize bitsF x = b at hb ⊢
  have e : Int.fdiv (b : Int) (2 ^ (min (63 : Int).toNat 64)) = ((b / 9223372036854775808 : Nat) : Int) := by
    show Int.fdiv (b : Int) 9223372036854775808 = _
    rw [Int.fdiv_eq_ediv_of_nonneg _ (by decide)]; omega
  rw [e]
  by_cases hc : 9223372036854775808 ≤ b
  · rw [if_pos hc, if_pos (by have : b / 9223372036854775808 = 1 := by omega
                              rw [this]; rfl), xor_max hb]
  · rw [if_neg hc, if_neg (by have : b / 9223372036854775808 = 0 := by omega
                              rw [this]; decide), or_top (by omega)]

/-- A word as an integer by which it stands among the others: NaNs above all. -/
def keyI (x : Nat) : Int := if isNaN x then 9223372036854775808 else if sn x then -(rg x : Int) - 1 else rg x
theorem rank_key {x : Nat} (h : x < 18446744073709551616) : rankI x = (if isNaN x then 18444492273895866369 else keyI x + 9223372036854775808) := by
  rw [rankI_eq h]
  unfold keyI bitsF
  by_cases hn : isNaN x = true
  · simp only [if_pos hn]; decide
  · simp only [if_neg hn]
    have e : sn x = decide (9223372036854775808 ≤ x) := by
      unfold sn
      rcases Nat.lt_or_ge x 9223372036854775808 with h' | h'
      · have : x / 9223372036854775808 = 0 := by omega
        rw [this, decide_eq_false (by omega)]; rfl
      · have : x / 9223372036854775808 = 1 := by omega
        rw [this, decide_eq_true h']; rfl
    rw [e]
    unfold rg
    by_cases hc : 9223372036854775808 ≤ x
    · simp only [if_pos hc, decide_eq_true hc, if_true]; omega
    · simp only [if_neg hc, decide_eq_false hc, Bool.false_eq_true, if_false]; omega
theorem keyI_lt {x : Nat} (hn : isNaN x = false) : keyI x ≤ 9218868437227405312 := by
  unfold keyI
  rw [hn]
  rw [isNaN_iff] at hn
  have := of_decide_eq_false hn
  simp only [Bool.false_eq_true, if_false]
  split <;> omega
theorem cmp1_key {x y : Nat} (hx : x < 18446744073709551616) (hy : y < 18446744073709551616) : cmp1 x y = cmpI (keyI x) (keyI y) := by
  unfold cmp1 cmpI
  rw [rank_key hx, rank_key hy]
  by_cases h1 : isNaN x = true <;> by_cases h2 : isNaN y = true
  · simp only [if_pos h1, if_pos h2, keyI]; simp
  · have := keyI_lt (by simpa using h2)
    have e : keyI x = 9223372036854775808 := by unfold keyI; rw [if_pos h1]
    simp only [if_pos h1, if_neg h2, e]
    rw [if_neg (by omega), if_pos (by omega), if_neg (by omega), if_pos (by omega)]
  · have := keyI_lt (x := x) (by simpa using h1)
    have e : keyI y = 9223372036854775808 := by unfold keyI; rw [if_pos h2]
    simp only [if_neg h1, if_pos h2, e]
    rw [if_pos (by omega), if_pos (by omega)]
  · simp only [if_neg h1, if_neg h2]
    have a1 : (keyI x + 9223372036854775808 < keyI y + 9223372036854775808) ↔ keyI x < keyI y := by omega
    have a2 : (keyI y + 9223372036854775808 < keyI x + 9223372036854775808) ↔ keyI y < keyI x := by omega
    simp only [a1, a2]

theorem beq_lt (p q : Int) : (some (cmpO p q) == some Ordering.lt) = decide (p < q) := by
  unfold cmpO
  by_cases h : p < q
  · rw [if_pos h, decide_eq_true h]; rfl
  · rw [if_neg h, decide_eq_false h]; split <;> rfl
theorem beq_gt (p q : Int) : (some (cmpO p q) == some Ordering.gt) = decide (q < p) := by
  unfold cmpO
  by_cases h : p < q
  · rw [if_pos h, decide_eq_false (by omega)]; rfl
  · rw [if_neg h]
    by_cases h' : p = q
    · rw [if_pos h', decide_eq_false (by omega)]; rfl
    · rw [if_neg h', decide_eq_true (by omega)]; rfl
theorem cmpI_zero (p q : Int) : (cmpI p q == 0) = decide (p = q) := by
  unfold cmpI
  by_cases h : p < q
  · rw [if_pos h, decide_eq_false (by omega)]; rfl
  · rw [if_neg h]
    by_cases h' : q < p
    · rw [if_pos h', decide_eq_false (by omega)]; rfl
    · rw [if_neg h', decide_eq_true (by omega)]; rfl
theorem ord_lt_beq (o : Ordering) : (some o == some Ordering.lt) = (o == .lt) := by cases o <;> rfl
theorem numCmp_key {x y : Nat} (hx : x < 18446744073709551616) (hy : y < 18446744073709551616) : numCmp x y = cmpI (keyI x) (keyI y) := by
  have w2 : IntKind.i64.wrap (1 + 1) = 2 := by decide
  have w1 : IntKind.i64.wrap (1 + 0) = 1 := by decide
  have w1' : IntKind.i64.wrap (0 + 1) = 1 := by decide
  have w0 : IntKind.i64.wrap (0 + 0) = 0 := by decide
  have s1 : ∀ z, isNaN z = true → sidesF z = (1, 0) := fun z h => by unfold sidesF; rw [if_pos h]
  have s0 : ∀ z, z < 18446744073709551616 → isNaN z = false → (sidesF z).1 = 0 ∧ (sidesF z).2 = if rg z = 0 ∧ sn z = true then -1 else 0 := by
    intro z hz h
    have hr : rg z ≤ 9218868437227405312 := by rw [isNaN_iff] at h; have := of_decide_eq_false h; omega
    have e : (ford z 0 == some Ordering.eq) = decide (rg z = 0) := by
      rw [ford_key hr (by decide)]
      have : sg (sn 0) (rg 0) = 0 := by decide
      rw [this]
      by_cases hz : rg z = 0
      · rw [hz, decide_eq_true rfl]
        cases sn z <;> rfl
      · rw [decide_eq_false hz]
        unfold cmpO sg
        cases sn z <;> simp only [Bool.false_eq_true, if_false, if_true]
        · rw [if_neg (by omega), if_neg (by omega)]; rfl
        · rw [if_pos (by omega)]; rfl
    have e2 : neg64 z = sn z := by
      rw [neg64_eq hz]
      unfold sn
      rcases Nat.lt_or_ge z 9223372036854775808 with h' | h'
      · have : z / 9223372036854775808 = 0 := by omega
        rw [this, decide_eq_false (by omega)]; rfl
      · have : z / 9223372036854775808 = 1 := by omega
        rw [this, decide_eq_true h']; rfl
    unfold sidesF
    rw [h, e, e2]
    simp only [Bool.false_eq_true, if_false]
    by_cases hz0 : rg z = 0 <;> cases hsn : sn z <;> simp [hz0]
  unfold numCmp
  by_cases h1 : isNaN x = true <;> by_cases h2 : isNaN y = true
  · rw [s1 x h1, s1 y h2]; simp only [w2]
    rw [if_pos (by decide)]
    unfold keyI; rw [if_pos h1, if_pos h2]; rfl
  · have h2' : isNaN y = false := by simpa using h2
    rw [s1 x h1, (s0 y hy h2').1]; simp only [w1]
    rw [if_pos (by decide)]
    have := keyI_lt h2'
    unfold cmpI
    have e : keyI x = 9223372036854775808 := by unfold keyI; rw [if_pos h1]
    rw [e, if_neg (by omega), if_pos (by omega), if_neg (by omega), if_pos (by omega)]
  · have h1' : isNaN x = false := by simpa using h1
    rw [s1 y h2, (s0 x hx h1').1]; simp only [w1']
    rw [if_pos (by decide)]
    have := keyI_lt h1'
    unfold cmpI
    have e : keyI y = 9223372036854775808 := by unfold keyI; rw [if_pos h2]
    rw [e, if_pos (by omega), if_pos (by omega)]
  · have h1' : isNaN x = false := by simpa using h1
    have h2' : isNaN y = false := by simpa using h2
    rw [(s0 x hx h1').1, (s0 y hy h2').1, (s0 x hx h1').2, (s0 y hy h2').2, w0, if_neg (by decide)]
    have hr1 : rg x ≤ 9218868437227405312 := by rw [isNaN_iff] at h1'; have := of_decide_eq_false h1'; omega
    have hr2 : rg y ≤ 9218868437227405312 := by rw [isNaN_iff] at h2'; have := of_decide_eq_false h2'; omega
    have ef : cmpF x y = cmpI (sg (sn x) (rg x)) (sg (sn y) (rg y)) := by
      unfold cmpF
      rw [h1', h2', ford_key hr1 hr2, beq_lt, beq_gt]
      unfold cmpI
      simp only [Bool.false_eq_true, if_false, decide_eq_true_eq]
    rw [ef, cmpI_zero]
    unfold keyI
    rw [h1', h2']
    simp only [Bool.false_eq_true, if_false, decide_eq_true_eq]
    unfold cmpI sg
    cases sn x <;> cases sn y <;> simp only [Bool.false_eq_true, if_false, if_true, and_false, and_true] <;> (repeat' split) <;> first | rfl | omega
theorem numCmp_eq {x y : Nat} (hx : x < 18446744073709551616) (hy : y < 18446744073709551616) : numCmp x y = cmp1 x y := by rw [numCmp_key hx hy, cmp1_key hx hy]
theorem laterN_eq {x y : Nat} (hx : x < 18446744073709551616) (hy : y < 18446744073709551616) : laterN x y = laterR x y := by unfold laterN laterR; rw [numCmp_eq hx hy]
theorem numCmp_zero {x y : Nat} (hx : x < 18446744073709551616) (hy : y < 18446744073709551616) : (numCmp x y == 0) = (bitsF x == bitsF y) := by
  rw [numCmp_key hx hy]
  have e : (cmpI (keyI x) (keyI y) == 0) = decide (keyI x = keyI y) := by
    unfold cmpI
    by_cases h : keyI x < keyI y
    · rw [if_pos h, decide_eq_false (by omega)]; rfl
    · rw [if_neg h]
      by_cases h' : keyI y < keyI x
      · rw [if_pos h', decide_eq_false (by omega)]; rfl
      · rw [if_neg h', decide_eq_true (by omega)]; rfl
  rw [e]
  unfold bitsF
  by_cases h1 : isNaN x = true <;> by_cases h2 : isNaN y = true
  · unfold keyI; simp only [if_pos h1, if_pos h2]; simp
  · have := keyI_lt (x := y) (by simpa using h2)
    have e : keyI x = 9223372036854775808 := by unfold keyI; rw [if_pos h1]
    rw [e, if_pos h1, if_neg h2, decide_eq_false (by omega)]
    symm
    rw [beq_eq_false_iff_ne]
    intro h
    exact h2 (h ▸ isNaN_the)
  · have := keyI_lt (x := x) (by simpa using h1)
    have e : keyI y = 9223372036854775808 := by unfold keyI; rw [if_pos h2]
    rw [e, if_neg h1, if_pos h2, decide_eq_false (by omega)]
    symm
    rw [beq_eq_false_iff_ne]
    intro h
    exact h1 (h ▸ isNaN_the)
  · rw [if_neg h1, if_neg h2]
    rw [Bool.eq_iff_iff, decide_eq_true_iff, beq_iff_eq]
    unfold keyI
    rw [if_neg h1, if_neg h2]
    constructor
    · intro h
      have ex : x = (if sn x then 9223372036854775808 else 0) + rg x := by
        unfold sn rg
        rcases Nat.lt_or_ge x 9223372036854775808 with h' | h'
        · have : x / 9223372036854775808 = 0 := by omega
          rw [this]; simp; omega
        · have : x / 9223372036854775808 = 1 := by omega
          rw [this]; simp; omega
      have ey : y = (if sn y then 9223372036854775808 else 0) + rg y := by
        unfold sn rg
        rcases Nat.lt_or_ge y 9223372036854775808 with h' | h'
        · have : y / 9223372036854775808 = 0 := by omega
          rw [this]; simp; omega
        · have : y / 9223372036854775808 = 1 := by omega
          rw [this]; simp; omega
      rw [ex, ey]
      have l1 := rg_lt x
      have l2 := rg_lt y
      cases hsx : sn x <;> cases hsy : sn y <;> simp only [hsx, hsy, Bool.false_eq_true, if_false, if_true] at h ⊢ <;> omega
    · intro h; subst h; rfl

end Go.Dm
