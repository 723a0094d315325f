/-
  Floats of 64 bits by their order: how two words that are no NaN stand to each other is how their signed rungs do. No condition.
-/
import Derived.Test.YtomaddpcacoodaaE20
set_option linter.unusedSimpArgs false
set_option linter.unusedVariables false
namespace Go.Dm
open Go

/-- The rung of a word, and its sign. -/
def rg (w : Nat) : Nat := w % 9223372036854775808
def sn (w : Nat) : Bool := w / 9223372036854775808 % 2 == 1
def mgn (r : Nat) : Nat := if r < 4503599627370496 then r else 4503599627370496 + r % 4503599627370496
def plc (r : Nat) : Nat := if r < 4503599627370496 then 0 else r / 4503599627370496 - 1
def mv (r : Nat) : Nat := mgn r * 2 ^ plc r
def sg (s : Bool) (v : Nat) : Int := if s then -(v : Int) else v

theorem mv_succ (r : Nat) : mv r < mv (r + 1) := by
  unfold mv mgn plc
  by_cases h1 : r + 1 < 4503599627370496
  · rw [if_pos (by omega), if_pos (by omega), if_pos h1, if_pos h1]; simp
  · by_cases h2 : r < 4503599627370496
    · have : r + 1 = 4503599627370496 := by omega
      rw [if_pos h2, if_pos h2, this]; simp; omega
    · rw [if_neg h2, if_neg h2, if_neg h1, if_neg h1]
      have he : 1 ≤ r / 4503599627370496 := by omega
      by_cases h3 : r % 4503599627370496 + 1 < 4503599627370496
      · have e1 : (r + 1) / 4503599627370496 = r / 4503599627370496 := by omega
        have e2 : (r + 1) % 4503599627370496 = r % 4503599627370496 + 1 := by omega
        rw [e1, e2]
        exact Nat.mul_lt_mul_of_pos_right (by omega) (Nat.two_pow_pos _)
      · have e1 : (r + 1) / 4503599627370496 - 1 = (r / 4503599627370496 - 1) + 1 := by omega
        have e2 : (r + 1) % 4503599627370496 = 0 := by omega
        rw [e1, e2, Nat.pow_succ]
        have hp := Nat.two_pow_pos (r / 4503599627370496 - 1)
        generalize 2 ^ (r / 4503599627370496 - 1) = p at hp ⊢
        generalize hm : r % 4503599627370496 = m at h3
        have hm' : m < 4503599627370496 := by omega
        have : (4503599627370496 + m) * p < (4503599627370496 + 4503599627370496) * p := Nat.mul_lt_mul_of_pos_right (by omega) hp
        have e3 : (4503599627370496 + 0) * (p * 2) = (4503599627370496 + 4503599627370496) * p := by rw [Nat.add_zero, Nat.mul_comm p 2, ← Nat.mul_assoc]
        rw [e3]; exact this
theorem mv_lt {r q : Nat} (h : r < q) : mv r < mv q := by
  induction q with
  | zero => omega
  | succ q ih =>
    rcases Nat.lt_or_ge r q with h' | h'
    · exact Nat.lt_trans (ih h') (mv_succ q)
    · have : r = q := by omega
      subst this; exact mv_succ r
theorem mv_lt_iff {r q : Nat} : mv r < mv q ↔ r < q := by
  refine ⟨fun h => ?_, mv_lt⟩
  rcases Nat.lt_or_ge r q with h' | h'
  · exact h'
  · rcases Nat.eq_or_lt_of_le h' with h2 | h2
    · subst h2; omega
    · have := mv_lt h2; omega
theorem mv_zero : mv 0 = 0 := by decide

theorem read_number {w : Nat} (h : rg w < 9218868437227405312) : Ieee.double.read w = .number (sn w) (mgn (rg w)) (-1074 + (plc (rg w) : Int)) := by
  have e1 : Ieee.double.signWeight = 9223372036854775808 := by decide
  have e2 : Ieee.double.binade = 4503599627370496 := by decide
  have e3 : Ieee.double.infRung = 9218868437227405312 := by decide
  have e4 : Ieee.double.leastPlace = -1074 := by decide
  simp only [Ieee.Format.read, e1, e2, e3, e4]
  simp only [rg] at h ⊢
  unfold mgn plc sn
  by_cases h1 : w % 9223372036854775808 < 4503599627370496
  · simp only [if_pos h1]; rfl
  · simp only [if_neg h1, if_pos h]
theorem read_inf {w : Nat} (h : rg w = 9218868437227405312) : Ieee.double.read w = .infinity (sn w) := by
  have e1 : Ieee.double.signWeight = 9223372036854775808 := by decide
  have e2 : Ieee.double.binade = 4503599627370496 := by decide
  have e3 : Ieee.double.infRung = 9218868437227405312 := by decide
  simp only [Ieee.Format.read, e1, e2, e3]
  simp only [rg] at h
  rw [h]
  rfl
theorem read_nan {w : Nat} (h : 9218868437227405312 < rg w) : ∃ s f, Ieee.double.read w = .nan s f := by
  have e1 : Ieee.double.signWeight = 9223372036854775808 := by decide
  have e2 : Ieee.double.binade = 4503599627370496 := by decide
  have e3 : Ieee.double.infRung = 9218868437227405312 := by decide
  simp only [Ieee.Format.read, e1, e2, e3]
  simp only [rg] at h
  rw [if_neg (by omega), if_neg (by omega), if_neg (by omega)]
  exact ⟨_, _, rfl⟩

def cmpO (a b : Int) : Ordering := if a < b then .lt else if a = b then .eq else .gt
theorem compare_int (a b : Int) : compare a b = cmpO a b := rfl
theorem cmpO_congr {a b c d : Int} (h1 : a < b ↔ c < d) (h2 : a = b ↔ c = d) : cmpO a b = cmpO c d := by
  unfold cmpO
  by_cases x : a < b
  · rw [if_pos x, if_pos (h1.1 x)]
  · rw [if_neg x, if_neg (fun h => x (h1.2 h))]
    by_cases y : a = b
    · rw [if_pos y, if_pos (h2.1 y)]
    · rw [if_neg y, if_neg (fun h => y (h2.2 h))]

theorem ford_number {a b : Nat} (ha : rg a < 9218868437227405312) (hb : rg b < 9218868437227405312) : ford a b = some (cmpO (sg (sn a) (rg a)) (sg (sn b) (rg b))) := by
  show Ieee.double.order a b = _
  simp only [Ieee.Format.order, read_number ha, read_number hb, Ieee.Datum.order, compare_int]
  congr 1
  generalize hx : (-1074 + (plc (rg a) : Int) - min (-1074 + (plc (rg a) : Int)) (-1074 + (plc (rg b) : Int))).toNat = x
  generalize hy : (-1074 + (plc (rg b) : Int) - min (-1074 + (plc (rg a) : Int)) (-1074 + (plc (rg b) : Int))).toNat = y
  have hx' : plc (rg a) = x + min (plc (rg a)) (plc (rg b)) := by omega
  have hy' : plc (rg b) = y + min (plc (rg a)) (plc (rg b)) := by omega
  generalize min (plc (rg a)) (plc (rg b)) = z at hx' hy'
  have ea : mv (rg a) = (mgn (rg a) <<< x) * 2 ^ z := by rw [mv, hx', Nat.pow_add, Nat.shiftLeft_eq, Nat.mul_assoc]
  have eb : mv (rg b) = (mgn (rg b) <<< y) * 2 ^ z := by rw [mv, hy', Nat.pow_add, Nat.shiftLeft_eq, Nat.mul_assoc]
  have hz := Nat.two_pow_pos z
  have l1 : (mgn (rg a) <<< x) < (mgn (rg b) <<< y) ↔ rg a < rg b := by
    rw [← mv_lt_iff (r := rg a), ea, eb]
    exact ⟨fun h => Nat.mul_lt_mul_of_pos_right h hz, fun h => Nat.lt_of_mul_lt_mul_right h⟩
  have l2 : (mgn (rg b) <<< y) < (mgn (rg a) <<< x) ↔ rg b < rg a := by
    rw [← mv_lt_iff (r := rg b), ea, eb]
    exact ⟨fun h => Nat.mul_lt_mul_of_pos_right h hz, fun h => Nat.lt_of_mul_lt_mul_right h⟩
  have z1 : mgn (rg a) <<< x = 0 ↔ rg a = 0 := by
    constructor
    · intro h
      rw [h, Nat.zero_mul, ← mv_zero] at ea
      rcases Nat.lt_or_ge 0 (rg a) with h' | h'
      · have := mv_lt h'; omega
      · omega
    · intro h
      rw [h, mv_zero] at ea
      rw [h]
      rcases Nat.eq_zero_or_pos (mgn 0 <<< x) with h' | h'
      · exact h'
      · have := Nat.mul_pos h' hz; omega
  have z2 : mgn (rg b) <<< y = 0 ↔ rg b = 0 := by
    constructor
    · intro h
      rw [h, Nat.zero_mul, ← mv_zero] at eb
      rcases Nat.lt_or_ge 0 (rg b) with h' | h'
      · have := mv_lt h'; omega
      · omega
    · intro h
      rw [h, mv_zero] at eb
      rw [h]
      rcases Nat.eq_zero_or_pos (mgn 0 <<< y) with h' | h'
      · exact h'
      · have := Nat.mul_pos h' hz; omega
  simp only [Ieee.signed]
  generalize mgn (rg a) <<< x = A at *
  generalize mgn (rg b) <<< y = B at *
  unfold sg
  refine cmpO_congr ?_ ?_
  · cases sn a <;> cases sn b <;> simp <;> omega
  · cases sn a <;> cases sn b <;> simp <;> omega

/-- The order of two words that are no NaN. -/
theorem ford_key {a b : Nat} (ha : rg a ≤ 9218868437227405312) (hb : rg b ≤ 9218868437227405312) : ford a b = some (cmpO (sg (sn a) (rg a)) (sg (sn b) (rg b))) := by
  rcases Nat.lt_or_ge (rg a) 9218868437227405312 with h1 | h1 <;> rcases Nat.lt_or_ge (rg b) 9218868437227405312 with h2 | h2
  · exact ford_number h1 h2
  · have h2' : rg b = 9218868437227405312 := by omega
    show Ieee.double.order a b = _
    simp only [Ieee.Format.order, read_number h1, read_inf h2', Ieee.Datum.order]
    congr 1
    rw [h2']
    unfold cmpO sg
    cases sn a <;> cases sn b <;> simp <;> (repeat' split) <;> first | rfl | omega
  · have h1' : rg a = 9218868437227405312 := by omega
    show Ieee.double.order a b = _
    simp only [Ieee.Format.order, read_number h2, read_inf h1', Ieee.Datum.order]
    congr 1
    rw [h1']
    unfold cmpO sg
    cases sn a <;> cases sn b <;> simp <;> (repeat' split) <;> first | rfl | omega
  · have h1' : rg a = 9218868437227405312 := by omega
    have h2' : rg b = 9218868437227405312 := by omega
    show Ieee.double.order a b = _
    simp only [Ieee.Format.order, read_inf h1', read_inf h2', Ieee.Datum.order]
    congr 1
    rw [h1', h2']
    cases sn a <;> cases sn b <;> decide
theorem ford_nan_l {a b : Nat} (ha : 9218868437227405312 < rg a) : ford a b = none := by
  obtain ⟨s, f, h⟩ := read_nan ha
  show Ieee.double.order a b = _
  simp only [Ieee.Format.order, h, Ieee.Datum.order]
theorem ford_nan_r {a b : Nat} (hb : 9218868437227405312 < rg b) : ford a b = none := by
  obtain ⟨s, f, h⟩ := read_nan hb
  show Ieee.double.order a b = _
  simp only [Ieee.Format.order, h]
  cases Ieee.double.read a <;> rfl

end Go.Dm
