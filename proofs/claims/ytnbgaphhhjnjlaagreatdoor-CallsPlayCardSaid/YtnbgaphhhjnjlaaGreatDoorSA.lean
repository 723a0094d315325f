/-
  Plain words of the first layers: numbers, nodes, paths, and their laws. No condition.
-/
import Derived.Test.YtnbgaphhhjnjlaaGreatDoorEB
import Derived.Test.YtnbgaphhhjnjlaaGreatDoorVA
set_option linter.unusedSimpArgs false
set_option linter.unusedVariables false

section
/-
  Floats of 64 bits by their order: how two words that are no NaN stand to each other is how their signed rungs do. No condition.
-/
namespace Go.Dm
open Go

/-- The rung of a word, and its sign. -/
def rg (w : Nat) : Nat := w % 9223372036854775808
def sn (w : Nat) : Bool := w / 9223372036854775808 % 2 == 1
def mgn (r : Nat) : Nat := if r < 4503599627370496 then r else 4503599627370496 + r % 4503599627370496
def plc (r : Nat) : Nat := if r < 4503599627370496 then 0 else r / 4503599627370496 - 1
def mv (r : Nat) : Nat := mgn r * 2 ^ plc r
def sg (s : Bool) (v : Nat) : Int := if s then -(v : Int) else v

theorem mv_succ (r : Nat) : mv r < mv (r + 1) := by
  unfold mv mgn plc
  by_cases h1 : r + 1 < 4503599627370496
  · rw [if_pos (by omega), if_pos (by omega), if_pos h1, if_pos h1]; simp
  · by_cases h2 : r < 4503599627370496
    · have : r + 1 = 4503599627370496 := by omega
      rw [if_pos h2, if_pos h2, this]; simp; omega
    · rw [if_neg h2, if_neg h2, if_neg h1, if_neg h1]
      have he : 1 ≤ r / 4503599627370496 := by omega
      by_cases h3 : r % 4503599627370496 + 1 < 4503599627370496
      · have e1 : (r + 1) / 4503599627370496 = r / 4503599627370496 := by omega
        have e2 : (r + 1) % 4503599627370496 = r % 4503599627370496 + 1 := by omega
        rw [e1, e2]
        exact Nat.mul_lt_mul_of_pos_right (by omega) (Nat.two_pow_pos _)
      · have e1 : (r + 1) / 4503599627370496 - 1 = (r / 4503599627370496 - 1) + 1 := by omega
        have e2 : (r + 1) % 4503599627370496 = 0 := by omega
        rw [e1, e2, Nat.pow_succ]
        have hp := Nat.two_pow_pos (r / 4503599627370496 - 1)
        generalize 2 ^ (r / 4503599627370496 - 1) = p at hp ⊢
        generalize hm : r % 4503599627370496 = m at h3
        have hm' : m < 4503599627370496 := by omega
        have : (4503599627370496 + m) * p < (4503599627370496 + 4503599627370496) * p := Nat.mul_lt_mul_of_pos_right (by omega) hp
        have e3 : (4503599627370496 + 0) * (p * 2) = (4503599627370496 + 4503599627370496) * p := by rw [Nat.add_zero, Nat.mul_comm p 2, ← Nat.mul_assoc]
        rw [e3]; exact this
theorem mv_lt {r q : Nat} (h : r < q) : mv r < mv q := by
  induction q with
  | zero => omega
  | succ q ih =>
    rcases Nat.lt_or_ge r q with h' | h'
    · exact Nat.lt_trans (ih h') (mv_succ q)
    · have : r = q := by omega
      subst this; exact mv_succ r
theorem mv_lt_iff {r q : Nat} : mv r < mv q ↔ r < q := by
  refine ⟨fun h => ?_, mv_lt⟩
  rcases Nat.lt_or_ge r q with h' | h'
  · exact h'
  · rcases Nat.eq_or_lt_of_le h' with h2 | h2
    · subst h2; omega
    · have := mv_lt h2; omega
theorem mv_zero : mv 0 = 0 := by decide

theorem read_number {w : Nat} (h : rg w < 9218868437227405312) : Ieee.double.read w = .number (sn w) (mgn (rg w)) (-1074 + (plc (rg w) : Int)) := by
  have e1 : Ieee.double.signWeight = 9223372036854775808 := by decide
  have e2 : Ieee.double.binade = 4503599627370496 := by decide
  have e3 : Ieee.double.infRung = 9218868437227405312 := by decide
  have e4 : Ieee.double.leastPlace = -1074 := by decide
  simp only [Ieee.Format.read, e1, e2, e3, e4]
  simp only [rg] at h ⊢
  unfold mgn plc sn
  by_cases h1 : w % 9223372036854775808 < 4503599627370496
  · simp only [if_pos h1]; rfl
  · simp only [if_neg h1, if_pos h]
theorem read_inf {w : Nat} (h : rg w = 9218868437227405312) : Ieee.double.read w = .infinity (sn w) := by
  have e1 : Ieee.double.signWeight = 9223372036854775808 := by decide
  have e2 : Ieee.double.binade = 4503599627370496 := by decide
  have e3 : Ieee.double.infRung = 9218868437227405312 := by decide
  simp only [Ieee.Format.read, e1, e2, e3]
  simp only [rg] at h
  rw [h]
  rfl
theorem read_nan {w : Nat} (h : 9218868437227405312 < rg w) : ∃ s f, Ieee.double.read w = .nan s f := by
  have e1 : Ieee.double.signWeight = 9223372036854775808 := by decide
  have e2 : Ieee.double.binade = 4503599627370496 := by decide
  have e3 : Ieee.double.infRung = 9218868437227405312 := by decide
  simp only [Ieee.Format.read, e1, e2, e3]
  simp only [rg] at h
  rw [if_neg (by omega), if_neg (by omega), if_neg (by omega)]
  exact ⟨_, _, rfl⟩

def cmpO (a b : Int) : Ordering := if a < b then .lt else if a = b then .eq else .gt
theorem compare_int (a b : Int) : compare a b = cmpO a b := rfl
theorem cmpO_congr {a b c d : Int} (h1 : a < b ↔ c < d) (h2 : a = b ↔ c = d) : cmpO a b = cmpO c d := by
  unfold cmpO
  by_cases x : a < b
  · rw [if_pos x, if_pos (h1.1 x)]
  · rw [if_neg x, if_neg (fun h => x (h1.2 h))]
    by_cases y : a = b
    · rw [if_pos y, if_pos (h2.1 y)]
    · rw [if_neg y, if_neg (fun h => y (h2.2 h))]

theorem ford_number {a b : Nat} (ha : rg a < 9218868437227405312) (hb : rg b < 9218868437227405312) : ford a b = some (cmpO (sg (sn a) (rg a)) (sg (sn b) (rg b))) := by
  show Ieee.double.order a b = _
  simp only [Ieee.Format.order, read_number ha, read_number hb, Ieee.Datum.order, compare_int]
  congr 1
  generalize hx : (-1074 + (plc (rg a) : Int) - min (-1074 + (plc (rg a) : Int)) (-1074 + (plc (rg b) : Int))).toNat = x
  generalize hy : (-1074 + (plc (rg b) : Int) - min (-1074 + (plc (rg a) : Int)) (-1074 + (plc (rg b) : Int))).toNat = y
  have hx' : plc (rg a) = x + min (plc (rg a)) (plc (rg b)) := by omega
  have hy' : plc (rg b) = y + min (plc (rg a)) (plc (rg b)) := by omega
  generalize min (plc (rg a)) (plc (rg b)) = z at hx' hy'
  have ea : mv (rg a) = (mgn (rg a) <<< x) * 2 ^ z := by rw [mv, hx', Nat.pow_add, Nat.shiftLeft_eq, Nat.mul_assoc]
  have eb : mv (rg b) = (mgn (rg b) <<< y) * 2 ^ z := by rw [mv, hy', Nat.pow_add, Nat.shiftLeft_eq, Nat.mul_assoc]
  have hz := Nat.two_pow_pos z
  have l1 : (mgn (rg a) <<< x) < (mgn (rg b) <<< y) ↔ rg a < rg b := by
    rw [← mv_lt_iff (r := rg a), ea, eb]
    exact ⟨fun h => Nat.mul_lt_mul_of_pos_right h hz, fun h => Nat.lt_of_mul_lt_mul_right h⟩
  have l2 : (mgn (rg b) <<< y) < (mgn (rg a) <<< x) ↔ rg b < rg a := by
    rw [← mv_lt_iff (r := rg b), ea, eb]
    exact ⟨fun h => Nat.mul_lt_mul_of_pos_right h hz, fun h => Nat.lt_of_mul_lt_mul_right h⟩
  have z1 : mgn (rg a) <<< x = 0 ↔ rg a = 0 := by
    constructor
    · intro h
      rw [h, Nat.zero_mul, ← mv_zero] at ea
      rcases Nat.lt_or_ge 0 (rg a) with h' | h'
      · have := mv_lt h'; omega
      · omega
    · intro h
      rw [h, mv_zero] at ea
      rw [h]
      rcases Nat.eq_zero_or_pos (mgn 0 <<< x) with h' | h'
      · exact h'
      · have := Nat.mul_pos h' hz; omega
  have z2 : mgn (rg b) <<< y = 0 ↔ rg b = 0 := by
    constructor
    · intro h
      rw [h, Nat.zero_mul, ← mv_zero] at eb
      rcases Nat.lt_or_ge 0 (rg b) with h' | h'
      · have := mv_lt h'; omega
      · omega
    · intro h
      rw [h, mv_zero] at eb
      rw [h]
      rcases Nat.eq_zero_or_pos (mgn 0 <<< y) with h' | h'
      · exact h'
      · have := Nat.mul_pos h' hz; omega
  simp only [Ieee.signed]
  generalize mgn (rg a) <<< x = A at *
  generalize mgn (rg b) <<< y = B at *
  unfold sg
  refine cmpO_congr ?_ ?_
  · cases sn a <;> cases sn b <;> simp <;> omega
  · cases sn a <;> cases sn b <;> simp <;> omega

/-- The order of two words that are no NaN. -/
theorem ford_key {a b : Nat} (ha : rg a ≤ 9218868437227405312) (hb : rg b ≤ 9218868437227405312) : ford a b = some (cmpO (sg (sn a) (rg a)) (sg (sn b) (rg b))) := by
  rcases Nat.lt_or_ge (rg a) 9218868437227405312 with h1 | h1 <;> rcases Nat.lt_or_ge (rg b) 9218868437227405312 with h2 | h2
  · exact ford_number h1 h2
  · have h2' : rg b = 9218868437227405312 := by omega
    show Ieee.double.order a b = _
    simp only [Ieee.Format.order, read_number h1, read_inf h2', Ieee.Datum.order]
    congr 1
    rw [h2']
    unfold cmpO sg
    cases sn a <;> cases sn b <;> simp <;> (repeat' split) <;> first | rfl | omega
  · have h1' : rg a = 9218868437227405312 := by omega
    show Ieee.double.order a b = _
    simp only [Ieee.Format.order, read_number h2, read_inf h1', Ieee.Datum.order]
    congr 1
    rw [h1']
    unfold cmpO sg
    cases sn a <;> cases sn b <;> simp <;> (repeat' split) <;> first | rfl | omega
  · have h1' : rg a = 9218868437227405312 := by omega
    have h2' : rg b = 9218868437227405312 := by omega
    show Ieee.double.order a b = _
    simp only [Ieee.Format.order, read_inf h1', read_inf h2', Ieee.Datum.order]
    congr 1
    rw [h1', h2']
    cases sn a <;> cases sn b <;> decide
theorem ford_nan_l {a b : Nat} (ha : 9218868437227405312 < rg a) : ford a b = none := by
  obtain ⟨s, f, h⟩ := read_nan ha
  show Ieee.double.order a b = _
  simp only [Ieee.Format.order, h, Ieee.Datum.order]
end Go.Dm
end

section
/-
  What the functions on numbers compute, in plain words; that the program's order of numbers is the document's. No condition beyond words of 64 bits.
-/
namespace Go.Dm
open Go

def isNaN (x : Nat) : Bool := ford x x != some .eq
def theNaN : Nat := 9221120237041090561
def bitsF (x : Nat) : Nat := if isNaN x then theNaN else x
theorem cmpO_self (a : Int) : cmpO a a = .eq := by unfold cmpO; rw [if_neg (by omega), if_pos rfl]
theorem isNaN_iff (x : Nat) : isNaN x = decide (9218868437227405312 < rg x) := by
  unfold isNaN
  rcases Nat.lt_or_ge 9218868437227405312 (rg x) with h | h
  · rw [ford_nan_l h, decide_eq_true h]; rfl
  · rw [ford_key h h, cmpO_self, decide_eq_false (by omega)]; rfl
theorem isNaN_the : isNaN theNaN = true := by rw [isNaN_iff]; decide
theorem bitsF_lt {x : Nat} (h : x < 18446744073709551616) : bitsF x < 18446744073709551616 := by
  unfold bitsF; split
  · decide
  · exact h
theorem bitsF_idem (x : Nat) : bitsF (bitsF x) = bitsF x := by
  unfold bitsF
  by_cases h : isNaN x = true
  · rw [if_pos h, if_pos isNaN_the]
  · rw [if_neg h, if_neg h]
end Go.Dm
end

section
/-
  What the functions on nodes compute, in plain words. No condition.
-/
namespace Go.Dm
open Go

/-- A node. -/
structure Nd where
  k : Int
  m : Int
  t : Nat
  d : List UInt8
abbrev ndc (k m : Int) (t : Nat) (d : List UInt8) : List CV := [.p (.i .i64 k), .p (.i .i64 m), .p (.f t), .p (.sl 1 (encB d))]
abbrev Nd.cv (x : Nd) : List CV := [.p (.i .i64 x.k), .p (.i .i64 x.m), .p (.f x.t), .p (.sl 1 (encB x.d))]
attribute [go_sem] Nd.cv ndc
theorem nd_eta (x : Nd) : Nd.mk x.k x.m x.t x.d = x := rfl
attribute [go_sem] nd_eta
def sameNd (x y : Nd) : Bool := x.k == y.k && x.m == y.m && x.d == y.d && (bitsF x.t == bitsF y.t)
def Nd.ok (x : Nd) : Prop := x.d.length ≤ 140737488355328
def nd0 : Nd := ⟨0, 0, 0, []⟩
end Go.Dm
end

section
/-
  What the functions that draw nodes compute, in plain words. No condition.
-/
namespace Go.Dm
open Go

def namesL : List (List UInt8) := [[97], [98], [99], [100, 46, 101], [102, 45, 49], [255]]
def nameF (n : Int) : List UInt8 := namesL.getD (n % 6).toNat []
def pathL : Nat → Int → List UInt8 → List UInt8
  | 0, _, p => p
  | k + 1, n, p => pathL k (n / 7) (p ++ 47 :: nameF (n / 7))
def pathF (n : Int) : List UInt8 := pathL (n % 1073741824 / 6 % 3).toNat (n % 1073741824) (nameF (n % 1073741824))
def timesL : List Nat := [0, 9223372036854775808, 4607182418800017408, 13830554455654793216, 9218868437227405312, 18442240474082181120, 9221120237041090561, 4612811918334230528, 1, 9223372036854775809, 9218868437227405311, 18444492273895866373]
def timeF (n : Int) (x : Nat) : Nat := if n % 15 < 12 then timesL.getD (n % 15).toNat 0 else x
/-- A raw node. -/
structure RN where
  k : Int
  m : Int
  t : Int
  x : Nat
  d : List UInt8
abbrev rnc (k m t : Int) (x : Nat) (d : List UInt8) : List CV := [.p (.i .i64 k), .p (.i .i64 m), .p (.i .i64 t), .p (.f x), .p (.sl 1 (encB d))]
attribute [go_sem] rnc
def linkF (m : Int) : List UInt8 :=
  let a := if m.tmod 4 == 0 then [46, 46, 47] ++ pathF m else pathF m
  if m.tmod 5 == 0 then [47] ++ a else a
def nodeD (x : RN) : List UInt8 := if 1 + x.k % 3 == 1 then x.d.take 60 else if 1 + x.k % 3 == 3 then linkF x.m else []
def nodeF (x : RN) : Nd := ⟨1 + x.k % 3, x.m % 4096, bitsF (timeF x.t x.x), nodeD x⟩
theorem tmod_pos {n m : Int} (hm : 0 < m) (h : ¬ n.tmod m < 0) : n.tmod m = n % m := by
  rw [Int.tmod_eq_emod] at h ⊢
  split
  · simp
  · rename_i hc
    rw [if_neg hc] at h
    have := Int.emod_lt_of_pos n hm
    omega
theorem tmod_neg {n m : Int} (hm : 0 < m) (h : n.tmod m < 0) : n.tmod m + m = n % m := by
  rw [Int.tmod_eq_emod] at h ⊢
  split
  · rename_i hc
    rw [if_pos hc] at h
    have := Int.emod_nonneg n (show m ≠ 0 by omega)
    omega
  · omega
theorem nameF_len (n : Int) : (nameF n).length ≤ 3 := by
  unfold nameF
  have h1 := Int.emod_nonneg n (show (6 : Int) ≠ 0 by decide)
  have h2 := Int.emod_lt_of_pos n (show (0 : Int) < 6 by decide)
  generalize n % 6 = k at h1 h2
  have : k = 0 ∨ k = 1 ∨ k = 2 ∨ k = 3 ∨ k = 4 ∨ k = 5 := by omega
  rcases this with rfl | rfl | rfl | rfl | rfl | rfl <;> decide
theorem pathL_len : ∀ (k : Nat) (n : Int) (p : List UInt8), (pathL k n p).length ≤ p.length + 4 * k
  | 0, _, _ => by simp [pathL]
  | k + 1, n, p => by
    have h1 := pathL_len k (n / 7) (p ++ 47 :: nameF (n / 7))
    have h2 := nameF_len (n / 7)
    simp only [pathL, List.length_append, List.length_cons] at h1 ⊢
    omega
theorem pathF_len (n : Int) : (pathF n).length ≤ 11 := by
  have h1 := pathL_len (n % 1073741824 / 6 % 3).toNat (n % 1073741824) (nameF (n % 1073741824))
  have h2 := nameF_len (n % 1073741824)
  unfold pathF
  omega
theorem linkF_len (m : Int) : (linkF m).length ≤ 15 := by
  have := pathF_len m
  unfold linkF
  simp only
  split <;> split <;> simp <;> omega
theorem nodeD_len (x : RN) : (nodeD x).length ≤ 60 := by
  unfold nodeD
  have := linkF_len x.m
  split
  · simp; omega
  · split
    · omega
    · simp
end Go.Dm
end

section
/-
  That the program's merge of nodes is the document's. No condition beyond times that are words of 64 bits.
-/
namespace Go.Dm
open Go

def Nd.wf (x : Nd) : Prop := x.t < 18446744073709551616

theorem sameNd_refl (x : Nd) : sameNd x x = true := by simp [sameNd]
theorem timeF_lt {n : Int} {x : Nat} (hx : x < 18446744073709551616) : timeF n x < 18446744073709551616 := by
  unfold timeF
  split
  · rename_i h
    have h1 := Int.emod_nonneg n (show (15 : Int) ≠ 0 by decide)
    generalize n % 15 = k at h h1
    have : k = 0 ∨ k = 1 ∨ k = 2 ∨ k = 3 ∨ k = 4 ∨ k = 5 ∨ k = 6 ∨ k = 7 ∨ k = 8 ∨ k = 9 ∨ k = 10 ∨ k = 11 := by omega
    rcases this with rfl | rfl | rfl | rfl | rfl | rfl | rfl | rfl | rfl | rfl | rfl | rfl <;> decide
  · exact hx
theorem nodeF_wf {x : RN} (hx : x.x < 18446744073709551616) : (nodeF x).wf := bitsF_lt (timeF_lt hx)
/-! Nodes that differ by their time alone. -/
end Go.Dm
end

section
/-
  Trees as lists, and what the document's functions on them compute, in plain words. No condition.
-/
namespace Go.Dm
open Go

/-- An item of a tree. -/
structure It where
  p : List UInt8
  n : Nd
def It.cs (x : It) : List PV := [.s x.p, .i .i64 x.n.k, .i .i64 x.n.m, .f x.n.t, .sl 1 (encB x.n.d)]
def encT (t : List It) : List (List PV) := t.map It.cs
theorem encT_len (t : List It) : (encT t).length = t.length := by simp [encT]
theorem encT_nil : encT [] = [] := rfl
theorem encT_app (a b : List It) : encT a ++ encT b = encT (a ++ b) := by simp [encT]
theorem encT_take (a : List It) (n : Nat) : (encT a).take n = encT (a.take n) := by simp [encT]
theorem encT_drop (a : List It) (n : Nat) : (encT a).drop n = encT (a.drop n) := by simp [encT]
theorem encT_one (t : List It) : (∀ x ∈ encT t, x.length = 5) = True := eq_true fun x hx => by
  simp only [encT, List.mem_map] at hx
  obtain ⟨y, _, rfl⟩ := hx
  rfl
theorem encT_at {t : List It} {k : Nat} {x : It} (h : t[k]? = some x) : (encT t).getD k [] = [.s x.p, .i .i64 x.n.k, .i .i64 x.n.m, .f x.n.t, .sl 1 (encB x.n.d)] := by
  simp only [encT, List.getD_eq_getElem?_getD, List.getElem?_map, h]
  rfl
theorem encT_snoc (t : List It) (p : List UInt8) (k m : Int) (tt : Nat) (d : List UInt8) : encT t ++ [[.s p, .i .i64 k, .i .i64 m, .f tt, .sl 1 (encB d)]] = encT (t ++ [⟨p, ⟨k, m, tt, d⟩⟩]) := by simp [encT, It.cs]
theorem it_eta (x : It) : It.mk x.p x.n = x := rfl
attribute [go_sem] encT_len encT_nil encT_app encT_take encT_drop encT_one encT_snoc it_eta Nat.sub_zero
theorem drop_at {α : Type} {l : List α} {k : Nat} {x : α} (h : l[k]? = some x) : l.drop k = x :: l.drop (k + 1) := by
  have := List.getElem?_eq_some_iff.1 h
  obtain ⟨h1, h2⟩ := this
  rw [← h2]; exact List.drop_eq_getElem_cons h1

def belowR (p q : List UInt8) : Bool := if p == [] then !(q == []) else (decide ((q.length : Int) > p.length + 1) && q.take (p.length + 1) == p ++ [47]) || (decide ((q.length : Int) = p.length + 1) && q == p ++ [47])
def noneBelow (t : List It) (p : List UInt8) : List It := t.filter fun x => !belowR p x.p

/-! Paths. -/
def lastSlash (p : List UInt8) : Nat → Option Nat
  | 0 => none
  | j + 1 => if ((p.getD j 0).toNat : Int) == 47 then some j else lastSlash p j
def dirOfR (p : List UInt8) : List UInt8 := match lastSlash p p.length with
  | some j => p.take j
  | none => []
def okByte (b : UInt8) : Bool := !(((b.toNat : Int) == 0) || ((b.toNat : Int) == 47))
def rightNameR (s : List UInt8) : Bool := s.all okByte && (decide ((1 : Int) ≤ s.length) && decide ((s.length : Int) ≤ 24) && !(s == [46]) && !(s == [46, 46]))
def cutL : List UInt8 → List UInt8 → List (List UInt8)
  | w, [] => [w]
  | w, b :: r => if ((b.toNat : Int) == 47) then w :: cutL [] r else cutL (w ++ [b]) r
def cutR (s : List UInt8) : List (List UInt8) := cutL [] s
def isPathR (p : List UInt8) : Bool := p == [] || ((cutR p).all rightNameR && decide ((p.length : Int) ≤ 120))
def encS (l : List (List UInt8)) : List (List PV) := l.map fun s => [.s s]
theorem encS_len (t : List (List UInt8)) : (encS t).length = t.length := by simp [encS]
theorem encS_nil : encS [] = [] := rfl
theorem encS_app (a b : List (List UInt8)) : encS a ++ encS b = encS (a ++ b) := by simp [encS]
theorem encS_take (a : List (List UInt8)) (n : Nat) : (encS a).take n = encS (a.take n) := by simp [encS]
theorem encS_drop (a : List (List UInt8)) (n : Nat) : (encS a).drop n = encS (a.drop n) := by simp [encS]
theorem encS_one (t : List (List UInt8)) : (∀ x ∈ encS t, x.length = 1) = True := eq_true fun x hx => by
  simp only [encS, List.mem_map] at hx
  obtain ⟨y, _, rfl⟩ := hx
  rfl
theorem encS_at {t : List (List UInt8)} {k : Nat} {x : List UInt8} (h : t[k]? = some x) : (encS t).getD k [] = [.s x] := by
  simp only [encS, List.getD_eq_getElem?_getD, List.getElem?_map, h]
  rfl
theorem encS_snoc (t : List (List UInt8)) (p : List UInt8) : encS t ++ [[.s p]] = encS (t ++ [p]) := by simp [encS]
attribute [go_sem] encS_len encS_nil encS_app encS_take encS_drop encS_one encS_snoc
theorem getD_at {l : List UInt8} {k : Nat} {x : UInt8} (h : l[k]? = some x) : l.getD k 0 = x := by simp [List.getD_eq_getElem?_getD, h]
theorem one_at {l : List UInt8} {k : Nat} {x : UInt8} (h : l[k]? = some x) : (l.take (k + 1)).drop k = [x] := by
  have := List.getElem?_eq_some_iff.1 h
  obtain ⟨h1, rfl⟩ := this
  rw [List.take_succ_eq_append_getElem h1, List.drop_append_of_le_length (by simp; omega)]
  simp
theorem cutL_len : ∀ (s w : List UInt8), (cutL w s).length ≤ s.length + 1
  | [], w => by simp [cutL]
  | b :: r, w => by
    simp only [cutL]
    split
    · have := cutL_len r []; simp; omega
    · have := cutL_len r (w ++ [b]); simp; omega
theorem cutL_mem : ∀ (s w : List UInt8) (x : List UInt8), x ∈ cutL w s → x.length ≤ w.length + s.length
  | [], w, x, h => by simp [cutL] at h; subst h; simp
  | b :: r, w, x, h => by
    simp only [cutL] at h
    split at h
    · rcases List.mem_cons.1 h with rfl | h
      · simp
      · have := cutL_mem r [] x h; simp at this ⊢; omega
    · have := cutL_mem r (w ++ [b]) x h; simp at this ⊢; omega

/-! Trees. -/
def getR : List It → List UInt8 → Option Nd
  | [], _ => none
  | x :: r, p => if x.p == p then some x.n else getR r p
def isDirR (t : List It) (p : List UInt8) : Bool := p == [] || (match getR t p with
  | some n => n.k == 2
  | none => false)
def setL (p : List UInt8) (n : Nd) : Bool → List It → List It
  | done, [] => if done then [] else [⟨p, n⟩]
  | done, x :: r => (if !done && !bltL x.p p then [⟨p, n⟩] else []) ++ ((if !(x.p == p) then [x] else []) ++ setL p n (done || !bltL x.p p) r)
def setR (t : List It) (p : List UInt8) (n : Nd) : List It := setL p n false t
def dropR (t : List It) (p : List UInt8) : List It := t.filter fun x => !(x.p == p)
def removeR (t : List It) (p : List UInt8) : List It := dropR (noneBelow t p) p
theorem encB_at {t : List UInt8} {k : Nat} {x : UInt8} (h : t[k]? = some x) : (encB t).getD k [] = [.i .u8 x.toNat] := by
  simp only [encB, List.getD_eq_getElem?_getD, List.getElem?_map, h]
  rfl
def targetR (b : List UInt8) : Bool := b.all (fun b => !((b.toNat : Int) == 0)) && (decide ((1 : Int) ≤ b.length) && decide ((b.length : Int) ≤ 120))

/-! Numbers given by figures; bytes of a number. -/
theorem wrap_i64_lit (n : Nat) (h : n < 9223372036854775808) : IntKind.i64.wrap (no_index (OfNat.ofNat n)) = OfNat.ofNat n := wrap_i64 (by show _ ≤ (n : Int); omega) (by show (n : Int) ≤ _; omega)
theorem wrap_u64_lit (n : Nat) (h : n < 9223372036854775808) : IntKind.u64.wrap (no_index (OfNat.ofNat n)) = OfNat.ofNat n := wrap_u64 (by show _ ≤ (n : Int); omega) (by show (n : Int) ≤ _; omega)
theorem wrap_i64_m1 : IntKind.i64.wrap (-1) = -1 := wrap_i64 (by decide) (by decide)
theorem wrap_u8_lo (z : Int) : (0 ≤ IntKind.u8.wrap z) = True := eq_true (by
  simp only [IntKind.wrap, IntKind.bits, IntKind.signed, Bool.false_and]
  split <;> rename_i h
  · simp at h
  · exact Int.emod_nonneg _ (by decide))
theorem wrap_u8_hi (z : Int) : (IntKind.u8.wrap z ≤ 255) = True := eq_true (by
  simp only [IntKind.wrap, IntKind.bits, IntKind.signed, Bool.false_and]
  split <;> rename_i h
  · simp at h
  · have := Int.emod_lt_of_pos z (show (0 : Int) < 2 ^ 8 by decide); omega)
attribute [go_sem] wrap_u8_lo wrap_u8_hi
def byteF (x : Nat) (k : Nat) : UInt8 := UInt8.ofNat (IntKind.u8.wrap ((x : Int).fdiv (2 ^ k))).toNat
def bytesF (x : Nat) : List UInt8 := [byteF x 56, byteF x 48, byteF x 40, byteF x 32, byteF x 24, byteF x 16, byteF x 8, byteF x 0]
def plainR (x : Nat) : Bool := bytesF x == bytesF (bitsF x)
def rightNodeR (n : Nd) : Bool := !(decide (n.m < 0) || decide (4095 < n.m) || !plainR n.t) && (if n.k == 1 then decide ((n.d.length : Int) ≤ 2000) else if n.k == 2 then (n.d.length : Int) == 0 else if n.k == 3 then targetR n.d else false)
def putR (t : List It) (p : List UInt8) (n : Nd) : List It × Int :=
  if p == [] || !isPathR p || !rightNodeR n then ([], 1) else if !isDirR t (dirOfR p) then ([], 9)
  else if decide ((120 : Int) < (setR (if n.k != 2 then noneBelow t p else t) p n).length) then ([], 16) else (setR (if n.k != 2 then noneBelow t p else t) p n, 0)
theorem setL_len (p : List UInt8) (n : Nd) : ∀ (t : List It) (d : Bool), (setL p n d t).length ≤ t.length + (if d then 0 else 1)
  | [], d => by cases d <;> simp [setL]
  | x :: r, d => by
    have h := setL_len p n r (d || !bltL x.p p)
    simp only [setL, List.length_append, List.length_cons]
    cases d <;> cases hb : bltL x.p p <;> cases hp : x.p == p <;> simp [hb] at h ⊢ <;> omega
theorem setR_len (t : List It) (p : List UInt8) (n : Nd) : (setR t p n).length ≤ t.length + 1 := setL_len p n t false
theorem noneBelow_len (t : List It) (p : List UInt8) : (noneBelow t p).length ≤ t.length := List.length_filter_le ..
theorem removeR_len (t : List It) (p : List UInt8) : (removeR t p).length ≤ t.length := Nat.le_trans (List.length_filter_le ..) (noneBelow_len t p)
def moveL (a b : List UInt8) : List It → List It → List It × Int
  | out, [] => (out, 0)
  | out, x :: r => if !(x.p == a) && !belowR a x.p then moveL a b out r else if decide ((120 : Int) < (b.length + (x.p.drop a.length).length : Nat)) then ([], 12) else moveL a b (setR out (b ++ x.p.drop a.length) x.n) r
def moveR (t : List It) (a b : List UInt8) : List It × Int :=
  if a == [] || b == [] || !isPathR a || !isPathR b then ([], 1) else if !(getR t a).isSome then ([], 6) else if belowR a b then ([], 18) else if (getR t b).isSome then ([], 7) else if !isDirR t (dirOfR b) then ([], 9) else moveL a b (removeR t a) t
theorem belowR_len {a q : List UInt8} (h : belowR a q = true) : a.length ≤ q.length := by
  unfold belowR at h
  split at h
  · rename_i h1; have h1 := eq_of_beq h1; subst h1; simp
  · simp only [Bool.or_eq_true, Bool.and_eq_true, decide_eq_true_eq] at h
    omega

/-! A function without results: all that it made stays. -/
def vpostK (R : DV → DHeap → Prop) : Exit → DS → Prop
  | .normal, s => R (.tup []) s.h
  | .ret, s => R (.tup []) s.h
  | _, _ => False
theorem vpostK_n {R : DV → DHeap → Prop} {s : DS} : vpostK R .normal s = R (.tup []) s.h := nr rfl
theorem vpostK_r {R : DV → DHeap → Prop} {s : DS} : vpostK R .ret s = R (.tup []) s.h := nr rfl
theorem entK {P : Program} {T : Tab} (hT : TabOK P T) (hm : P.follows .mixedOrders = true) {f : FuncId} {fn : Func} {c : Code} {args : List DV} {h : DHeap} {R : DV → DHeap → Prop} (hf : P.funcs[f]? = some fn) (hb : fn.body = some c)
    (hc : (Nat.ble args.length fn.ntmps && (!(fn.name == "runtime.NumGoroutine") && fn.results.toList.isEmpty)) = true)
    (hs : ∀ X0 : Ctx, X0.h = h → vc P T X0 c ⟨fn.ntmps, frameAt 0 args, h⟩ (vpostK R)) : DCalls P f args h R := by
  simp only [Bool.and_eq_true, Bool.not_eq_true', List.isEmpty_iff] at hc
  refine dcalls_of_swp hT hf hb (Nat.le_of_ble_eq_true hc.1) hc.2.1 fun X0 hX => ?_
  rw [frameAt_zip, hc.2.2]
  refine swp_mono (vc_sound hT hm c (hs X0 hX)) fun e s h => ?_
  cases e <;> simp only [vpostK, dpost] at h ⊢
  case normal => exact .inl h
  case ret => exact .inl h
attribute [go_sem] vpostK_n vpostK_r
end Go.Dm
end
