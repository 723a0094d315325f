/-
  Calls drawn from raw ones: as functions; how long what they hold is. No condition.
-/
import Derived.Test.YtnbgaphhhjnjlaaGreatDoorCD
set_option linter.unusedSimpArgs false
set_option linter.unusedVariables false
namespace Go.Dm
open Go

structure RC where
  k : Int
  p : Int
  to' : Int
  m : Int
  t : Int
  at' : Int
  n : Int
  how : Int
  x : Nat
  d : List UInt8
  s : List UInt8
def RC.cs (x : RC) : List PV := [.i .i64 x.k, .i .i64 x.p, .i .i64 x.to', .i .i64 x.m, .i .i64 x.t, .i .i64 x.at', .i .i64 x.n, .i .i64 x.how, .f x.x, .sl 1 (encB x.d), .s x.s]
def encRC (l : List RC) : List (List PV) := l.map RC.cs
theorem encRC_len (l : List RC) : (encRC l).length = l.length := by simp [encRC]
attribute [go_sem] encRC_len
theorem encRC_at {t : List RC} {k : Nat} {x : RC} (h : t[k]? = some x) : (encRC t).getD k [] = [.i .i64 x.k, .i .i64 x.p, .i .i64 x.to', .i .i64 x.m, .i .i64 x.t, .i .i64 x.at', .i .i64 x.n, .i .i64 x.how, .f x.x, .sl 1 (encB x.d), .s x.s] := by
  simp only [encRC, List.getD_eq_getElem?_getD, List.getElem?_map, h]
  rfl

def saidF (n how : Int) (s : List UInt8) : List UInt8 :=
  if how % 24 == 0 then 47 :: pathF n else if how % 24 == 1 then pathF n ++ [47] else if how % 24 == 2 then 46 :: 47 :: pathF n
  else if how % 24 == 3 then pathF n ++ [47, 46, 46] else if how % 24 == 4 then pathF n ++ [47, 46, 46, 47] ++ nameF n else if how % 24 == 5 then pathF n ++ [47, 46]
  else if how % 24 == 6 then s else if how % 24 == 7 then [47] else if how % 24 == 8 then nameF n ++ [47, 47] ++ nameF (IntKind.i64.wrap (n.tdiv 6)) else pathF n
theorem saidF_len {n how : Int} {s : List UInt8} {b : Nat} (hb : 100 ≤ b) (hs : s.length ≤ b) : (saidF n how s).length ≤ b := by
  have h1 := pathF_len n
  have h2 := nameF_len n
  have h3 := nameF_len (IntKind.i64.wrap (n.tdiv 6))
  unfold saidF
  repeat' split
  all_goals first | (simp only [List.length_append, List.length_cons, List.length_nil]; omega) | omega

/-- The call of kind k that is drawn. -/
def callF (k : Int) (x : RC) : Cl where
  k := k
  p := saidF x.p x.how x.s
  to' := if k == 9 then saidF x.to' (IntKind.i64.wrap (x.how.tdiv 24)) x.s else []
  m := if k == 1 || k == 2 || k == 10 then x.m % 4099 - 1 else 0
  t := if k == 1 || k == 2 || k == 7 || k == 11 then timeF x.t x.x else 0
  at' := if k == 3 || k == 14 then x.at' % 30 - 1 else 0
  n := if k == 4 || k == 14 then x.n % 40 - 1 else 0
  d := if k == 2 || k == 3 then (if x.n.tmod 67 == 66 then List.replicate (1980 + (x.at' % 40).toNat) 0 else x.d.take 60) else if k == 7 then (if x.n.tmod 17 == 16 then x.d.take 200 else linkF x.to') else []

/-- What any call must be that Do is called with. -/
structure OkC (c : Cl) : Prop where
  p : c.p.length ≤ 9223372036854775807
  q : c.to'.length ≤ 9223372036854775807
  t : c.t < 18446744073709551616
  d : c.d.length ≤ 140737488355328
  a : -9223372036854775808 ≤ c.at' ∧ c.at' ≤ 9223372036854775807
theorem callF_ok {k : Int} {x : RC} (hs : x.s.length ≤ 9223372036854775807) (hx : x.x < 18446744073709551616) : OkC (callF k x) := by
  have a1 := Int.emod_nonneg x.at' (show (30 : Int) ≠ 0 by decide)
  have a2 := Int.emod_lt_of_pos x.at' (show (0 : Int) < 30 by decide)
  have a3 := Int.emod_nonneg x.at' (show (40 : Int) ≠ 0 by decide)
  have a4 := Int.emod_lt_of_pos x.at' (show (0 : Int) < 40 by decide)
  refine ⟨saidF_len (by omega) hs, ?_, ?_, ?_, ?_⟩
  · simp only [callF]
    split
    · exact saidF_len (by omega) hs
    · simp
  · simp only [callF]
    split
    · exact timeF_lt hx
    · omega
  · have := linkF_len x.to'
    simp only [callF]
    repeat' split
    all_goals first | (simp only [List.length_replicate]; omega) | (simp only [List.length_take]; omega) | omega | simp
  · simp only [callF]
    split <;> omega

theorem kSplit (k : Int) : k = 1 ∨ k = 2 ∨ k = 3 ∨ k = 4 ∨ k = 7 ∨ k = 9 ∨ k = 10 ∨ k = 11 ∨ k = 14 ∨
    ((k == 1) = false ∧ (k == 2) = false ∧ (k == 3) = false ∧ (k == 4) = false ∧ (k == 7) = false ∧ (k == 9) = false ∧ (k == 10) = false ∧ (k == 11) = false ∧ (k == 14) = false) := by
  simp only [beq_eq_false_iff_ne]
  omega
end Go.Dm
