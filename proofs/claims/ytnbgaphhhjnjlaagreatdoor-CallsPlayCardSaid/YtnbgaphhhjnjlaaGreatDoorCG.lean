import Derived.Test.YtnbgaphhhjnjlaaGreatDoorCA
import Derived.Test.YtnbgaphhhjnjlaaGreatDoorSU
import Derived.Test.YtnbgaphhhjnjlaaGreatDoorCH
import Derived.Test.YtnbgaphhhjnjlaaGreatDoorSE

section
/-
  A move and the move back. Conditions: the tree is right, the move goes.
-/

set_option linter.unusedSimpArgs false
set_option linter.unusedVariables false
namespace Go.Dm
open Go

end Go.Dm

end

section
/-
  What a call leaves: the tree is right; what is refused, and what only asks, turns nothing; a refusal bears nothing. No condition.
-/

set_option linter.unusedSimpArgs false
set_option linter.unusedVariables false
namespace Go.Dm
open Go

def GoodR (x : List It × Int) : Prop := x.2 = 0 → OkT x.1
theorem good_ite {c : Prop} [Decidable c] {a b : List It × Int} (ha : c → GoodR a) (hb : ¬ c → GoodR b) : GoodR (if c then a else b) := by
  split
  · exact ha (by assumption)
  · exact hb (by assumption)
theorem good_no {l : List It} {e : Int} (h : e ≠ 0) : GoodR (l, e) := fun he => absurd he h
theorem good_nob {l : List It} {e : Int} (h : (!(e == 0)) = true) : GoodR (l, e) := good_no (by simpa using h)
section
attribute [local irreducible] putR moveR makeP
theorem make_ok {t : List It} (h : OkT t) {p : List UInt8} {is : Bool} {kind : Int} {c : Cl} (hc : c.t < 18446744073709551616) : GoodR (makeP t p is kind c) := by
  unfold makeP
  repeat' refine good_ite (fun _ => ?_) fun _ => ?_
  all_goals first
    | (exact good_no (by decide))
    | exact fun he => h.put (show bitsF c.t < _ from bitsF_lt hc) he
theorem turned_ok {t : List It} (h : OkT t) {p : List UInt8} {is : Bool} {n : Nd} {c : Cl} (hn : n.t < 18446744073709551616) (hc : c.t < 18446744073709551616) : GoodR (turnedP t p is n c) := by
  have hb : bitsF c.t < 18446744073709551616 := bitsF_lt hc
  unfold turnedP rmdirP setP renameP writeP truncP
  repeat' refine good_ite (fun _ => ?_) fun _ => ?_
  all_goals first
    | exact make_ok h hc
    | (exact good_no (by decide))
    | (exact good_nob (by assumption))
    | exact fun _ => h
    | exact fun _ => h.remove _
    | exact fun he => h.put hb he
    | exact fun he => h.put (show n.t < _ from hn) he
    | exact fun he => (h.remove _).move he

end

theorem do_ok {t : List It} (h : OkT t) {c : Cl} (hc : c.t < 18446744073709551616) : OkT (doP t c).1 := by
  unfold doP
  split
  · exact h
  · split
    · exact h
    · split
      · exact h
      · split
        · rename_i h4
          refine turned_ok h ?_ hc (eq_of_beq h4)
          unfold nodeAt
          split
          · exact Nat.zero_lt_succ _
          · exact h.gett _
        · exact h

end Go.Dm

end

section
/-
  How long what a call answers is. Conditions: the tree is right.
-/

set_option linter.unusedSimpArgs false
set_option linter.unusedVariables false
namespace Go.Dm
open Go

theorem namesF_le (t : List It) (p : List UInt8) : (namesF t p).length ≤ t.length := by
  unfold namesF dirNames
  rw [List.length_mergeSort, List.length_map]
  exact List.length_filter_le ..

theorem asked_len {t : List It} (h : OkT t) {p : List UInt8} {is : Bool} {n : Nd} {c : Cl} (hn : n.d.length ≤ 2000) : (askedP t p is n c).d.length ≤ 2000 ∧ (askedP t p is n c).l.length ≤ 120 := by
  have h1 := namesF_le t p
  have h2 := h.len
  unfold askedP readC1
  repeat' split
  all_goals first
    | exact ⟨Nat.zero_le _, Nat.zero_le _⟩
    | exact ⟨Nat.zero_le _, Nat.le_trans h1 h2⟩
    | exact ⟨hn, Nat.zero_le _⟩
    | exact ⟨Nat.zero_le _, Nat.le_trans h1 h2⟩
    | exact ⟨by simp only [List.length_take, List.length_drop]; omega, Nat.zero_le _⟩
    | (refine ⟨?_, ?_⟩ <;> simp [anE]; done)

theorem answer_len {t : List It} (h : OkT t) {c : Cl} : (doP t c).2.d.length ≤ 2000 ∧ (doP t c).2.l.length ≤ 120 := by
  unfold doP
  split
  · exact ⟨Nat.zero_le _, Nat.zero_le _⟩
  · split
    · exact ⟨Nat.zero_le _, Nat.zero_le _⟩
    · split
      · refine asked_len h ?_
        unfold nodeAt
        split
        · exact Nat.zero_le _
        · exact h.getd _
      · split <;> exact ⟨Nat.zero_le _, Nat.zero_le _⟩
end Go.Dm

end
