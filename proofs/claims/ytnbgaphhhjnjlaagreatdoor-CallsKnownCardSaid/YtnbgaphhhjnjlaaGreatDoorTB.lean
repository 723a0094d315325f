/-
  Texts put in order one by one. No program in sight.
-/
import Derived.Test.YtnbgaphhhjnjlaaGreatDoorSC
set_option linter.unusedSimpArgs false
set_option linter.unusedVariables false
namespace Go.Dm
open Go
def sortS (l : List (List UInt8)) : List (List UInt8) := l.mergeSort fun x y => decide (x ≤ y)
theorem sortS_perm (l : List (List UInt8)) : (sortS l).Perm l := List.mergeSort_perm _ _
theorem sortS_sorted (l : List (List UInt8)) : (sortS l).Pairwise fun x y => bltL y x = false :=
  (sorted_paths l).imp fun {a b} h => by rw [leS_blt] at h; simpa using h
theorem sortS_unique {l m : List (List UInt8)} (hp : m.Perm l) (hs : m.Pairwise fun x y => bltL y x = false) : m = sortS l :=
  List.Perm.eq_of_pairwise (le := fun x y => bltL y x = false) (fun a b _ _ h1 h2 => blt_tri h2 h1) hs (sortS_sorted l) (hp.trans (sortS_perm l).symm)
end Go.Dm
