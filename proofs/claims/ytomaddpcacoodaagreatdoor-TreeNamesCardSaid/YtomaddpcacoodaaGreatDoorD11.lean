/-
  Contracts of Go's library as it stands in the program, out of the shelf's; the tree's search.
-/
import Derived.Test.YtomaddpcacoodaaGreatDoorD10
import Derived.Test.YtomaddpcacoodaaGreatDoorBB
import Derived.Test.YtomaddpcacoodaaGreatDoorShelf
import Derived.Test.YtomaddpcacoodaaGreatDoorShelf2
set_option linter.unusedSimpArgs false
set_option linter.unusedVariables false
namespace Go.Proofs.YtomaddpcacoodaaGreatDoor
open Go Go.Dm Go.Proofs
set_option maxRecDepth 100000
set_option maxHeartbeats 4000000

theorem strCmp_c {a b : List UInt8} : DCalls Tryz.prog 101 [.c (.p (.s a)), .c (.p (.s b))] [] fun r h => r = .c (.p (.i .i64 (cmpS a b))) ∧ h = [] := by
  rw [← compareBytes_eq]
  exact dcalls_strs (enters Tryz.func101 rfl rfl) (fun a b w => Tryz.strings_Compare a b w)

theorem sort_c {h : DHeap} {id : Nat} {ss : List (List UInt8)} (hid : h[id]? = some (.arr 1 (Go.Dm.encS ss) false)) (hsz : ss.length < 4611686018427387904) :
    DCalls Tryz.prog 64 [.c (.own id 0 ss.length)] h fun d h' => d = .tup [] ∧ h' = h.set id (.arr 1 (Go.Dm.encS (ss.mergeSort fun x y => decide (x ≤ y))) false) :=
  dcalls_sort (enters Tryz.func64 rfl rfl) (fun blk off cap ss w h1 h2 h3 => Tryz.slices_Sort_string blk off cap ss w h1 h2 h3) (fun p cap w => Tryz.slices_Sort_string_none p cap w) hid hsz

theorem compact_len (l : List (List UInt8)) : (Lib.compact l).length ≤ l.length := by
  unfold Lib.compact Lib.compactUpTo
  rw [List.length_map]
  exact Nat.le_trans (List.length_filter_le ..) (by simp)

theorem compact_c {h : DHeap} {id : Nat} {ss : List (List UInt8)} (hid : h[id]? = some (.arr 1 (Go.Dm.encS ss) false)) (hsz : ss.length < 4611686018427387904) :
    DCalls Tryz.prog 105 [.c (.own id 0 ss.length)] h fun d h' => d = .c (.own id 0 (Lib.compact ss).length) ∧ h' = h.set id (.arr 1 (Go.Dm.encS (Lib.compact ss ++ List.replicate (ss.length - (Lib.compact ss).length) [])) false) :=
  dcalls_compact (enters Tryz.func105 rfl rfl) (fun blk off cap ss w h1 h2 h3 => Tryz.slices_Compact_string blk off cap ss w h1 h2 h3) (fun p cap w => Tryz.slices_Compact_string_empty p cap w) hid hsz compact_len

theorem grow_c {h : DHeap} {n : Nat} (hn : n ≤ 1000000000) :
    DCalls Tryz.prog 168 [.c (.p .nil), .c (.p (.i .i64 n))] h fun d h' => d = .c (.own h.length 0 0) ∧ h' = h ++ [.arr 5 [] false] := by
  have := dcalls_grow (n := n) (h := h) (e := 43) tabOK (by rw [tab43]; exact fun h => by cases h) (by rw [tab43]; decide) (enters Tryz.func168 rfl rfl)
    (fun w => Any8.slices_Grow_room Tryz.growItem none 0 0 0 w (Nat.le_refl _) (by decide) (by decide) (Nat.le_refl _))
    (fun i0 z n w h1 h2 h3 h4 h5 h6 => by
      have := Any8.slices_Grow_grow Tryz.growItem i0 z h1 h2 h3 none 0 0 n [] w (Nat.le_refl _) (by omega) (by simpa using h5) (by simpa using h6) (by simp) (fun _ => rfl) (fun a ha => by cases ha)
      simp only [Nat.zero_add, Nat.sub_zero] at this
      exact this)
    (by rw [tab43]; simp only; omega) (by omega)
  rw [tab43] at this
  exact this

theorem find1_c {q : List UInt8} {k m : Int} {tt : Nat} {d p : List UInt8} : DCalls Tryz.prog 137 [.agg [.p (.s q), .p (.i .i64 k), .p (.i .i64 m), .p (.f tt), .p (.sl 1 (encB d))], .c (.p (.s p))] [] fun r h => r = .c (.p (.i .i64 (cmpS q p))) ∧ h = [] := by
  refine ent tabOK hmix Tryz.func137 rfl rfl fun X0 hX => ?_
  simp only [Tryz.ntmps137, Tryz.f137, go_sem]
  repeat' (first | simp only [*, go_sem, Nat.reduceLT, Nat.reduceLeDiff, Nat.reduceEqDiff, ↓reduceIte, Nat.reduceAdd, Nat.reduceSub, Nat.reduceMul, Int.reduceLT, Int.reduceLE, Int.reduceAdd, Int.reduceSub, Int.reduceMul, Int.reduceNeg, Int.reduceToNat, Int.reduceEq, Int.reduceBEq, Int.reduceBNe, Nat.reduceBEq, beq_self_eq_true, bne_self_eq_false] | ((with_reducible refine useF (strCmp_c) ?_ ?_ ?_); (focus exact rfl); (focus exact rfl)) | with_reducible refine vcond_split (fun _ => ?_) (fun _ => ?_) | with_reducible refine vg_split (fun _ => ?_) (fun _ => ?_) | ((with_reducible apply DCalls.frz); (focus exact rfl); (focus exact rfl)) | ((with_reducible refine And.intro ?_ ?_); (focus (first | omega | decide | assumption | (simp only [decide_eq_true_eq, decide_eq_false_iff_not] at *; omega)))))

end Go.Proofs.YtomaddpcacoodaaGreatDoor
