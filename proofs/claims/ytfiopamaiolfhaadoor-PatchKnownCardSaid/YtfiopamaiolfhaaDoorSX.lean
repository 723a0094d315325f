/-
  Chapter 19's examples, and more: what the program's apply makes of them. Closed.
-/
import Derived.Test.YtfiopamaiolfhaaDoorSV
set_option linter.unusedSimpArgs false
set_option linter.unusedVariables false
namespace Go.Dm
open Go Go.Sort Go.Proofs
set_option maxRecDepth 100000

theorem sortI_of {l : List It} (h : Srt l) : sortI l = l :=
  srt_mem_eq (sortI_srt (List.pairwise_map.2 (h.imp fun {a b} h e => by have := blt_ne h; rw [e] at this; simp at this))) h fun x => (sortI_perm l).mem_iff
/-- Changes done, where what is made stands in order as it comes. -/
theorem apply_of {t : List It} {l : List Ch} {out : List It} (hr : rightCs l = true) (hf : l.all (fitsF t) = true) (ho : outA t l = out) (hs : Srt out) (hl : out.length ≤ 120) : applyF t l = if !rightT out then ([], 17) else (out, 0) := by
  unfold applyF
  rw [hr, if_neg (by decide), hf, if_neg (by decide), ho, sortI_of hs, if_neg (by simp; omega)]
theorem apply_conf {t : List It} {l : List Ch} (hr : rightCs l = true) (hf : l.all (fitsF t) = false) : applyF t l = ([], 17) := by
  unfold applyF
  rw [hr, if_neg (by decide), hf]
  rfl

def exN : Nd := ⟨1, 0, 0, []⟩
def exDir : Nd := ⟨2, 0, 0, []⟩
def exT : List It := [⟨[97], exDir⟩, ⟨[97, 47, 98], exN⟩]
theorem exT_ok : OkT exT := rightT_ok (by intro x hx; simp only [exT, List.mem_cons, List.not_mem_nil, or_false] at hx; rcases hx with rfl | rfl <;> decide) (by decide +kernel)
theorem ex_a : applyF exT [⟨[97], 2, exDir, nd0⟩] = ([], 17) := by
  rw [apply_of (out := [⟨[97, 47, 98], exN⟩]) (by decide +kernel) (by decide +kernel) rfl (by simp [Srt]) (by decide), show rightT [⟨[97, 47, 98], exN⟩] = false by decide +kernel]
  rfl
theorem ex_b : applyF exT [⟨[97], 1, nd0, exDir⟩] = ([], 17) := apply_conf (by decide +kernel) (by decide +kernel)
theorem ex_c : applyF exT [⟨[97, 47, 98], 2, exDir, nd0⟩] = ([], 17) := apply_conf (by decide +kernel) (by decide +kernel)
theorem ex_e : applyF exT [⟨[120], 5, nd0, nd0⟩] = ([], 1) := by
  unfold applyF
  rw [show rightCs [⟨[120], 5, nd0, nd0⟩] = false by decide +kernel]
  rfl
theorem ex_u : applyF exT [⟨[97], 4, exDir, exN⟩, ⟨[97, 47, 98], 2, exN, nd0⟩] = ([⟨[97], exN⟩], 0) := by
  rw [apply_of (out := [⟨[97], exN⟩]) (by decide +kernel) (by decide +kernel) rfl (by simp [Srt]) (by decide), show rightT [⟨[97], exN⟩] = true by decide +kernel]
  rfl
theorem ex_w : applyF exT [] = (exT, 0) := by
  rw [apply_of (out := exT) rfl rfl rfl exT_ok.srt (by decide), rightT_of exT_ok]
  rfl

/-! As many as there may be, and one more. -/
def many1 (i : Nat) : Ch := ⟨[UInt8.ofNat (97 + i / 26), UInt8.ofNat (97 + i % 26)], 1, nd0, exN⟩
def manyF (n : Nat) : List Ch := (List.range n).map many1
theorem many_right : rightCs (manyF 121) = true := by decide +kernel
theorem many_right2 : rightCs (manyF 120) = true := by decide +kernel
theorem many_fits (n : Nat) : (manyF n).all (fitsF []) = true := by
  rw [List.all_eq_true]
  intro c hc
  obtain ⟨i, _, rfl⟩ := List.mem_map.1 hc
  rfl
theorem many_out (n : Nat) : outA [] (manyF n) = (List.range n).map fun i => ⟨(many1 i).p, exN⟩ := by
  unfold outA manyF newsF
  rw [List.flatMap_map]
  show List.flatMap (fun i => [(⟨(many1 i).p, exN⟩ : It)]) (List.range n) ++ [] = _
  rw [List.append_nil]
  exact (List.map_eq_flatMap ..).symm
theorem many_limit : applyF [] (manyF 121) = ([], 16) := by
  unfold applyF
  rw [many_right, if_neg (by decide), many_fits, if_neg (by decide), sortI_len, many_out, List.length_map, List.length_range]
  rfl
theorem many_tree : rightT ((List.range 120).map fun i => (⟨(many1 i).p, exN⟩ : It)) = true := by decide +kernel
theorem many_ok : applyF [] (manyF 120) = ((List.range 120).map (fun i => ⟨(many1 i).p, exN⟩), 0) := by
  have hs : Srt ((List.range 120).map fun i => (⟨(many1 i).p, exN⟩ : It)) := by
    have e := (rightT_ok (t := (List.range 120).map fun i => (⟨(many1 i).p, exN⟩ : It)) (fun x hx => by
      obtain ⟨i, _, rfl⟩ := List.mem_map.1 hx
      exact (show (0 : Nat) < 18446744073709551616 by decide)) many_tree).srt
    exact e
  rw [apply_of many_right2 (many_fits 120) (many_out 120) hs (by simp), many_tree]
  rfl

end Go.Dm
