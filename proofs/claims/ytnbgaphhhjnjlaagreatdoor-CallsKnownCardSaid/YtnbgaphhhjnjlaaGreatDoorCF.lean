/-
  Chapter 16's example: what each call answers. No condition.
-/
import Derived.Test.YtnbgaphhhjnjlaaGreatDoorCE
import Derived.Test.YtnbgaphhhjnjlaaGreatDoorTB
set_option linter.unusedSimpArgs false
set_option linter.unusedVariables false
namespace Go.Dm
open Go

theorem do_rmdir {t : List It} {p : List UInt8} {N : List (List UInt8)} (hw : walkF t p false = (p, true, 0)) (hp : (p == []) = false) (hn : (nodeAt t p).k = 2) (hN : namesF t p = N) :
    doP t ⟨6, p, [], 0, 0, 0, 0, []⟩ = if decide ((0 : Int) < N.length) then (t, anE 10) else (removeR t p, anE 0) := by
  have hr : rmdirP t p true (nodeAt t p) = if decide ((0 : Int) < N.length) then ([], 10) else (removeR t p, 0) := by
    unfold rmdirP dirP
    rw [hp, hn, hN]
    rfl
  have hf : follF 6 = false := rfl
  unfold doP
  simp only [hf, hw]
  show (if (rmdirP t p true (nodeAt t p)).2 == 0 then ((rmdirP t p true (nodeAt t p)).1, anE 0) else (t, anE (rmdirP t p true (nodeAt t p)).2)) = _
  rw [hr]
  cases decide ((0 : Int) < N.length) <;> rfl
theorem do_list {t : List It} {N : List (List UInt8)} (hN : namesF t [] = N) : doP t ⟨15, [47], [], 0, 0, 0, 0, []⟩ = (t, ⟨0, nd0, [], N⟩) := by
  have hw : walkF t [47] (follF 15) = ([], true, 0) := rfl
  unfold doP
  simp only [hw]
  show (t, (⟨0, nd0, [], namesF t []⟩ : An)) = _
  rw [hN]

def itD : It := ⟨[100], ⟨2, 493, 0, []⟩⟩
def itF (d : List UInt8) : It := ⟨[100, 47, 102], ⟨1, 420, 0, d⟩⟩
def itL : It := ⟨[108], ⟨3, 511, 0, [100, 47, 102]⟩⟩
def itG : It := ⟨[108], ⟨1, 420, 0, [97]⟩⟩
theorem q1 : doP [] ⟨1, [100], [], 493, 0, 0, 0, []⟩ = ([itD], anE 0) := by rfl
theorem q2 : doP [itD] ⟨2, [100, 47, 102], [], 420, 0, 0, 0, [97, 98, 99]⟩ = ([itD, itF [97, 98, 99]], anE 0) := by rfl
theorem q3 : doP [itD, itF [97, 98, 99]] ⟨3, [100, 47, 102], [], 0, 0, 2, 0, [88, 89]⟩ = ([itD, itF [97, 98, 88, 89]], anE 0) := by rfl
theorem q4 : doP [itD, itF [97, 98, 88, 89]] ⟨14, [100, 47, 102], [], 0, 0, 1, 9, []⟩ = ([itD, itF [97, 98, 88, 89]], ⟨0, nd0, [98, 88, 89], []⟩) := by rfl
theorem q5 : doP [itD, itF [97, 98, 88, 89]] ⟨7, [108], [], 0, 0, 0, 0, [100, 47, 102]⟩ = ([itD, itF [97, 98, 88, 89], itL], anE 0) := by rfl
theorem q6 : doP [itD, itF [97, 98, 88, 89], itL] ⟨8, [108], [], 0, 0, 0, 0, []⟩ = ([itD, itF [97, 98, 88, 89], itL], ⟨0, nd0, [100, 47, 102], []⟩) := by rfl
theorem q7 : doP [itD, itF [97, 98, 88, 89], itL] ⟨12, [108], [], 0, 0, 0, 0, []⟩ = ([itD, itF [97, 98, 88, 89], itL], ⟨0, ⟨1, 420, 0, [97, 98, 88, 89]⟩, [], []⟩) := by rfl
theorem q8 : doP [itD, itF [97, 98, 88, 89], itL] ⟨13, [108], [], 0, 0, 0, 0, []⟩ = ([itD, itF [97, 98, 88, 89], itL], ⟨0, ⟨3, 511, 0, [100, 47, 102]⟩, [], []⟩) := by rfl
theorem q9 : doP [itD, itF [97, 98, 88, 89], itL] ⟨4, [108], [], 0, 0, 0, 1, []⟩ = ([itD, itF [97], itL], anE 0) := by rfl
theorem q10 : doP [itD, itF [97], itL] ⟨6, [100], [], 0, 0, 0, 0, []⟩ = ([itD, itF [97], itL], anE 10) := by
  rw [do_rmdir (N := [[102]]) (by rfl) (by rfl) (by rfl) (show (dirNames [itD, itF [97], itL] [100]).mergeSort _ = _ by rw [show dirNames [itD, itF [97], itL] [100] = [[102]] by rfl]; exact List.mergeSort_singleton ..)]
  rfl
theorem q11 : doP [itD, itF [97], itL] ⟨5, [100], [], 0, 0, 0, 0, []⟩ = ([itD, itF [97], itL], anE 8) := by rfl
theorem q12 : doP [itD, itF [97], itL] ⟨9, [100], [100, 47, 120], 0, 0, 0, 0, []⟩ = ([itD, itF [97], itL], anE 18) := by rfl
theorem q13 : doP [itD, itF [97], itL] ⟨9, [100, 47, 102], [108], 0, 0, 0, 0, []⟩ = ([itD, itG], anE 0) := by rfl
theorem q14 : doP [itD, itG] ⟨15, [47], [], 0, 0, 0, 0, []⟩ = ([itD, itG], ⟨0, nd0, [], [[100], [108]]⟩) := by
  refine do_list ?_
  have e : dirNames [itD, itG] [] = [[100], [108]] := by rfl
  show sortS (dirNames [itD, itG] []) = _
  rw [e]
  exact (sortS_unique (List.Perm.refl _) (by simp [bltL]; decide)).symm
theorem q15 : doP [itD, itG] ⟨6, [47], [], 0, 0, 0, 0, []⟩ = ([itD, itG], anE 1) := by rfl
theorem q16 : doP [itD, itG] ⟨6, [100], [], 0, 0, 0, 0, []⟩ = ([itG], anE 0) := by
  rw [do_rmdir (N := []) (by rfl) (by rfl) (by rfl) (show (dirNames [itD, itG] [100]).mergeSort _ = _ by rw [show dirNames [itD, itG] [100] = [] by rfl]; exact List.mergeSort_nil ..)]
  rfl
theorem q17 : doP [itG] ⟨10, [108], [], 4096, 0, 0, 0, []⟩ = ([itG], anE 1) := by rfl
theorem q18 : doP [itG] ⟨11, [110, 111, 110, 101], [], 0, 0, 0, 0, []⟩ = ([itG], anE 6) := by rfl
theorem q19 : doP [itG] ⟨12, [47], [], 0, 0, 0, 0, []⟩ = ([itG], ⟨0, ⟨2, 0, 0, []⟩, [], []⟩) := by rfl
theorem q20 {a : List UInt8} (ha : 2000 < a.length) : doP [itG] ⟨2, [98, 105, 103], [], 0, 0, 0, 0, a⟩ = ([itG], anE 16) := by
  have hw : walkF [itG] [98, 105, 103] (follF 2) = ([98, 105, 103], false, 0) := rfl
  have hl : decide ((2000 : Int) < a.length) = true := decide_eq_true (by omega)
  have hm : makeP [itG] [98, 105, 103] false 1 ⟨2, [98, 105, 103], [], 0, 0, 0, 0, a⟩ = ([], 16) := by
    unfold makeP
    simp only [Bool.false_eq_true, if_false, hl]
    rfl
  unfold doP
  simp only [hw]
  show (if (makeP [itG] [98, 105, 103] false 1 ⟨2, [98, 105, 103], [], 0, 0, 0, 0, a⟩).2 == 0 then _ else ([itG], anE (makeP [itG] [98, 105, 103] false 1 ⟨2, [98, 105, 103], [], 0, 0, 0, 0, a⟩).2)) = _
  rw [hm]
  rfl
theorem q21 : doP [itG] ⟨99, [], [], 0, 0, 0, 0, []⟩ = ([itG], anE 1) := by rfl
theorem q22 : doP [itG] ⟨9, [108], [46, 47, 108], 0, 0, 0, 0, []⟩ = ([itG], anE 0) := by rfl
theorem itD_ok : OkI itD := ⟨by simp [itD], rfl, rfl, by simp [itD]⟩
theorem itF_ok {d : List UInt8} (h : d.length ≤ 2000) : OkI (itF d) := ⟨by simp [itF], rfl, right_file ⟨by decide, by decide⟩ (by rfl) h, by simp [itF]⟩
theorem itL_ok : OkI itL := ⟨by simp [itL], rfl, rfl, by simp [itL]⟩
theorem itG_ok : OkI itG := ⟨by simp [itG], rfl, rfl, by simp [itG]⟩
theorem ok1 : OkT [itD] := ⟨⟨List.pairwise_singleton _ _, by simp [itD_ok], by simp⟩, by intro x hx; simp only [List.mem_singleton] at hx; subst hx; rfl⟩
theorem ok2 {d : List UInt8} (h : d.length ≤ 2000) : OkT [itD, itF d] := ⟨⟨by simp [itD, itF, bltL]; decide, by simp [itD_ok, itF_ok h], by simp⟩, by intro x hx; simp only [List.mem_cons, List.not_mem_nil, or_false] at hx; rcases hx with rfl | rfl <;> rfl⟩
theorem ok3 {d : List UInt8} (h : d.length ≤ 2000) : OkT [itD, itF d, itL] := ⟨⟨by simp [itD, itF, itL, bltL]; decide, by simp [itD_ok, itF_ok h, itL_ok], by simp⟩, by intro x hx; simp only [List.mem_cons, List.not_mem_nil, or_false] at hx; rcases hx with rfl | rfl | rfl <;> rfl⟩
theorem ok4 : OkT [itD, itG] := ⟨⟨by simp [itD, itG, bltL]; decide, by simp [itD_ok, itG_ok], by simp⟩, by intro x hx; simp only [List.mem_cons, List.not_mem_nil, or_false] at hx; rcases hx with rfl | rfl <;> rfl⟩
theorem ok5 : OkT [itG] := ⟨⟨List.pairwise_singleton _ _, by simp [itG_ok], by simp⟩, by intro x hx; simp only [List.mem_singleton] at hx; subst hx; rfl⟩
end Go.Dm
