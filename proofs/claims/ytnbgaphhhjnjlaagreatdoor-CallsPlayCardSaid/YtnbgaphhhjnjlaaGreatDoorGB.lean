/-
  What a row lays down for a variable that is an array of integers stands in the memory, cell by cell. No condition beyond the laid rows being met.
-/
import Derived.Test.YtnbgaphhhjnjlaaGreatDoorBA
import Derived.ChangeBears2
import Derived.MakeChecks
set_option linter.unusedSimpArgs false
set_option linter.unusedVariables false

namespace Go.Dm
open Go

theorem laidVars_at {P : Program} {w : World} {n : String} {d : DataW Unit} : ∀ {l : List (String × DataW Unit)} {ps : List MemPlace}, DataW.LaidVars P w l ps → (n, d) ∈ l →
    ∃ g t cs fuel p, P.globalNamed n = some g ∧ (P.globals[g]?).map (·.type) = some t ∧ w.var? P n = some cs ∧ DataW.trod (fun _ => ()) P w 0 (fun _ => true) false fuel t cs.toList = some (d, p)
  | [], _, _, h => by cases h
  | (m, e) :: r, ps, h, hm => by
    obtain ⟨g, t, cs, fuel, p, q, h1, h2, h3, h4, h5, _⟩ := h
    rcases List.mem_cons.1 hm with hm | hm
    · cases hm
      exact ⟨g, t, cs, fuel, p, h1, h2, h3, h4⟩
    · exact laidVars_at h5 hm

theorem laid_ints {P : Program} {w : World} {n : String} {d : DataW Unit} {l : List (String × DataW Unit)} {g t e k : Nat} {vs : List Int} (hw : laidMet P l w) (hm : (n, d) ∈ l) (hd : d = .agg (vs.map fun v => .lit (.int .i64 v)))
    (hg : P.globalNamed n = some g) (ht : (P.globals[g]?).map (·.type) = some t) (hu : P.underlying t = some (.array k e)) (he : P.underlying e = some (.int .i64)) (hc : P.cellsOf e = 1) (j : Nat) (v : Int) (hj : vs[j]? = some v) :
    w.cell? ⟨g, j, none⟩ = some (.int .i64 v) := by
  obtain ⟨ps, hl, _⟩ := hw
  obtain ⟨g', t', cs, fuel, p, h1, h2, h3, h4⟩ := laidVars_at hl hm
  obtain rfl : g' = g := Option.some.inj (h1.symm.trans hg)
  obtain rfl : t' = t := Option.some.inj (h2.symm.trans ht)
  rw [var?_cell hg h3]
  cases fuel with
  | zero => simp [DataW.trod] at h4
  | succ fuel =>
    simp only [DataW.trod, hu] at h4
    split at h4
    · simp only [Option.map_eq_some_iff] at h4
      obtain ⟨xs, h5, h6⟩ := h4
      simp only [Prod.mk.injEq] at h6
      obtain ⟨h6, _⟩ := h6
      subst hd
      simp only [DataW.agg.injEq] at h6
      obtain ⟨h7, h8⟩ := mapM_at h5
      have hx : (xs.map (·.1))[j]? = some (.lit (.int .i64 v)) := by rw [h6, List.getElem?_map, hj]; rfl
      rw [List.getElem?_map, Option.map_eq_some_iff] at hx
      obtain ⟨x, hx1, hx2⟩ := hx
      have hjl : j < xs.length := (List.getElem?_eq_some_iff.1 hx1).1
      obtain ⟨y, hy1, hy2⟩ := h8 j j (by rw [List.getElem?_range (by rw [h7, List.length_range] at hjl; exact hjl)])
      obtain rfl : y = x := Option.some.inj (hy1.symm.trans hx1)
      rw [hc, Nat.mul_one] at hy2
      cases fuel with
      | zero => simp [DataW.trod] at hy2
      | succ fuel =>
        simp only [DataW.trod, he] at hy2
        rw [← Array.getElem?_toList]
        rcases hq : (cs.toList.drop j).take 1 with _ | ⟨c, _ | ⟨c2, r⟩⟩
        · rw [hq] at hy2; simp at hy2
        · rw [hq] at hy2
          have hcj : cs.toList[j]? = some c := by
            have := congrArg (·[0]?) hq
            simpa [List.getElem?_take, List.getElem?_drop] using this
          rw [hcj]
          cases c <;> simp at hy2
          obtain ⟨⟨rfl, _⟩, rfl⟩ := hy2
          simp at hx2
          rw [hx2]
        · rw [hq] at hy2; simp at hy2
    · cases h4
end Go.Dm
