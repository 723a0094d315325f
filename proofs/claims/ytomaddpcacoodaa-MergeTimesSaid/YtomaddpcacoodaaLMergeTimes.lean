/-
  MergeTimes: for every input the law returns true, and each argument reads behind the call as it read before. No condition.
-/
import Derived.Test.YtomaddpcacoodaaRows
import Derived.Test.YtomaddpcacoodaaO1
import Derived.Test.YtomaddpcacoodaaC9
set_option linter.unusedSimpArgs false
set_option linter.unusedVariables false
namespace Go.Proofs.Ytomaddpcacoodaa
open Go Go.Dm Go.RowKit Go.ChangeShapes Go.WideShapes

set_option maxRecDepth 100000 in
theorem mergeTimes_lifted (os : Os) (started : os.Started) (H : Type) (enc : TypeId × Value → H) :
    ReturnsInHanded {} Try.checked os 4 .any (Rows.mergeTimesSpec.pre6 enc Try.prog Try.f4 Rows.mergeTimesRow.domain false) (Rows.mergeTimesSpec.post enc Try.prog Try.f4 false true false false) := by
  refine returnsInHanded_of_change (C := Try.checked) own started (by kernel_rfl) Try.func4
    (ChangeSpec.witness6 (enc := enc) (C := Try.checked) false ⟨#[], #[.agg #[.int .i64 0, .int .i64 0, .int .i64 0, .float .f64 0, .slice none 0 0], .int .i64 0, .int .i64 0, .int .i64 0, .float .f64 0, .float .f64 0, .float .f64 0], []⟩ 8 (by kernel_rfl) (by kernel_rfl) (by kernel_rfl) (by kernel_rfl)) ?_
  intro W base args ds gs before hval0 hW _ _
  have hval : ∀ (j : Nat) t v, Try.f4.params[j]? = some t → args[j]? = some v → Value.okWide Try.prog W .any base t v := hval0
  have hW' := hW
  obtain ⟨pa, pv, hA0, hV, _, _, _⟩ := hW
  have hA : DataW.TrodAll enc Try.prog W 0 (fun _ => true) true Try.f4.params.toList args.toList ds pa := hA0
  obtain ⟨rfl, _⟩ := trodVars_none hV
  rw [Try.params4] at hA hval
  obtain ⟨v0, r0, d0, e0, p0, q0, a0, rfl, _, h0, hA⟩ := trodAll_cons hA
  obtain ⟨v1, r1, d1, e1, p1, q1, rfl, rfl, _, h1, hA⟩ := trodAll_cons hA
  obtain ⟨v2, r2, d2, e2, p2, q2, rfl, rfl, _, h2, hA⟩ := trodAll_cons hA
  obtain ⟨v3, r3, d3, e3, p3, q3, rfl, rfl, _, h3, hA⟩ := trodAll_cons hA
  obtain ⟨v4, r4, d4, e4, p4, q4, rfl, rfl, _, h4, hA⟩ := trodAll_cons hA
  obtain ⟨v5, r5, d5, e5, p5, q5, rfl, rfl, _, h5, hA⟩ := trodAll_cons hA
  obtain ⟨v6, r6, d6, e6, p6, q6, rfl, rfl, _, h6, hA⟩ := trodAll_cons hA
  obtain ⟨rfl, rfl, _⟩ := trodAll_nil hA
  obtain rfl : args = #[v0, v1, v2, v3, v4, v5, v6] := by cases args; simp_all
  obtain ⟨k, m, t, x, l, ⟨wx, wl⟩, R0⟩ := arg_rn (hval 0 25 v0 rfl rfl) h0
  obtain ⟨y1, R1⟩ := arg_int (hval 1 3 v1 rfl rfl) h1
  obtain ⟨y2, R2⟩ := arg_int (hval 2 3 v2 rfl rfl) h2
  obtain ⟨y3, R3⟩ := arg_int (hval 3 3 v3 rfl rfl) h3
  obtain ⟨y4, w4, R4⟩ := arg_float (hval 4 22 v4 rfl rfl) h4
  obtain ⟨y5, w5, R5⟩ := arg_float (hval 5 22 v5 rfl rfl) h5
  obtain ⟨y6, w6, R6⟩ := arg_float (hval 6 22 v6 rfl rfl) h6
  refine (law_calls Try.func4 rfl (by kernel_rfl) (mergeTimes_c wx w4 w5 w6 wl) (args := #[v0, v1, v2, v3, v4, v5, v6]) ⟨R0, R1, R2, R3, R4, R5, R6, trivial⟩).mono fun e W' ⟨he, hb⟩ => ?_
  exact ⟨_, he, law_post laidOut rfl hW' (readable_all (by kernel_rfl)) rfl Try.underlying4 rfl hb⟩

theorem mergeTimes_holds : Rows.MergeTimesSaid :=
  OpenClaim.holds_of_wide 4 Try.f4 rfl rfl rfl rfl rfl rfl rfl ⟨rfl, rfl, rfl, rfl, rfl⟩ rfl rfl rfl rfl rfl (by kernel_rfl) Try.func4 (by kernel_rfl)
    (of_decide_eq_true (by kernel_rfl)) (by unfold Func.isWrapper; first | (rw [if_pos (by decide +kernel)]; kernel_rfl) | (rw [if_neg (by decide +kernel)]; exact ⟨rfl, rfl⟩))
    (fun os started H enc _ => mergeTimes_lifted os started H enc)

end Go.Proofs.Ytomaddpcacoodaa
