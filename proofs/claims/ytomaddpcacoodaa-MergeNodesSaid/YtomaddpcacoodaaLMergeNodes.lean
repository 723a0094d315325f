/-
  MergeNodes: for every input the law returns true, and each argument reads behind the call as it read before. No condition.
-/
import Derived.Test.YtomaddpcacoodaaRows
import Derived.Test.YtomaddpcacoodaaO1
import Derived.Test.YtomaddpcacoodaaC8
set_option linter.unusedSimpArgs false
set_option linter.unusedVariables false
namespace Go.Proofs.Ytomaddpcacoodaa
open Go Go.Dm Go.RowKit Go.ChangeShapes Go.WideShapes

set_option maxRecDepth 100000 in
theorem mergeNodes_lifted (os : Os) (started : os.Started) (H : Type) (enc : TypeId × Value → H) :
    ReturnsInHanded {} Try.checked os 3 .any (Rows.mergeNodesSpec.pre6 enc Try.prog Try.f3 Rows.mergeNodesRow.domain false) (Rows.mergeNodesSpec.post enc Try.prog Try.f3 false true false false) := by
  refine returnsInHanded_of_change (C := Try.checked) own started (by kernel_rfl) Try.func3
    (ChangeSpec.witness6 (enc := enc) (C := Try.checked) false ⟨#[], #[.agg #[.int .i64 0, .int .i64 0, .int .i64 0, .float .f64 0, .slice none 0 0], .agg #[.int .i64 0, .int .i64 0, .int .i64 0, .float .f64 0, .slice none 0 0], .agg #[.int .i64 0, .int .i64 0, .int .i64 0, .float .f64 0, .slice none 0 0], .int .i64 0, .int .i64 0, .bool false, .bool false, .bool false, .int .i64 0], []⟩ 8 (by kernel_rfl) (by kernel_rfl) (by kernel_rfl) (by kernel_rfl)) ?_
  intro W base args ds gs before hval0 hW _ _
  have hval : ∀ (j : Nat) t v, Try.f3.params[j]? = some t → args[j]? = some v → Value.okWide Try.prog W .any base t v := hval0
  have hW' := hW
  obtain ⟨pa, pv, hA0, hV, _, _, _⟩ := hW
  have hA : DataW.TrodAll enc Try.prog W 0 (fun _ => true) true Try.f3.params.toList args.toList ds pa := hA0
  obtain ⟨rfl, _⟩ := trodVars_none hV
  rw [Try.params3] at hA hval
  obtain ⟨v0, r0, d0, e0, p0, q0, a0, rfl, _, h0, hA⟩ := trodAll_cons hA
  obtain ⟨v1, r1, d1, e1, p1, q1, rfl, rfl, _, h1, hA⟩ := trodAll_cons hA
  obtain ⟨v2, r2, d2, e2, p2, q2, rfl, rfl, _, h2, hA⟩ := trodAll_cons hA
  obtain ⟨v3, r3, d3, e3, p3, q3, rfl, rfl, _, h3, hA⟩ := trodAll_cons hA
  obtain ⟨v4, r4, d4, e4, p4, q4, rfl, rfl, _, h4, hA⟩ := trodAll_cons hA
  obtain ⟨v5, r5, d5, e5, p5, q5, rfl, rfl, _, h5, hA⟩ := trodAll_cons hA
  obtain ⟨v6, r6, d6, e6, p6, q6, rfl, rfl, _, h6, hA⟩ := trodAll_cons hA
  obtain ⟨v7, r7, d7, e7, p7, q7, rfl, rfl, _, h7, hA⟩ := trodAll_cons hA
  obtain ⟨v8, r8, d8, e8, p8, q8, rfl, rfl, _, h8, hA⟩ := trodAll_cons hA
  obtain ⟨rfl, rfl, _⟩ := trodAll_nil hA
  obtain rfl : args = #[v0, v1, v2, v3, v4, v5, v6, v7, v8] := by cases args; simp_all
  obtain ⟨k0, m0, t0, x0, l0, ⟨wx0, wl0⟩, R0⟩ := arg_rn (hval 0 25 v0 rfl rfl) h0
  obtain ⟨k1, m1, t1, x1, l1, ⟨wx1, wl1⟩, R1⟩ := arg_rn (hval 1 25 v1 rfl rfl) h1
  obtain ⟨k2, m2, t2, x2, l2, ⟨wx2, wl2⟩, R2⟩ := arg_rn (hval 2 25 v2 rfl rfl) h2
  obtain ⟨y3, R3⟩ := arg_int (hval 3 3 v3 rfl rfl) h3
  obtain ⟨y4, R4⟩ := arg_int (hval 4 3 v4 rfl rfl) h4
  obtain ⟨y5, R5⟩ := arg_bool (hval 5 4 v5 rfl rfl) h5
  obtain ⟨y6, R6⟩ := arg_bool (hval 6 4 v6 rfl rfl) h6
  obtain ⟨y7, R7⟩ := arg_bool (hval 7 4 v7 rfl rfl) h7
  obtain ⟨y8, R8⟩ := arg_int (hval 8 3 v8 rfl rfl) h8
  refine (law_calls Try.func3 rfl (by kernel_rfl) (mergeNodes_c wx0 wx1 wx2 wl0 wl1 wl2) (args := #[v0, v1, v2, v3, v4, v5, v6, v7, v8]) ⟨R0, R1, R2, R3, R4, R5, R6, R7, R8, trivial⟩).mono fun e W' ⟨he, hb⟩ => ?_
  exact ⟨_, he, law_post laidOut rfl hW' (readable_all (by kernel_rfl)) rfl Try.underlying4 rfl hb⟩

theorem mergeNodes_holds : Rows.MergeNodesSaid :=
  OpenClaim.holds_of_wide 3 Try.f3 rfl rfl rfl rfl rfl rfl rfl ⟨rfl, rfl, rfl, rfl, rfl⟩ rfl rfl rfl rfl rfl (by kernel_rfl) Try.func3 (by kernel_rfl)
    (of_decide_eq_true (by kernel_rfl)) (by unfold Func.isWrapper; first | (rw [if_pos (by decide +kernel)]; kernel_rfl) | (rw [if_neg (by decide +kernel)]; exact ⟨rfl, rfl⟩))
    (fun os started H enc _ => mergeNodes_lifted os started H enc)

end Go.Proofs.Ytomaddpcacoodaa
