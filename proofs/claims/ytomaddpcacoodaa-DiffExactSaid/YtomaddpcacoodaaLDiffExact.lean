/-
  DiffExact: for every input the law returns true, and each argument reads behind the call as it read before. No condition.
-/
import Derived.Test.YtomaddpcacoodaaRows
import Derived.HandedShaped
import Derived.Test.YtomaddpcacoodaaO2
import Derived.Test.YtomaddpcacoodaaD18
set_option linter.unusedSimpArgs false
set_option linter.unusedVariables false
namespace Go.Proofs.Ytomaddpcacoodaa
open Go Go.Dm Go.RowKit Go.ChangeShapes Go.WideShapes

set_option maxRecDepth 100000 in
theorem diffExact_lifted (os : Os) (started : os.Started) (H : Type) (enc : TypeId × Value → H) :
    ReturnsInHanded {} Try.checked os 6 .any (Rows.diffExactSpec.pre6 enc Try.prog Try.f6 Rows.diffExactRow.domain false) (Rows.diffExactSpec.post enc Try.prog Try.f6 false true false false) := by
  refine returnsInHanded_of_change_shaped (C := Try.checked) own started (by kernel_rfl) Try.func6
    (ChangeSpec.witness6 (enc := enc) (C := Try.checked) false ⟨#[], #[.slice none 0 0, .slice none 0 0], []⟩ 8 (by kernel_rfl) (by kernel_rfl) (by kernel_rfl) (by kernel_rfl)) ?_
  intro W base args ds gs before hval0 hW _ _ hsh _
  have hval : ∀ (j : Nat) t v, Try.f6.params[j]? = some t → args[j]? = some v → Value.okWide Try.prog W .any base t v := hval0
  have hW' := hW
  obtain ⟨pa, pv, hA0, hV, _, _, _⟩ := hW
  have hA : DataW.TrodAll enc Try.prog W 0 (fun _ => true) true Try.f6.params.toList args.toList ds pa := hA0
  obtain ⟨rfl, _⟩ := trodVars_none hV
  rw [Try.params6] at hA hval
  obtain ⟨v0, r0, d0, e0, p0, q0, a0, rfl, _, h0, hA⟩ := trodAll_cons hA
  obtain ⟨v1, r1, d1, e1, p1, q1, rfl, rfl, _, h1, hA⟩ := trodAll_cons hA
  obtain ⟨rfl, rfl, _⟩ := trodAll_nil hA
  obtain rfl : args = #[v0, v1] := by cases args; simp_all
  obtain ⟨l0, ⟨w0, k0⟩, R0⟩ := arg_items (hval 0 40 v0 rfl rfl) h0
  obtain ⟨l1, ⟨w1, k1⟩, R1⟩ := arg_turns (hval 1 41 v1 rfl rfl) h1
  refine (law_calls Try.func6 rfl (by kernel_rfl) (diffExact_c w0 (fun x hx => (k0 x hx).1) (fun x hx => (k0 x hx).2) w1 (fun x hx => (k1 x hx).1) (fun x hx => (k1 x hx).2)) hsh (args := #[v0, v1]) ⟨R0, R1, trivial⟩).mono fun e W' ⟨he, hb⟩ => ?_
  exact ⟨_, he, law_post laidOut rfl hW' (readable_all (by kernel_rfl)) rfl Try.underlying4 rfl hb⟩

theorem diffExact_holds : Rows.DiffExactSaid :=
  OpenClaim.holds_of_wide 6 Try.f6 rfl rfl rfl rfl rfl rfl rfl ⟨rfl, rfl, rfl, rfl, rfl⟩ rfl rfl rfl rfl rfl (by kernel_rfl) Try.func6 (by kernel_rfl)
    (of_decide_eq_true (by kernel_rfl)) (by unfold Func.isWrapper; first | (rw [if_pos (by decide +kernel)]; kernel_rfl) | (rw [if_neg (by decide +kernel)]; exact ⟨rfl, rfl⟩))
    (fun os started H enc _ => diffExact_lifted os started H enc)

end Go.Proofs.Ytomaddpcacoodaa
