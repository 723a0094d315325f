/-
  DiffTells: for every input the law returns true, and each argument reads behind the call as it read before. No condition.
-/
import Derived.Test.YtomaddpcacoodaaGreatDoorRows
import Derived.Test.YtomaddpcacoodaaGreatDoorO2
import Derived.Test.YtomaddpcacoodaaGreatDoorBD
import Derived.Test.YtomaddpcacoodaaGreatDoorE4
set_option linter.unusedSimpArgs false
set_option linter.unusedVariables false
namespace Go.Proofs.YtomaddpcacoodaaGreatDoor
open Go Go.Dm Go.RowKit Go.ChangeShapes Go.WideShapes

set_option maxRecDepth 100000 in
theorem diffTells_lifted (os : Os) (started : os.Started) (H : Type) (enc : TypeId × Value → H) :
    ReturnsInHanded {} Tryz.checked os 9 .any (fun w args => (Rows.diffTellsSpec.pre enc Tryz.prog Tryz.f9 Rows.diffTellsRow.domain false w args ∧ laidMetH Tryz.prog Rows.diffTellsRow.laid w) ∧ sizedMet enc Tryz.prog Tryz.f9 (OpenSpec.ofChange Rows.diffTellsSpec) false w args)
      (Rows.diffTellsSpec.post enc Tryz.prog Tryz.f9 false true false false) := by
  refine handed_laid (C := Tryz.checked) (X := fun w _ => laidMetH Tryz.prog Rows.diffTellsRow.laid w) own started (by kernel_rfl) Tryz.func9
    (laid_witness (enc := enc) (C := Tryz.checked) Rows.diffTellsRow.laid #[.slice none 0 0, .slice none 0 0, .slice none 0 0, .bool false] 8 (by kernel_rfl) (by kernel_rfl) (by kernel_rfl) (by kernel_rfl) (by kernel_rfl) (by kernel_rfl) (by kernel_rfl) (by kernel_rfl)) ?_
  intro W base args ds gs before hval0 hW hsh
  have hval : ∀ (j : Nat) t v, Tryz.f9.params[j]? = some t → args[j]? = some v → Value.okWide Tryz.prog W .any base t v := hval0
  have hW' := hW
  obtain ⟨pa, pv, hA0, hV, _, _, _⟩ := hW
  have hA : DataW.TrodAll enc Tryz.prog W 0 (fun _ => true) true Tryz.f9.params.toList args.toList ds pa := hA0
  obtain ⟨rfl, _⟩ := trodVars_none hV
  rw [Tryz.params9] at hA hval
  obtain ⟨v0, r0, d0, e0, p0, q0, a0, rfl, _, h0, hA⟩ := trodAll_cons hA
  obtain ⟨v1, r1, d1, e1, p1, q1, rfl, rfl, _, h1, hA⟩ := trodAll_cons hA
  obtain ⟨v2, r2, d2, e2, p2, q2, rfl, rfl, _, h2, hA⟩ := trodAll_cons hA
  obtain ⟨v3, r3, d3, e3, p3, q3, rfl, rfl, _, h3, hA⟩ := trodAll_cons hA
  obtain ⟨rfl, rfl, _⟩ := trodAll_nil hA
  obtain rfl : args = #[v0, v1, v2, v3] := by cases args; simp_all
  obtain ⟨l0, ⟨w0, k0⟩, R0⟩ := arg_items (hval 0 48 v0 rfl rfl) h0
  obtain ⟨l1, ⟨w1, k1⟩, R1⟩ := arg_turns (hval 1 68 v1 rfl rfl) h1
  obtain ⟨l2, ⟨w2, k2⟩, R2⟩ := arg_items (hval 2 48 v2 rfl rfl) h2
  obtain ⟨near, R3⟩ := arg_bool (hval 3 4 v3 rfl rfl) h3
  refine (law_calls Tryz.func9 rfl (by kernel_rfl) (diffTells_c w0 (fun x hx => (k0 x hx).1) (fun x hx => (k0 x hx).2) w2 (fun x hx => (k2 x hx).1) (fun x hx => (k2 x hx).2) w1 (fun x hx => (k1 x hx).1) (fun x hx => (k1 x hx).2)) hsh (args := #[v0, v1, v2, v3]) ⟨R0, R1, R2, R3, trivial⟩).mono fun e W' ⟨he, hb⟩ => ?_
  exact ⟨_, he, law_post laidOut rfl hW' (readable_all (by kernel_rfl)) rfl Tryz.underlying4 rfl hb⟩

theorem diffTells_holds : Rows.DiffTellsSaid :=
  OpenClaim.holds_of_wide 9 Tryz.f9 rfl rfl rfl rfl rfl rfl rfl ⟨rfl, rfl, rfl, rfl, rfl⟩ rfl rfl rfl rfl rfl (by kernel_rfl) Tryz.func9 (by kernel_rfl)
    (of_decide_eq_true (by kernel_rfl)) (by unfold Func.isWrapper; first | (rw [if_pos (by decide +kernel)]; kernel_rfl) | (rw [if_neg (by decide +kernel)]; exact ⟨rfl, rfl⟩))
    (fun os started H enc _ => diffTells_lifted os started H enc)

end Go.Proofs.YtomaddpcacoodaaGreatDoor
