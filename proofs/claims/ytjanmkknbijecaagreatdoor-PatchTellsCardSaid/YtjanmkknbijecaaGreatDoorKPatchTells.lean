/-
  PatchTells: for every input the law returns true, and each argument reads behind the call as it read before. No condition.
-/
import Derived.Test.YtjanmkknbijecaaGreatDoorRows
import Derived.Test.YtjanmkknbijecaaGreatDoorCards
import Derived.Test.YtjanmkknbijecaaGreatDoorTie
import Derived.Test.YtjanmkknbijecaaGreatDoorO1
import Derived.Test.YtjanmkknbijecaaGreatDoorBB
import Derived.Test.YtjanmkknbijecaaGreatDoorQ10
set_option linter.unusedSimpArgs false
set_option linter.unusedVariables false
namespace Go.Proofs.YtjanmkknbijecaaGreatDoor
open Go Go.Dm Go.RowKit Go.ChangeShapes Go.WideShapes

set_option maxRecDepth 100000 in
theorem patchTells_lifted (os : Os) (started : os.Started) (H : Type) (enc : TypeId × Value → H) :
    ReturnsInHanded {} Tryz.checked os 3 .any (fun w args => (Rows.patchTellsSpec.pre enc Tryz.prog Tryz.f3 Rows.patchTellsRow.domain false w args ∧ laidMetH Tryz.prog Rows.patchTellsRow.laid w) ∧ sizedMet enc Tryz.prog Tryz.f3 (OpenSpec.ofChange Rows.patchTellsSpec) false w args)
      (Rows.patchTellsSpec.post enc Tryz.prog Tryz.f3 false true false false) := by
  refine handed_laidS (C := Tryz.checked) (X := fun w _ => laidMetH Tryz.prog Rows.patchTellsRow.laid w) own started (by kernel_rfl) Tryz.func3
    (laid_witness (enc := enc) (C := Tryz.checked) Rows.patchTellsRow.laid #[.slice none 0 0, .slice none 0 0, .slice none 0 0, .int .i64 0, .int .i64 0] 8 (by kernel_rfl) (by kernel_rfl) (by kernel_rfl) (by kernel_rfl) (by kernel_rfl) (by kernel_rfl) (by kernel_rfl) (by kernel_rfl)) ?_
  intro W base args ds gs before hval0 hW hsh hsz0
  have hsz : (DataW.weightsEach Tryz.prog (Tryz.f3.params.toList ++ Rows.patchTellsSpec.plain.varTypes Tryz.prog) (ds ++ gs)).all (· ≤ reachBytes) = true := hsz0
  have hval : ∀ (j : Nat) t v, Tryz.f3.params[j]? = some t → args[j]? = some v → Value.okWide Tryz.prog W .any base t v := hval0
  have hW' := hW
  obtain ⟨pa, pv, hA0, hV, _, _, _⟩ := hW
  have hA : DataW.TrodAll enc Tryz.prog W 0 (fun _ => true) true Tryz.f3.params.toList args.toList ds pa := hA0
  obtain ⟨rfl, _⟩ := trodVars_none hV
  rw [Tryz.params3] at hA hval hsz
  obtain ⟨v0, r0, d0, e0, p0, q0, a0, rfl, _, h0, hA⟩ := trodAll_cons hA
  obtain ⟨v1, r1, d1, e1, p1, q1, rfl, rfl, _, h1, hA⟩ := trodAll_cons hA
  obtain ⟨v2, r2, d2, e2, p2, q2, rfl, rfl, _, h2, hA⟩ := trodAll_cons hA
  obtain ⟨v3, r3, d3, e3, p3, q3, rfl, rfl, _, h3, hA⟩ := trodAll_cons hA
  obtain ⟨v4, r4, d4, e4, p4, q4, rfl, rfl, _, h4, hA⟩ := trodAll_cons hA
  obtain ⟨rfl, rfl, _⟩ := trodAll_nil hA
  obtain rfl : args = #[v0, v1, v2, v3, v4] := by cases args; simp_all
  obtain ⟨l0, ⟨w0, k0⟩, R0⟩ := arg_items (hval 0 22 v0 rfl rfl) h0
  obtain ⟨l1, ⟨w1, k1⟩, R1⟩ := arg_turns (hval 1 23 v1 rfl rfl) h1
  obtain ⟨l2, ⟨w2, k2⟩, R2⟩ := arg_turns (hval 2 23 v2 rfl rfl) h2
  obtain ⟨x3, R3⟩ := arg_int (hval 3 3 v3 rfl rfl) h3
  obtain ⟨x4, R4⟩ := arg_int (hval 4 3 v4 rfl rfl) h4
  refine (law_calls Tryz.func3 rfl (by kernel_rfl) (patchTells_c w0 (fun x hx => (k0 x hx).1) (fun x hx => (k0 x hx).2) w1 (fun x hx => (k1 x hx).1) (fun x hx => (k1 x hx).2) w2 (fun x hx => (k2 x hx).1) (fun x hx => (k2 x hx).2)) hsh (args := #[v0, v1, v2, v3, v4]) ⟨R0, R1, R2, R3, R4, trivial⟩).mono fun e W' ⟨he, hb⟩ => ?_
  exact ⟨_, he, law_post laidOut rfl hW' (readable_all (by kernel_rfl)) rfl Tryz.underlying4 rfl hb⟩

theorem patchTells_holds : Rows.PatchTellsSaid :=
  OpenClaim.holds_of_wide 3 Tryz.f3 rfl rfl rfl rfl rfl rfl rfl ⟨rfl, rfl, rfl, rfl, rfl⟩ rfl rfl rfl rfl rfl (by kernel_rfl) Tryz.func3 (by kernel_rfl)
    (of_decide_eq_true (by kernel_rfl)) (by unfold Func.isWrapper; first | (rw [if_pos (by decide +kernel)]; kernel_rfl) | (rw [if_neg (by decide +kernel)]; exact ⟨rfl, rfl⟩))
    (fun os started H enc _ => patchTells_lifted os started H enc)

theorem patchTells_card : Rows.PatchTellsCardSaid :=
  Claim7.holds_tied_plain_at .later [] [.data, .pinned] true (true, "f637374b0c02c1c07006a8b55617f4492565ece31dde5af12b174bf84ce8d004") false
    patchTells_holds (fun _ h => by cases h) (by kernel_rfl) (fun _ h => by cases h) patchTells_row_tie rfl ⟨rfl, rfl⟩ (by kernel_rfl) rfl
    (fun f fn hf hfn => by
      obtain rfl : f = 3 := Option.some.inj ((show Tryz.prog.funcNamed "pentimento/pentimentolaw19.PatchTells" = some 3 by kernel_rfl).symm.trans hf) |>.symm
      obtain rfl : fn = Tryz.f3 := (Option.some.inj (Tryz.func3.symm.trans hfn)).symm
      refine ⟨by kernel_rfl, fun j t ht => ?_⟩
      have hall : (Tryz.f3.params.toList.all fun t => !Tryz.prog.wantsStandIn t) = true := by kernel_rfl
      have hm : t ∈ Tryz.f3.params.toList := by
        rw [← Array.getElem?_toList] at ht
        exact List.mem_of_getElem? ht
      have := List.all_eq_true.1 hall t hm
      have h2 : Tryz.prog.wantsStandIn t = false := by simpa using this
      exact h2)
    (by kernel_rfl)

end Go.Proofs.YtjanmkknbijecaaGreatDoor
