/-
  PatchLeads: for every input the law returns true, and each argument reads behind the call as it read before. No condition.
-/
import Derived.Test.YtjanmkknbijecaaGreatDoorRows
import Derived.Test.YtjanmkknbijecaaGreatDoorCards
import Derived.Test.YtjanmkknbijecaaGreatDoorTie
import Derived.Test.YtjanmkknbijecaaGreatDoorO1
import Derived.Test.YtjanmkknbijecaaGreatDoorBB
import Derived.Test.YtjanmkknbijecaaGreatDoorQ9
set_option linter.unusedSimpArgs false
set_option linter.unusedVariables false
namespace Go.Proofs.YtjanmkknbijecaaGreatDoor
open Go Go.Dm Go.RowKit Go.ChangeShapes Go.WideShapes

set_option maxRecDepth 100000 in
theorem patchLeads_lifted (os : Os) (started : os.Started) (H : Type) (enc : TypeId × Value → H) :
    ReturnsInHanded {} Tryz.checked os 5 .any (fun w args => (Rows.patchLeadsSpec.pre enc Tryz.prog Tryz.f5 Rows.patchLeadsRow.domain false w args ∧ laidMetH Tryz.prog Rows.patchLeadsRow.laid w) ∧ sizedMet enc Tryz.prog Tryz.f5 (OpenSpec.ofChange Rows.patchLeadsSpec) false w args)
      (Rows.patchLeadsSpec.post enc Tryz.prog Tryz.f5 false true false false) := by
  refine handed_laidS (C := Tryz.checked) (X := fun w _ => laidMetH Tryz.prog Rows.patchLeadsRow.laid w) own started (by kernel_rfl) Tryz.func5
    (laid_witness (enc := enc) (C := Tryz.checked) Rows.patchLeadsRow.laid #[.slice none 0 0, .slice none 0 0, .slice none 0 0, .bool false] 8 (by kernel_rfl) (by kernel_rfl) (by kernel_rfl) (by kernel_rfl) (by kernel_rfl) (by kernel_rfl) (by kernel_rfl) (by kernel_rfl)) ?_
  intro W base args ds gs before hval0 hW hsh hsz0
  have hsz : (DataW.weightsEach Tryz.prog (Tryz.f5.params.toList ++ Rows.patchLeadsSpec.plain.varTypes Tryz.prog) (ds ++ gs)).all (· ≤ reachBytes) = true := hsz0
  have hval : ∀ (j : Nat) t v, Tryz.f5.params[j]? = some t → args[j]? = some v → Value.okWide Tryz.prog W .any base t v := hval0
  have hW' := hW
  obtain ⟨pa, pv, hA0, hV, _, _, _⟩ := hW
  have hA : DataW.TrodAll enc Tryz.prog W 0 (fun _ => true) true Tryz.f5.params.toList args.toList ds pa := hA0
  obtain ⟨rfl, _⟩ := trodVars_none hV
  rw [Tryz.params5] at hA hval hsz
  obtain ⟨v0, r0, d0, e0, p0, q0, a0, rfl, _, h0, hA⟩ := trodAll_cons hA
  obtain ⟨v1, r1, d1, e1, p1, q1, rfl, rfl, _, h1, hA⟩ := trodAll_cons hA
  obtain ⟨v2, r2, d2, e2, p2, q2, rfl, rfl, _, h2, hA⟩ := trodAll_cons hA
  obtain ⟨v3, r3, d3, e3, p3, q3, rfl, rfl, _, h3, hA⟩ := trodAll_cons hA
  obtain ⟨rfl, rfl, _⟩ := trodAll_nil hA
  obtain rfl : args = #[v0, v1, v2, v3] := by cases args; simp_all
  obtain ⟨l0, ⟨w0, k0⟩, R0⟩ := arg_items (hval 0 22 v0 rfl rfl) h0
  obtain ⟨l1, ⟨w1, k1⟩, R1⟩ := arg_turns (hval 1 23 v1 rfl rfl) h1
  obtain ⟨l2, ⟨w2, k2⟩, R2⟩ := arg_items (hval 2 22 v2 rfl rfl) h2
  obtain ⟨x3, R3⟩ := arg_bool (hval 3 4 v3 rfl rfl) h3
  refine (law_calls Tryz.func5 rfl (by kernel_rfl) (patchLeads_c w0 (fun x hx => (k0 x hx).1) (fun x hx => (k0 x hx).2) w1 (fun x hx => (k1 x hx).1) (fun x hx => (k1 x hx).2) w2 (fun x hx => (k2 x hx).1) (fun x hx => (k2 x hx).2) x3) hsh (args := #[v0, v1, v2, v3]) ⟨R0, R1, R2, R3, trivial⟩).mono fun e W' ⟨he, hb⟩ => ?_
  exact ⟨_, he, law_post laidOut rfl hW' (readable_all (by kernel_rfl)) rfl Tryz.underlying4 rfl hb⟩

theorem patchLeads_holds : Rows.PatchLeadsSaid :=
  OpenClaim.holds_of_wide 5 Tryz.f5 rfl rfl rfl rfl rfl rfl rfl ⟨rfl, rfl, rfl, rfl, rfl⟩ rfl rfl rfl rfl rfl (by kernel_rfl) Tryz.func5 (by kernel_rfl)
    (of_decide_eq_true (by kernel_rfl)) (by unfold Func.isWrapper; first | (rw [if_pos (by decide +kernel)]; kernel_rfl) | (rw [if_neg (by decide +kernel)]; exact ⟨rfl, rfl⟩))
    (fun os started H enc _ => patchLeads_lifted os started H enc)

theorem patchLeads_card : Rows.PatchLeadsCardSaid :=
  Claim7.holds_tied_plain_at .later [] [.data, .pinned] true (true, "f637374b0c02c1c07006a8b55617f4492565ece31dde5af12b174bf84ce8d004") false
    patchLeads_holds (fun _ h => by cases h) (by kernel_rfl) (fun _ h => by cases h) patchLeads_row_tie rfl ⟨rfl, rfl⟩ (by kernel_rfl) rfl
    (fun f fn hf hfn => by
      obtain rfl : f = 5 := Option.some.inj ((show Tryz.prog.funcNamed "pentimento/pentimentolaw19.PatchLeads" = some 5 by kernel_rfl).symm.trans hf) |>.symm
      obtain rfl : fn = Tryz.f5 := (Option.some.inj (Tryz.func5.symm.trans hfn)).symm
      refine ⟨by kernel_rfl, fun j t ht => ?_⟩
      have hall : (Tryz.f5.params.toList.all fun t => !Tryz.prog.wantsStandIn t) = true := by kernel_rfl
      have hm : t ∈ Tryz.f5.params.toList := by
        rw [← Array.getElem?_toList] at ht
        exact List.mem_of_getElem? ht
      have := List.all_eq_true.1 hall t hm
      have h2 : Tryz.prog.wantsStandIn t = false := by simpa using this
      exact h2)
    (by kernel_rfl)

end Go.Proofs.YtjanmkknbijecaaGreatDoor
