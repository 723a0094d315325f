/-
  DiffKnown: for every input the law returns true, and each argument reads behind the call as it read before. No condition.
-/
import Derived.Test.YtmgglafcpebabaaGreatDoorRows
import Derived.Test.YtmgglafcpebabaaGreatDoorCards
import Derived.Test.YtmgglafcpebabaaGreatDoorTie
import Derived.Test.YtmgglafcpebabaaGreatDoorO3
import Derived.Test.YtmgglafcpebabaaGreatDoorBB
import Derived.Test.YtmgglafcpebabaaGreatDoorH7
set_option linter.unusedSimpArgs false
set_option linter.unusedVariables false
namespace Go.Proofs.YtmgglafcpebabaaGreatDoor
open Go Go.Dm Go.RowKit Go.ChangeShapes Go.WideShapes

set_option maxRecDepth 100000 in
theorem diffKnown_lifted (os : Os) (started : os.Started) (H : Type) (enc : TypeId × Value → H) :
    ReturnsInHanded {} Tryz.checked os 7 .any (fun w args => (Rows.diffKnownSpec.pre enc Tryz.prog Tryz.f7 Rows.diffKnownRow.domain false w args ∧ laidMetH Tryz.prog Rows.diffKnownRow.laid w) ∧ sizedMet enc Tryz.prog Tryz.f7 (OpenSpec.ofChange Rows.diffKnownSpec) false w args)
      (Rows.diffKnownSpec.post enc Tryz.prog Tryz.f7 false true false false) := by
  refine handed_laidS (C := Tryz.checked) (X := fun w _ => laidMetH Tryz.prog Rows.diffKnownRow.laid w) own started (by kernel_rfl) Tryz.func7
    (laid_witness (enc := enc) (C := Tryz.checked) Rows.diffKnownRow.laid #[] 8 (by kernel_rfl) (by kernel_rfl) (by kernel_rfl) (by kernel_rfl) (by kernel_rfl) (by kernel_rfl) (by kernel_rfl) (by kernel_rfl)) ?_
  intro W base args ds gs before hval0 hW hsh hsz0
  have hsz : (DataW.weightsEach Tryz.prog (Tryz.f7.params.toList ++ Rows.diffKnownSpec.plain.varTypes Tryz.prog) (ds ++ gs)).all (· ≤ reachBytes) = true := hsz0
  have hval : ∀ (j : Nat) t v, Tryz.f7.params[j]? = some t → args[j]? = some v → Value.okWide Tryz.prog W .any base t v := hval0
  have hW' := hW
  obtain ⟨pa, pv, hA0, hV, _, _, _⟩ := hW
  have hA : DataW.TrodAll enc Tryz.prog W 0 (fun _ => true) true Tryz.f7.params.toList args.toList ds pa := hA0
  obtain ⟨rfl, _⟩ := trodVars_none hV
  rw [Tryz.params7] at hA hval hsz
  obtain ⟨hnil, rfl, _⟩ := trodAll_nil hA
  obtain rfl : args = #[] := by cases args; simp_all
  refine (law_calls Tryz.func7 rfl (by kernel_rfl) (diffKnown_c) hsh (args := #[]) True.intro).mono fun e W' ⟨he, hb⟩ => ?_
  exact ⟨_, he, law_post laidOut rfl hW' (readable_all (by kernel_rfl)) rfl Tryz.underlying4 rfl hb⟩

theorem diffKnown_holds : Rows.DiffKnownSaid :=
  OpenClaim.holds_of_wide 7 Tryz.f7 rfl rfl rfl rfl rfl rfl rfl ⟨rfl, rfl, rfl, rfl, rfl⟩ rfl rfl rfl rfl rfl (by kernel_rfl) Tryz.func7 (by kernel_rfl)
    (of_decide_eq_true (by kernel_rfl)) (by unfold Func.isWrapper; first | (rw [if_pos (by decide +kernel)]; kernel_rfl) | (rw [if_neg (by decide +kernel)]; exact ⟨rfl, rfl⟩))
    (fun os started H enc _ => diffKnown_lifted os started H enc)

theorem diffKnown_card : Rows.DiffKnownCardSaid :=
  Claim7.holds_tied_plain_at .later [] [.data, .pinned] true (true, "9078e50b8989b8ded6a7fc6c231caf8f699ed2f8dec97755c3d458a781fbb216") false
    diffKnown_holds (fun _ h => by cases h) (by kernel_rfl) (fun _ h => by cases h) diffKnown_row_tie rfl ⟨rfl, rfl⟩ (by kernel_rfl) rfl
    (fun f fn hf hfn => by
      obtain rfl : f = 7 := Option.some.inj ((show Tryz.prog.funcNamed "pentimento/pentimentolaw17.DiffKnown" = some 7 by kernel_rfl).symm.trans hf) |>.symm
      obtain rfl : fn = Tryz.f7 := (Option.some.inj (Tryz.func7.symm.trans hfn)).symm
      refine ⟨by kernel_rfl, fun j t ht => ?_⟩
      have hall : (Tryz.f7.params.toList.all fun t => !Tryz.prog.wantsStandIn t) = true := by kernel_rfl
      have hm : t ∈ Tryz.f7.params.toList := by
        rw [← Array.getElem?_toList] at ht
        exact List.mem_of_getElem? ht
      have := List.all_eq_true.1 hall t hm
      have h2 : Tryz.prog.wantsStandIn t = false := by simpa using this
      exact h2)
    (by kernel_rfl)

end Go.Proofs.YtmgglafcpebabaaGreatDoor
