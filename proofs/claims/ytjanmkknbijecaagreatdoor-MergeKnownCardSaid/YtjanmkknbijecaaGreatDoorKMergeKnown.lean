/-
  MergeKnown: for every input the law returns true, and each argument reads behind the call as it read before. No condition.
-/
import Derived.Test.YtjanmkknbijecaaGreatDoorRows
import Derived.Test.YtjanmkknbijecaaGreatDoorCards
import Derived.Test.YtjanmkknbijecaaGreatDoorTie
import Derived.Test.YtjanmkknbijecaaGreatDoorO1
import Derived.Test.YtjanmkknbijecaaGreatDoorBB
import Derived.Test.YtjanmkknbijecaaGreatDoorQ6
set_option linter.unusedSimpArgs false
set_option linter.unusedVariables false
namespace Go.Proofs.YtjanmkknbijecaaGreatDoor
open Go Go.Dm Go.RowKit Go.ChangeShapes Go.WideShapes

set_option maxRecDepth 100000 in
theorem mergeKnown_lifted (os : Os) (started : os.Started) (H : Type) (enc : TypeId × Value → H) :
    ReturnsInHanded {} Tryz.checked os 6 .any (fun w args => (Rows.mergeKnownSpec.pre enc Tryz.prog Tryz.f6 Rows.mergeKnownRow.domain false w args ∧ laidMetH Tryz.prog Rows.mergeKnownRow.laid w) ∧ sizedMet enc Tryz.prog Tryz.f6 (OpenSpec.ofChange Rows.mergeKnownSpec) false w args)
      (Rows.mergeKnownSpec.post enc Tryz.prog Tryz.f6 false true false false) := by
  refine handed_laidS (C := Tryz.checked) (X := fun w _ => laidMetH Tryz.prog Rows.mergeKnownRow.laid w) own started (by kernel_rfl) Tryz.func6
    (laid_witness (enc := enc) (C := Tryz.checked) Rows.mergeKnownRow.laid #[] 8 (by kernel_rfl) (by kernel_rfl) (by kernel_rfl) (by kernel_rfl) (by kernel_rfl) (by kernel_rfl) (by kernel_rfl) (by kernel_rfl)) ?_
  intro W base args ds gs before hval0 hW hsh hsz0
  have hsz : (DataW.weightsEach Tryz.prog (Tryz.f6.params.toList ++ Rows.mergeKnownSpec.plain.varTypes Tryz.prog) (ds ++ gs)).all (· ≤ reachBytes) = true := hsz0
  have hval : ∀ (j : Nat) t v, Tryz.f6.params[j]? = some t → args[j]? = some v → Value.okWide Tryz.prog W .any base t v := hval0
  have hW' := hW
  obtain ⟨pa, pv, hA0, hV, _, _, _⟩ := hW
  have hA : DataW.TrodAll enc Tryz.prog W 0 (fun _ => true) true Tryz.f6.params.toList args.toList ds pa := hA0
  obtain ⟨rfl, _⟩ := trodVars_none hV
  rw [Tryz.params6] at hA hval hsz
  obtain ⟨hnil, rfl, _⟩ := trodAll_nil hA
  obtain rfl : args = #[] := by cases args; simp_all
  refine (law_calls Tryz.func6 rfl (by kernel_rfl) (mergeKnown_c) hsh (args := #[]) True.intro).mono fun e W' ⟨he, hb⟩ => ?_
  exact ⟨_, he, law_post laidOut rfl hW' (readable_all (by kernel_rfl)) rfl Tryz.underlying4 rfl hb⟩

theorem mergeKnown_holds : Rows.MergeKnownSaid :=
  OpenClaim.holds_of_wide 6 Tryz.f6 rfl rfl rfl rfl rfl rfl rfl ⟨rfl, rfl, rfl, rfl, rfl⟩ rfl rfl rfl rfl rfl (by kernel_rfl) Tryz.func6 (by kernel_rfl)
    (of_decide_eq_true (by kernel_rfl)) (by unfold Func.isWrapper; first | (rw [if_pos (by decide +kernel)]; kernel_rfl) | (rw [if_neg (by decide +kernel)]; exact ⟨rfl, rfl⟩))
    (fun os started H enc _ => mergeKnown_lifted os started H enc)

theorem mergeKnown_card : Rows.MergeKnownCardSaid :=
  Claim7.holds_tied_plain_at .later [] [.data, .pinned] true (true, "f637374b0c02c1c07006a8b55617f4492565ece31dde5af12b174bf84ce8d004") false
    mergeKnown_holds (fun _ h => by cases h) (by kernel_rfl) (fun _ h => by cases h) mergeKnown_row_tie rfl ⟨rfl, rfl⟩ (by kernel_rfl) rfl
    (fun f fn hf hfn => by
      obtain rfl : f = 6 := Option.some.inj ((show Tryz.prog.funcNamed "pentimento/pentimentolaw20.MergeKnown" = some 6 by kernel_rfl).symm.trans hf) |>.symm
      obtain rfl : fn = Tryz.f6 := (Option.some.inj (Tryz.func6.symm.trans hfn)).symm
      refine ⟨by kernel_rfl, fun j t ht => ?_⟩
      have hall : (Tryz.f6.params.toList.all fun t => !Tryz.prog.wantsStandIn t) = true := by kernel_rfl
      have hm : t ∈ Tryz.f6.params.toList := by
        rw [← Array.getElem?_toList] at ht
        exact List.mem_of_getElem? ht
      have := List.all_eq_true.1 hall t hm
      have h2 : Tryz.prog.wantsStandIn t = false := by simpa using this
      exact h2)
    (by kernel_rfl)

end Go.Proofs.YtjanmkknbijecaaGreatDoor
