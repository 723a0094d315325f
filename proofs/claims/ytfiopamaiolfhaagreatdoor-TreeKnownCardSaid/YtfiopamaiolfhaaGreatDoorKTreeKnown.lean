/-
  TreeKnown: for every input the law returns true, and each argument reads behind the call as it read before. No condition.
-/
import Derived.Test.YtfiopamaiolfhaaGreatDoorRows
import Derived.Test.YtfiopamaiolfhaaGreatDoorCards
import Derived.Test.YtfiopamaiolfhaaGreatDoorTie
import Derived.Test.YtfiopamaiolfhaaGreatDoorO1
import Derived.Test.YtfiopamaiolfhaaGreatDoorBB
import Derived.Test.YtfiopamaiolfhaaGreatDoorN30
set_option linter.unusedSimpArgs false
set_option linter.unusedVariables false
namespace Go.Proofs.YtfiopamaiolfhaaGreatDoor
open Go Go.Dm Go.RowKit Go.ChangeShapes Go.WideShapes

set_option maxRecDepth 100000 in
theorem treeKnown_lifted (os : Os) (started : os.Started) (H : Type) (enc : TypeId × Value → H) :
    ReturnsInHanded {} Tryz.checked os 11 .any (fun w args => (Rows.treeKnownSpec.pre enc Tryz.prog Tryz.f11 Rows.treeKnownRow.domain false w args ∧ laidMetH Tryz.prog Rows.treeKnownRow.laid w) ∧ sizedMet enc Tryz.prog Tryz.f11 (OpenSpec.ofChange Rows.treeKnownSpec) false w args)
      (Rows.treeKnownSpec.post enc Tryz.prog Tryz.f11 false true false false) := by
  refine handed_laidS (C := Tryz.checked) (X := fun w _ => laidMetH Tryz.prog Rows.treeKnownRow.laid w) own started (by kernel_rfl) Tryz.func11
    (laid_witness (enc := enc) (C := Tryz.checked) Rows.treeKnownRow.laid #[] 8 (by kernel_rfl) (by kernel_rfl) (by kernel_rfl) (by kernel_rfl) (by kernel_rfl) (by kernel_rfl) (by kernel_rfl) (by kernel_rfl)) ?_
  intro W base args ds gs before hval0 hW hsh hsz0
  have hsz : (DataW.weightsEach Tryz.prog (Tryz.f11.params.toList ++ Rows.treeKnownSpec.plain.varTypes Tryz.prog) (ds ++ gs)).all (· ≤ reachBytes) = true := hsz0
  have hval : ∀ (j : Nat) t v, Tryz.f11.params[j]? = some t → args[j]? = some v → Value.okWide Tryz.prog W .any base t v := hval0
  have hW' := hW
  obtain ⟨pa, pv, hA0, hV, _, _, _⟩ := hW
  have hA : DataW.TrodAll enc Tryz.prog W 0 (fun _ => true) true Tryz.f11.params.toList args.toList ds pa := hA0
  obtain ⟨rfl, _⟩ := trodVars_none hV
  rw [Tryz.params11] at hA hval hsz
  obtain ⟨hnil, rfl, _⟩ := trodAll_nil hA
  obtain rfl : args = #[] := by cases args; simp_all
  refine (law_calls Tryz.func11 rfl (by kernel_rfl) (treeKnown_law) hsh (args := #[]) True.intro).mono fun e W' ⟨he, hb⟩ => ?_
  exact ⟨_, he, law_post laidOut rfl hW' (readable_all (by kernel_rfl)) rfl Tryz.underlying4 rfl hb⟩

/-! What is computed from the program's text, in parts: one check alone would come near the memory's limit. -/
theorem treeKnown_fn : Tryz.pinned.checked.prog.funcNamed Rows.treeKnownRow.func = some 11 := by kernel_rfl
theorem treeKnown_part : ((Rows.treeKnownRow.lifted == Tryz.pinned.checked.prog.liftsFinal) && (Tryz.pinned.checked.prog.make == some Rows.treeKnownRow.make) && (Rows.treeKnownRow.plainKeys == Tryz.pinned.checked.prog.plainKeys)) = true := by kernel_rfl
theorem treeKnown_facts : joinedFacts Tryz.pinned.checked.prog 11 Tryz.f11 Rows.treeKnownSpec Rows.treeKnownRow = true := by
  have h := treeKnown_part
  rw [Bool.and_eq_true, Bool.and_eq_true] at h
  obtain ⟨⟨h1, h2⟩, h3⟩ := h
  unfold joinedFacts
  rw [h1, h2, h3]
  show (_ : Bool) = true
  kernel_rfl
theorem treeKnown_main : Tryz.pinned.checked.prog.mainIs = some (true, "0f1e9ac677c74d64b8234db5925ebcade0fb1c103bb3cc055f217e3c9b7d751a".toList) := by kernel_rfl
theorem treeKnown_goes : false = Rows.treeKnownRow.goesBy Tryz.pinned.checked.prog := by kernel_rfl

theorem treeKnown_holds : Rows.TreeKnownSaid :=
  OpenClaim.holds_of_wide 11 Tryz.f11 rfl rfl rfl rfl rfl rfl rfl ⟨rfl, rfl, rfl, rfl, rfl⟩ rfl rfl rfl rfl rfl treeKnown_fn Tryz.func11 treeKnown_facts
    (of_decide_eq_true (by kernel_rfl)) (by unfold Func.isWrapper; first | (rw [if_pos (by decide +kernel)]; kernel_rfl) | (rw [if_neg (by decide +kernel)]; exact ⟨rfl, rfl⟩))
    (fun os started H enc _ => treeKnown_lifted os started H enc)

theorem treeKnown_card : Rows.TreeKnownCardSaid :=
  Claim7.holds_tied_plain_at .later [] [.data, .pinned] true (true, "0f1e9ac677c74d64b8234db5925ebcade0fb1c103bb3cc055f217e3c9b7d751a") false
    treeKnown_holds (fun _ h => by cases h) (by kernel_rfl) (fun _ h => by cases h) treeKnown_row_tie rfl ⟨rfl, rfl⟩ treeKnown_main rfl
    (fun f fn hf hfn => by
      obtain rfl : f = 11 := Option.some.inj ((show Tryz.prog.funcNamed "pentimento/pentimentolaw11.TreeKnown" = some 11 from treeKnown_fn).symm.trans hf) |>.symm
      obtain rfl : fn = Tryz.f11 := (Option.some.inj (Tryz.func11.symm.trans hfn)).symm
      refine ⟨by kernel_rfl, fun j t ht => ?_⟩
      have hall : (Tryz.f11.params.toList.all fun t => !Tryz.prog.wantsStandIn t) = true := by kernel_rfl
      have hm : t ∈ Tryz.f11.params.toList := by
        rw [← Array.getElem?_toList] at ht
        exact List.mem_of_getElem? ht
      have := List.all_eq_true.1 hall t hm
      have h2 : Tryz.prog.wantsStandIn t = false := by simpa using this
      exact h2)
    treeKnown_goes

end Go.Proofs.YtfiopamaiolfhaaGreatDoor
