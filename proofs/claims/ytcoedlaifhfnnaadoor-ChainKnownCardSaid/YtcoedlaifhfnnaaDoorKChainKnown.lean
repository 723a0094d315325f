/-
  ChainKnown: for every input the law returns true, and each argument reads behind the call as it read before. No condition.
-/
import Derived.Test.YtcoedlaifhfnnaaDoorRows
import Derived.Test.YtcoedlaifhfnnaaDoorCards
import Derived.Test.YtcoedlaifhfnnaaDoorTie
import Derived.Test.YtcoedlaifhfnnaaDoorO1
import Derived.Test.YtcoedlaifhfnnaaDoorBB
import Derived.Test.YtcoedlaifhfnnaaDoorN50
set_option linter.unusedSimpArgs false
set_option linter.unusedVariables false
namespace Go.Proofs.YtcoedlaifhfnnaaDoor
open Go Go.Dm Go.RowKit Go.ChangeShapes Go.WideShapes

set_option maxRecDepth 100000 in
theorem chainKnown_lifted (os : Os) (started : os.Started) (H : Type) (enc : TypeId × Value → H) :
    ReturnsInHanded {} Tryd.checked os 3 .any (fun w args => (Rows.chainKnownSpec.pre enc Tryd.prog Tryd.f3 Rows.chainKnownRow.domain false w args ∧ laidMetH Tryd.prog Rows.chainKnownRow.laid w) ∧ sizedMet enc Tryd.prog Tryd.f3 (OpenSpec.ofChange Rows.chainKnownSpec) false w args)
      (Rows.chainKnownSpec.post enc Tryd.prog Tryd.f3 false true false false) := by
  refine handed_laidS (C := Tryd.checked) (X := fun w _ => laidMetH Tryd.prog Rows.chainKnownRow.laid w) own started (by kernel_rfl) Tryd.func3
    (laid_witness (enc := enc) (C := Tryd.checked) Rows.chainKnownRow.laid #[] 8 (by kernel_rfl) (by kernel_rfl) (by kernel_rfl) (by kernel_rfl) (by kernel_rfl) (by kernel_rfl) (by kernel_rfl) (by kernel_rfl)) ?_
  intro W base args ds gs before hval0 hW hsh hsz0 hx0
  have hsz : (DataW.weightsEach Tryd.prog (Tryd.f3.params.toList ++ Rows.chainKnownSpec.plain.varTypes Tryd.prog) (ds ++ gs)).all (· ≤ reachBytes) = true := hsz0
  have hval : ∀ (j : Nat) t v, Tryd.f3.params[j]? = some t → args[j]? = some v → Value.okWide Tryd.prog W .any base t v := hval0
  have hW' := hW
  obtain ⟨pa, pv, hA0, hV, _, _, _⟩ := hW
  have hA : DataW.TrodAll enc Tryd.prog W 0 (fun _ => true) true Tryd.f3.params.toList args.toList ds pa := hA0
  obtain ⟨rfl, _⟩ := trodVars_none hV
  rw [Tryd.params3] at hA hval hsz
  obtain ⟨hnil, rfl, _⟩ := trodAll_nil hA
  obtain rfl : args = #[] := by cases args; simp_all
  refine (law_calls Tryd.func3 rfl (by kernel_rfl) (chainKnown_law) hsh (fun g j v h => by simp [said] at h) (args := #[]) True.intro).mono fun e W' ⟨he, hb⟩ => ?_
  exact ⟨_, he, law_post laidOut rfl hW' (readable_all (by kernel_rfl)) rfl Tryd.underlying4 rfl hb⟩

/-! What is computed from the program's text, in parts: one check alone would come near the memory's limit. -/
theorem chainKnown_fn : Tryd.pinned.checked.prog.funcNamed Rows.chainKnownRow.func = some 3 := by kernel_rfl
theorem chainKnown_part : ((Rows.chainKnownRow.lifted == Tryd.pinned.checked.prog.liftsFinal) && (Tryd.pinned.checked.prog.make == some Rows.chainKnownRow.make) && (Rows.chainKnownRow.plainKeys == Tryd.pinned.checked.prog.plainKeys)) = true := by kernel_rfl
theorem chainKnown_facts : joinedFacts Tryd.pinned.checked.prog 3 Tryd.f3 Rows.chainKnownSpec Rows.chainKnownRow = true := by
  have h := chainKnown_part
  rw [Bool.and_eq_true, Bool.and_eq_true] at h
  obtain ⟨⟨h1, h2⟩, h3⟩ := h
  unfold joinedFacts
  rw [h1, h2, h3]
  show (_ : Bool) = true
  kernel_rfl
theorem chainKnown_main : Tryd.pinned.checked.prog.mainIs = some (true, "d7bc63690785ba595a0651d6df5329b2bcd6253bdc2e329f75f474e76c42d1c7".toList) := by kernel_rfl
theorem chainKnown_goes : false = Rows.chainKnownRow.goesBy Tryd.pinned.checked.prog := by kernel_rfl

theorem chainKnown_holds : Rows.ChainKnownSaid :=
  OpenClaim.holds_of_wide 3 Tryd.f3 rfl rfl rfl rfl rfl rfl rfl ⟨rfl, rfl, rfl, rfl, rfl⟩ rfl rfl rfl rfl rfl chainKnown_fn Tryd.func3 chainKnown_facts
    (of_decide_eq_true (by kernel_rfl)) (by unfold Func.isWrapper; first | (rw [if_pos (by decide +kernel)]; kernel_rfl) | (rw [if_neg (by decide +kernel)]; exact ⟨rfl, rfl⟩))
    (fun os started H enc _ => chainKnown_lifted os started H enc)

theorem chainKnown_card : Rows.ChainKnownCardSaid :=
  Claim7.holds_tied_plain_at .later [] [.data, .pinned] true (true, "d7bc63690785ba595a0651d6df5329b2bcd6253bdc2e329f75f474e76c42d1c7") false
    chainKnown_holds (fun _ h => by cases h) (by kernel_rfl) (fun _ h => by cases h) chainKnown_row_tie rfl ⟨rfl, rfl⟩ chainKnown_main rfl
    (fun f fn hf hfn => by
      obtain rfl : f = 3 := Option.some.inj ((show Tryd.prog.funcNamed "pentimento/pentimentolaw14.ChainKnown" = some 3 from chainKnown_fn).symm.trans hf) |>.symm
      obtain rfl : fn = Tryd.f3 := (Option.some.inj (Tryd.func3.symm.trans hfn)).symm
      refine ⟨by kernel_rfl, fun j t ht => ?_⟩
      have hall : (Tryd.f3.params.toList.all fun t => !Tryd.prog.wantsStandIn t) = true := by kernel_rfl
      have hm : t ∈ Tryd.f3.params.toList := by
        rw [← Array.getElem?_toList] at ht
        exact List.mem_of_getElem? ht
      have := List.all_eq_true.1 hall t hm
      have h2 : Tryd.prog.wantsStandIn t = false := by simpa using this
      exact h2)
    chainKnown_goes

end Go.Proofs.YtcoedlaifhfnnaaDoor
