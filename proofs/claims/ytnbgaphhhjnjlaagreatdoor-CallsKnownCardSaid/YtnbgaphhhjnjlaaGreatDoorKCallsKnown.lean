/-
  CallsKnown: for every input the law returns true, and each argument reads behind the call as it read before. No condition.
-/
import Derived.Test.YtnbgaphhhjnjlaaGreatDoorRows
import Derived.Test.YtnbgaphhhjnjlaaGreatDoorCards
import Derived.Test.YtnbgaphhhjnjlaaGreatDoorTie
import Derived.Test.YtnbgaphhhjnjlaaGreatDoorO1
import Derived.Test.YtnbgaphhhjnjlaaGreatDoorBB
import Derived.Test.YtnbgaphhhjnjlaaGreatDoorX2
set_option linter.unusedSimpArgs false
set_option linter.unusedVariables false
namespace Go.Proofs.YtnbgaphhhjnjlaaGreatDoor
open Go Go.Dm Go.RowKit Go.ChangeShapes Go.WideShapes

set_option maxRecDepth 100000 in
theorem callsKnown_lifted (os : Os) (started : os.Started) (H : Type) (enc : TypeId × Value → H) :
    ReturnsInHanded {} Tryz.checked os 3 .any (fun w args => (Rows.callsKnownSpec.pre enc Tryz.prog Tryz.f3 Rows.callsKnownRow.domain false w args ∧ laidMetH Tryz.prog Rows.callsKnownRow.laid w) ∧ sizedMet enc Tryz.prog Tryz.f3 (OpenSpec.ofChange Rows.callsKnownSpec) false w args)
      (Rows.callsKnownSpec.post enc Tryz.prog Tryz.f3 false true false false) := by
  refine handed_laidS (C := Tryz.checked) (X := fun w _ => laidMetH Tryz.prog Rows.callsKnownRow.laid w) own started (by kernel_rfl) Tryz.func3
    (laid_witness (enc := enc) (C := Tryz.checked) Rows.callsKnownRow.laid #[] 8 (by kernel_rfl) (by kernel_rfl) (by kernel_rfl) (by kernel_rfl) (by kernel_rfl) (by kernel_rfl) (by kernel_rfl) (by kernel_rfl)) ?_
  intro W base args ds gs before hval0 hW hsh hsz0
  have hsz : (DataW.weightsEach Tryz.prog (Tryz.f3.params.toList ++ Rows.callsKnownSpec.plain.varTypes Tryz.prog) (ds ++ gs)).all (· ≤ reachBytes) = true := hsz0
  have hval : ∀ (j : Nat) t v, Tryz.f3.params[j]? = some t → args[j]? = some v → Value.okWide Tryz.prog W .any base t v := hval0
  have hW' := hW
  obtain ⟨pa, pv, hA0, hV, _, _, _⟩ := hW
  have hA : DataW.TrodAll enc Tryz.prog W 0 (fun _ => true) true Tryz.f3.params.toList args.toList ds pa := hA0
  obtain ⟨rfl, _⟩ := trodVars_none hV
  rw [Tryz.params3] at hA hval hsz
  obtain ⟨hnil, rfl, _⟩ := trodAll_nil hA
  obtain rfl : args = #[] := by cases args; simp_all
  refine (law_calls Tryz.func3 rfl (by kernel_rfl) (callsKnown_law) hsh (args := #[]) True.intro).mono fun e W' ⟨he, hb⟩ => ?_
  exact ⟨_, he, law_post laidOut rfl hW' (readable_all (by kernel_rfl)) rfl Tryz.underlying4 rfl hb⟩

/-! What is computed from the program's text, in parts: one check alone would come near the memory's limit. -/
theorem callsKnown_fn : Tryz.pinned.checked.prog.funcNamed Rows.callsKnownRow.func = some 3 := by kernel_rfl
theorem callsKnown_part : ((Rows.callsKnownRow.lifted == Tryz.pinned.checked.prog.liftsFinal) && (Tryz.pinned.checked.prog.make == some Rows.callsKnownRow.make) && (Rows.callsKnownRow.plainKeys == Tryz.pinned.checked.prog.plainKeys)) = true := by kernel_rfl
theorem callsKnown_facts : joinedFacts Tryz.pinned.checked.prog 3 Tryz.f3 Rows.callsKnownSpec Rows.callsKnownRow = true := by
  have h := callsKnown_part
  rw [Bool.and_eq_true, Bool.and_eq_true] at h
  obtain ⟨⟨h1, h2⟩, h3⟩ := h
  unfold joinedFacts
  rw [h1, h2, h3]
  show (_ : Bool) = true
  kernel_rfl
theorem callsKnown_main : Tryz.pinned.checked.prog.mainIs = some (true, "492c6e5f79a519e2d5ff160ea550d4d9c1c7871f872b4e2f9b809b57ada3169b".toList) := by kernel_rfl
theorem callsKnown_goes : false = Rows.callsKnownRow.goesBy Tryz.pinned.checked.prog := by kernel_rfl

theorem callsKnown_holds : Rows.CallsKnownSaid :=
  OpenClaim.holds_of_wide 3 Tryz.f3 rfl rfl rfl rfl rfl rfl rfl ⟨rfl, rfl, rfl, rfl, rfl⟩ rfl rfl rfl rfl rfl callsKnown_fn Tryz.func3 callsKnown_facts
    (of_decide_eq_true (by kernel_rfl)) (by unfold Func.isWrapper; first | (rw [if_pos (by decide +kernel)]; kernel_rfl) | (rw [if_neg (by decide +kernel)]; exact ⟨rfl, rfl⟩))
    (fun os started H enc _ => callsKnown_lifted os started H enc)

theorem callsKnown_card : Rows.CallsKnownCardSaid :=
  Claim7.holds_tied_plain_at .later [] [.data, .pinned] true (true, "492c6e5f79a519e2d5ff160ea550d4d9c1c7871f872b4e2f9b809b57ada3169b") false
    callsKnown_holds (fun _ h => by cases h) (by kernel_rfl) (fun _ h => by cases h) callsKnown_row_tie rfl ⟨rfl, rfl⟩ callsKnown_main rfl
    (fun f fn hf hfn => by
      obtain rfl : f = 3 := Option.some.inj ((show Tryz.prog.funcNamed "pentimento/pentimentolaw16.CallsKnown" = some 3 from callsKnown_fn).symm.trans hf) |>.symm
      obtain rfl : fn = Tryz.f3 := (Option.some.inj (Tryz.func3.symm.trans hfn)).symm
      refine ⟨by kernel_rfl, fun j t ht => ?_⟩
      have hall : (Tryz.f3.params.toList.all fun t => !Tryz.prog.wantsStandIn t) = true := by kernel_rfl
      have hm : t ∈ Tryz.f3.params.toList := by
        rw [← Array.getElem?_toList] at ht
        exact List.mem_of_getElem? ht
      have := List.all_eq_true.1 hall t hm
      have h2 : Tryz.prog.wantsStandIn t = false := by simpa using this
      exact h2)
    callsKnown_goes

end Go.Proofs.YtnbgaphhhjnjlaaGreatDoor
