/-
  LayerMakes: for every input the law returns true, and each argument reads behind the call as it read before. No condition.
-/
import Derived.Test.YtfiopamaiolfhaaGreatDoorRows
import Derived.Test.YtfiopamaiolfhaaGreatDoorCards
import Derived.Test.YtfiopamaiolfhaaGreatDoorTie
import Derived.Test.YtfiopamaiolfhaaGreatDoorO1
import Derived.Test.YtfiopamaiolfhaaGreatDoorBB
import Derived.Test.YtfiopamaiolfhaaGreatDoorN27
set_option linter.unusedSimpArgs false
set_option linter.unusedVariables false
namespace Go.Proofs.YtfiopamaiolfhaaGreatDoor
open Go Go.Dm Go.RowKit Go.ChangeShapes Go.WideShapes

set_option maxRecDepth 100000 in
theorem layerMakes_lifted (os : Os) (started : os.Started) (H : Type) (enc : TypeId × Value → H) :
    ReturnsInHanded {} Tryz.checked os 7 .any (fun w args => (Rows.layerMakesSpec.pre enc Tryz.prog Tryz.f7 Rows.layerMakesRow.domain false w args ∧ laidMetH Tryz.prog Rows.layerMakesRow.laid w) ∧ sizedMet enc Tryz.prog Tryz.f7 (OpenSpec.ofChange Rows.layerMakesSpec) false w args)
      (Rows.layerMakesSpec.post enc Tryz.prog Tryz.f7 false true false false) := by
  refine handed_laidS (C := Tryz.checked) (X := fun w _ => laidMetH Tryz.prog Rows.layerMakesRow.laid w) own started (by kernel_rfl) Tryz.func7
    (laid_witness (enc := enc) (C := Tryz.checked) Rows.layerMakesRow.laid #[.slice none 0 0, .slice none 0 0, .slice none 0 0, .bool false] 8 (by kernel_rfl) (by kernel_rfl) (by kernel_rfl) (by kernel_rfl) (by kernel_rfl) (by kernel_rfl) (by kernel_rfl) (by kernel_rfl)) ?_
  intro W base args ds gs before hval0 hW hsh hsz0
  have hsz : (DataW.weightsEach Tryz.prog (Tryz.f7.params.toList ++ Rows.layerMakesSpec.plain.varTypes Tryz.prog) (ds ++ gs)).all (· ≤ reachBytes) = true := hsz0
  have hval : ∀ (j : Nat) t v, Tryz.f7.params[j]? = some t → args[j]? = some v → Value.okWide Tryz.prog W .any base t v := hval0
  have hW' := hW
  obtain ⟨pa, pv, hA0, hV, _, _, _⟩ := hW
  have hA : DataW.TrodAll enc Tryz.prog W 0 (fun _ => true) true Tryz.f7.params.toList args.toList ds pa := hA0
  obtain ⟨rfl, _⟩ := trodVars_none hV
  rw [Tryz.params7] at hA hval hsz
  obtain ⟨v0, r0, d0, e0, p0, q0, a0, rfl, _, h0, hA⟩ := trodAll_cons hA
  obtain ⟨v1, r1, d1, e1, p1, q1, rfl, rfl, _, h1, hA⟩ := trodAll_cons hA
  obtain ⟨v2, r2, d2, e2, p2, q2, rfl, rfl, _, h2, hA⟩ := trodAll_cons hA
  obtain ⟨v3, r3, d3, e3, p3, q3, rfl, rfl, _, h3, hA⟩ := trodAll_cons hA
  obtain ⟨rfl, rfl, _⟩ := trodAll_nil hA
  obtain rfl : args = #[v0, v1, v2, v3] := by cases args; simp_all
  obtain ⟨l0, ⟨w0, k0⟩, R0⟩ := arg_items (hval 0 60 v0 rfl rfl) h0
  obtain ⟨l1, ⟨w1, k1⟩, R1⟩ := arg_turns (hval 1 61 v1 rfl rfl) h1
  obtain ⟨l2, ⟨w2, k2⟩, R2⟩ := arg_items (hval 2 60 v2 rfl rfl) h2
  obtain ⟨x3, R3⟩ := arg_bool (hval 3 4 v3 rfl rfl) h3
  refine (law_calls Tryz.func7 rfl (by kernel_rfl) (layerMakes_law ⟨w0, fun x hx => (k0 x hx).1, fun x hx => (k0 x hx).2⟩ ⟨w1, fun x hx => (k1 x hx).1, fun x hx => (k1 x hx).2⟩ ⟨w2, fun x hx => (k2 x hx).1, fun x hx => (k2 x hx).2⟩) hsh (args := #[v0, v1, v2, v3]) ⟨R0, R1, R2, R3, trivial⟩).mono fun e W' ⟨he, hb⟩ => ?_
  exact ⟨_, he, law_post laidOut rfl hW' (readable_all (by kernel_rfl)) rfl Tryz.underlying4 rfl hb⟩

/-! What is computed from the program's text, in parts: one check alone would come near the memory's limit. -/
theorem layerMakes_fn : Tryz.pinned.checked.prog.funcNamed Rows.layerMakesRow.func = some 7 := by kernel_rfl
theorem layerMakes_part : ((Rows.layerMakesRow.lifted == Tryz.pinned.checked.prog.liftsFinal) && (Tryz.pinned.checked.prog.make == some Rows.layerMakesRow.make) && (Rows.layerMakesRow.plainKeys == Tryz.pinned.checked.prog.plainKeys)) = true := by kernel_rfl
theorem layerMakes_facts : joinedFacts Tryz.pinned.checked.prog 7 Tryz.f7 Rows.layerMakesSpec Rows.layerMakesRow = true := by
  have h := layerMakes_part
  rw [Bool.and_eq_true, Bool.and_eq_true] at h
  obtain ⟨⟨h1, h2⟩, h3⟩ := h
  unfold joinedFacts
  rw [h1, h2, h3]
  show (_ : Bool) = true
  kernel_rfl
theorem layerMakes_main : Tryz.pinned.checked.prog.mainIs = some (true, "0f1e9ac677c74d64b8234db5925ebcade0fb1c103bb3cc055f217e3c9b7d751a".toList) := by kernel_rfl
theorem layerMakes_goes : false = Rows.layerMakesRow.goesBy Tryz.pinned.checked.prog := by kernel_rfl

theorem layerMakes_holds : Rows.LayerMakesSaid :=
  OpenClaim.holds_of_wide 7 Tryz.f7 rfl rfl rfl rfl rfl rfl rfl ⟨rfl, rfl, rfl, rfl, rfl⟩ rfl rfl rfl rfl rfl layerMakes_fn Tryz.func7 layerMakes_facts
    (of_decide_eq_true (by kernel_rfl)) (by unfold Func.isWrapper; first | (rw [if_pos (by decide +kernel)]; kernel_rfl) | (rw [if_neg (by decide +kernel)]; exact ⟨rfl, rfl⟩))
    (fun os started H enc _ => layerMakes_lifted os started H enc)

theorem layerMakes_card : Rows.LayerMakesCardSaid :=
  Claim7.holds_tied_plain_at .later [] [.data, .pinned] true (true, "0f1e9ac677c74d64b8234db5925ebcade0fb1c103bb3cc055f217e3c9b7d751a") false
    layerMakes_holds (fun _ h => by cases h) (by kernel_rfl) (fun _ h => by cases h) layerMakes_row_tie rfl ⟨rfl, rfl⟩ layerMakes_main rfl
    (fun f fn hf hfn => by
      obtain rfl : f = 7 := Option.some.inj ((show Tryz.prog.funcNamed "pentimento/pentimentolaw12.LayerMakes" = some 7 from layerMakes_fn).symm.trans hf) |>.symm
      obtain rfl : fn = Tryz.f7 := (Option.some.inj (Tryz.func7.symm.trans hfn)).symm
      refine ⟨by kernel_rfl, fun j t ht => ?_⟩
      have hall : (Tryz.f7.params.toList.all fun t => !Tryz.prog.wantsStandIn t) = true := by kernel_rfl
      have hm : t ∈ Tryz.f7.params.toList := by
        rw [← Array.getElem?_toList] at ht
        exact List.mem_of_getElem? ht
      have := List.all_eq_true.1 hall t hm
      have h2 : Tryz.prog.wantsStandIn t = false := by simpa using this
      exact h2)
    layerMakes_goes

end Go.Proofs.YtfiopamaiolfhaaGreatDoor
