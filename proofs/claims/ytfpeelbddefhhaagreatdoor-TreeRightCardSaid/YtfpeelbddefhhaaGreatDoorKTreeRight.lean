/-
  TreeRight: for every input the law returns true, and each argument reads behind the call as it read before. No condition.
-/
import Derived.Test.YtfpeelbddefhhaaGreatDoorRows
import Derived.Test.YtfpeelbddefhhaaGreatDoorCards
import Derived.Test.YtfpeelbddefhhaaGreatDoorTie
import Derived.Test.YtfpeelbddefhhaaGreatDoorO1
import Derived.Test.YtfpeelbddefhhaaGreatDoorBB
import Derived.Test.YtfpeelbddefhhaaGreatDoorN5
set_option linter.unusedSimpArgs false
set_option linter.unusedVariables false
namespace Go.Proofs.YtfpeelbddefhhaaGreatDoor
open Go Go.Dm Go.RowKit Go.ChangeShapes Go.WideShapes

set_option maxRecDepth 100000 in
theorem treeRight_lifted (os : Os) (started : os.Started) (H : Type) (enc : TypeId × Value → H) :
    ReturnsInHanded {} Tryz.checked os 13 .any (fun w args => (Rows.treeRightSpec.pre enc Tryz.prog Tryz.f13 Rows.treeRightRow.domain false w args ∧ laidMetH Tryz.prog Rows.treeRightRow.laid w) ∧ sizedMet enc Tryz.prog Tryz.f13 (OpenSpec.ofChange Rows.treeRightSpec) false w args)
      (Rows.treeRightSpec.post enc Tryz.prog Tryz.f13 false true false false) := by
  refine handed_laidS (C := Tryz.checked) (X := fun w _ => laidMetH Tryz.prog Rows.treeRightRow.laid w) own started (by kernel_rfl) Tryz.func13
    (laid_witness (enc := enc) (C := Tryz.checked) Rows.treeRightRow.laid #[.slice none 0 0, .slice none 0 0] 8 (by kernel_rfl) (by kernel_rfl) (by kernel_rfl) (by kernel_rfl) (by kernel_rfl) (by kernel_rfl) (by kernel_rfl) (by kernel_rfl)) ?_
  intro W base args ds gs before hval0 hW hsh hsz0
  have hsz : (DataW.weightsEach Tryz.prog (Tryz.f13.params.toList ++ Rows.treeRightSpec.plain.varTypes Tryz.prog) (ds ++ gs)).all (· ≤ reachBytes) = true := hsz0
  have hval : ∀ (j : Nat) t v, Tryz.f13.params[j]? = some t → args[j]? = some v → Value.okWide Tryz.prog W .any base t v := hval0
  have hW' := hW
  obtain ⟨pa, pv, hA0, hV, _, _, _⟩ := hW
  have hA : DataW.TrodAll enc Tryz.prog W 0 (fun _ => true) true Tryz.f13.params.toList args.toList ds pa := hA0
  obtain ⟨rfl, _⟩ := trodVars_none hV
  rw [Tryz.params13] at hA hval hsz
  obtain ⟨v0, r0, d0, e0, p0, q0, a0, rfl, _, h0, hA⟩ := trodAll_cons hA
  obtain ⟨v1, r1, d1, e1, p1, q1, rfl, rfl, _, h1, hA⟩ := trodAll_cons hA
  obtain ⟨rfl, rfl, _⟩ := trodAll_nil hA
  obtain rfl : args = #[v0, v1] := by cases args; simp_all
  obtain ⟨l0, ⟨w0, k0⟩, R0⟩ := arg_items (hval 0 60 v0 rfl rfl) h0
  obtain ⟨l1, ⟨w1, k1⟩, R1⟩ := arg_turns (hval 1 61 v1 rfl rfl) h1
  refine (law_calls Tryz.func13 rfl (by kernel_rfl) (treeRight_law w0 (fun x hx => (k0 x hx).1) (fun x hx => (k0 x hx).2) w1 (fun x hx => (k1 x hx).1) (fun x hx => (k1 x hx).2)) hsh (args := #[v0, v1]) ⟨R0, R1, trivial⟩).mono fun e W' ⟨he, hb⟩ => ?_
  exact ⟨_, he, law_post laidOut rfl hW' (readable_all (by kernel_rfl)) rfl Tryz.underlying4 rfl hb⟩

/-! What is computed from the program's text, in parts: one check alone would come near the memory's limit. -/
theorem treeRight_fn : Tryz.pinned.checked.prog.funcNamed Rows.treeRightRow.func = some 13 := by kernel_rfl
theorem treeRight_part : ((Rows.treeRightRow.lifted == Tryz.pinned.checked.prog.liftsFinal) && (Tryz.pinned.checked.prog.make == some Rows.treeRightRow.make) && (Rows.treeRightRow.plainKeys == Tryz.pinned.checked.prog.plainKeys)) = true := by kernel_rfl
theorem treeRight_facts : joinedFacts Tryz.pinned.checked.prog 13 Tryz.f13 Rows.treeRightSpec Rows.treeRightRow = true := by
  have h := treeRight_part
  rw [Bool.and_eq_true, Bool.and_eq_true] at h
  obtain ⟨⟨h1, h2⟩, h3⟩ := h
  unfold joinedFacts
  rw [h1, h2, h3]
  show (_ : Bool) = true
  kernel_rfl
theorem treeRight_main : Tryz.pinned.checked.prog.mainIs = some (true, "e9128afba10f37ab3f2d628fb28dfd582e418dad7a949137b67cf4058e559f2d".toList) := by kernel_rfl
theorem treeRight_goes : false = Rows.treeRightRow.goesBy Tryz.pinned.checked.prog := by kernel_rfl

theorem treeRight_holds : Rows.TreeRightSaid :=
  OpenClaim.holds_of_wide 13 Tryz.f13 rfl rfl rfl rfl rfl rfl rfl ⟨rfl, rfl, rfl, rfl, rfl⟩ rfl rfl rfl rfl rfl treeRight_fn Tryz.func13 treeRight_facts
    (of_decide_eq_true (by kernel_rfl)) (by unfold Func.isWrapper; first | (rw [if_pos (by decide +kernel)]; kernel_rfl) | (rw [if_neg (by decide +kernel)]; exact ⟨rfl, rfl⟩))
    (fun os started H enc _ => treeRight_lifted os started H enc)

theorem treeRight_card : Rows.TreeRightCardSaid :=
  Claim7.holds_tied_plain_at .later [] [.data, .pinned] true (true, "e9128afba10f37ab3f2d628fb28dfd582e418dad7a949137b67cf4058e559f2d") false
    treeRight_holds (fun _ h => by cases h) (by kernel_rfl) (fun _ h => by cases h) treeRight_row_tie rfl ⟨rfl, rfl⟩ treeRight_main rfl
    (fun f fn hf hfn => by
      obtain rfl : f = 13 := Option.some.inj ((show Tryz.prog.funcNamed "pentimento/pentimentolaw11.TreeRight" = some 13 from treeRight_fn).symm.trans hf) |>.symm
      obtain rfl : fn = Tryz.f13 := (Option.some.inj (Tryz.func13.symm.trans hfn)).symm
      refine ⟨by kernel_rfl, fun j t ht => ?_⟩
      have hall : (Tryz.f13.params.toList.all fun t => !Tryz.prog.wantsStandIn t) = true := by kernel_rfl
      have hm : t ∈ Tryz.f13.params.toList := by
        rw [← Array.getElem?_toList] at ht
        exact List.mem_of_getElem? ht
      have := List.all_eq_true.1 hall t hm
      have h2 : Tryz.prog.wantsStandIn t = false := by simpa using this
      exact h2)
    treeRight_goes

end Go.Proofs.YtfpeelbddefhhaaGreatDoor
