/-
  LayerOvers: for every input the law returns true, and each argument reads behind the call as it read before. No condition.
-/
import Derived.Test.YtjpmajeekikdhaaGreatDoorRows
import Derived.Test.YtjpmajeekikdhaaGreatDoorCards
import Derived.Test.YtjpmajeekikdhaaGreatDoorTie
import Derived.Test.YtjpmajeekikdhaaGreatDoorO1
import Derived.Test.YtjpmajeekikdhaaGreatDoorBB
import Derived.Test.YtjpmajeekikdhaaGreatDoorN42
set_option linter.unusedSimpArgs false
set_option linter.unusedVariables false
namespace Go.Proofs.YtjpmajeekikdhaaGreatDoor
open Go Go.Dm Go.RowKit Go.ChangeShapes Go.WideShapes

set_option maxRecDepth 100000 in
theorem layerOvers_lifted (os : Os) (started : os.Started) (H : Type) (enc : TypeId × Value → H) :
    ReturnsInHanded {} Tryz.checked os 3 .any (fun w args => (Rows.layerOversSpec.pre enc Tryz.prog Tryz.f3 Rows.layerOversRow.domain false w args ∧ laidMetH Tryz.prog Rows.layerOversRow.laid w) ∧ sizedMet enc Tryz.prog Tryz.f3 (OpenSpec.ofChange Rows.layerOversSpec) false w args)
      (Rows.layerOversSpec.post enc Tryz.prog Tryz.f3 false true false false) := by
  refine handed_laidS (C := Tryz.checked) (X := fun w _ => laidMetH Tryz.prog Rows.layerOversRow.laid w) own started (by kernel_rfl) Tryz.func3
    (laid_witness (enc := enc) (C := Tryz.checked) Rows.layerOversRow.laid #[.slice none 0 0, .slice none 0 0, .slice none 0 0, .int .i64 0, .int .i64 0, .agg #[.int .i64 0, .int .i64 0, .int .i64 0, .float .f64 0, .slice none 0 0], .slice none 0 0, .slice none 0 0, .int .u8 0] 8 (by kernel_rfl) (by kernel_rfl) (by kernel_rfl) (by kernel_rfl) (by kernel_rfl) (by kernel_rfl) (by kernel_rfl) (by kernel_rfl)) ?_
  intro W base args ds gs before hval0 hW hsh hsz0
  have hsz : (DataW.weightsEach Tryz.prog (Tryz.f3.params.toList ++ Rows.layerOversSpec.plain.varTypes Tryz.prog) (ds ++ gs)).all (· ≤ reachBytes) = true := hsz0
  have hval : ∀ (j : Nat) t v, Tryz.f3.params[j]? = some t → args[j]? = some v → Value.okWide Tryz.prog W .any base t v := hval0
  have hW' := hW
  obtain ⟨pa, pv, hA0, hV, _, _, _⟩ := hW
  have hA : DataW.TrodAll enc Tryz.prog W 0 (fun _ => true) true Tryz.f3.params.toList args.toList ds pa := hA0
  obtain ⟨rfl, _⟩ := trodVars_none hV
  rw [Tryz.params3] at hA hval hsz
  obtain ⟨v0, r0, d0, e0, p0, q0, a0, rfl, _, h0, hA⟩ := trodAll_cons hA
  obtain ⟨v1, r1, d1, e1, p1, q1, rfl, rfl, _, h1, hA⟩ := trodAll_cons hA
  obtain ⟨v2, r2, d2, e2, p2, q2, rfl, rfl, _, h2, hA⟩ := trodAll_cons hA
  obtain ⟨v3, r3, d3, e3, p3, q3, rfl, rfl, _, h3, hA⟩ := trodAll_cons hA
  obtain ⟨v4, r4, d4, e4, p4, q4, rfl, rfl, _, h4, hA⟩ := trodAll_cons hA
  obtain ⟨v5, r5, d5, e5, p5, q5, rfl, rfl, _, h5, hA⟩ := trodAll_cons hA
  obtain ⟨v6, r6, d6, e6, p6, q6, rfl, rfl, _, h6, hA⟩ := trodAll_cons hA
  obtain ⟨v7, r7, d7, e7, p7, q7, rfl, rfl, _, h7, hA⟩ := trodAll_cons hA
  obtain ⟨v8, r8, d8, e8, p8, q8, rfl, rfl, _, h8, hA⟩ := trodAll_cons hA
  obtain ⟨rfl, rfl, _⟩ := trodAll_nil hA
  obtain rfl : args = #[v0, v1, v2, v3, v4, v5, v6, v7, v8] := by cases args; simp_all
  obtain ⟨l0, ⟨w0, k0⟩, R0⟩ := arg_items (hval 0 22 v0 rfl rfl) h0
  obtain ⟨l1, ⟨w1, k1⟩, R1⟩ := arg_items (hval 1 22 v1 rfl rfl) h1
  obtain ⟨l2, ⟨w2, k2⟩, R2⟩ := arg_items (hval 2 22 v2 rfl rfl) h2
  obtain ⟨x3, R3⟩ := arg_int (hval 3 3 v3 rfl rfl) h3
  obtain ⟨x4, R4⟩ := arg_int (hval 4 3 v4 rfl rfl) h4
  obtain ⟨n5k, n5m, n5t, n5x, n5l, ⟨w5, k5⟩, R5⟩ := arg_rn (hval 5 26 v5 rfl rfl) h5
  obtain ⟨l6, w6, R6⟩ := arg_bytes (hval 6 24 v6 rfl rfl) h6
  have b6 := bytes_reach (j := 6) hsz rfl rfl h6 R6
  obtain ⟨l7, w7, R7⟩ := arg_ints (hval 7 27 v7 rfl rfl) h7
  obtain ⟨x8, R8⟩ := arg_byte (hval 8 5 v8 rfl rfl) h8
  refine (law_calls Tryz.func3 rfl (by kernel_rfl) (layerOvers_law ⟨w0, fun x hx => (k0 x hx).1, fun x hx => (k0 x hx).2⟩ ⟨w1, fun x hx => (k1 x hx).1, fun x hx => (k1 x hx).2⟩ ⟨w2, fun x hx => (k2 x hx).1, fun x hx => (k2 x hx).2⟩ w5 k5 b6 w7) hsh (args := #[v0, v1, v2, v3, v4, v5, v6, v7, v8]) ⟨R0, R1, R2, R3, R4, R5, R6, R7, R8, trivial⟩).mono fun e W' ⟨he, hb⟩ => ?_
  exact ⟨_, he, law_post laidOut rfl hW' (readable_all (by kernel_rfl)) rfl Tryz.underlying4 rfl hb⟩

/-! What is computed from the program's text, in parts: one check alone would come near the memory's limit. -/
theorem layerOvers_fn : Tryz.pinned.checked.prog.funcNamed Rows.layerOversRow.func = some 3 := by kernel_rfl
theorem layerOvers_part : ((Rows.layerOversRow.lifted == Tryz.pinned.checked.prog.liftsFinal) && (Tryz.pinned.checked.prog.make == some Rows.layerOversRow.make) && (Rows.layerOversRow.plainKeys == Tryz.pinned.checked.prog.plainKeys)) = true := by kernel_rfl
theorem layerOvers_facts : joinedFacts Tryz.pinned.checked.prog 3 Tryz.f3 Rows.layerOversSpec Rows.layerOversRow = true := by
  have h := layerOvers_part
  rw [Bool.and_eq_true, Bool.and_eq_true] at h
  obtain ⟨⟨h1, h2⟩, h3⟩ := h
  unfold joinedFacts
  rw [h1, h2, h3]
  show (_ : Bool) = true
  kernel_rfl
theorem layerOvers_main : Tryz.pinned.checked.prog.mainIs = some (true, "8efe0b790df43fd688e08d5b779929d5ae92c8d1810eacd6dea9bde6d3437d38".toList) := by kernel_rfl
theorem layerOvers_goes : false = Rows.layerOversRow.goesBy Tryz.pinned.checked.prog := by kernel_rfl

theorem layerOvers_holds : Rows.LayerOversSaid :=
  OpenClaim.holds_of_wide 3 Tryz.f3 rfl rfl rfl rfl rfl rfl rfl ⟨rfl, rfl, rfl, rfl, rfl⟩ rfl rfl rfl rfl rfl layerOvers_fn Tryz.func3 layerOvers_facts
    (of_decide_eq_true (by kernel_rfl)) (by unfold Func.isWrapper; first | (rw [if_pos (by decide +kernel)]; kernel_rfl) | (rw [if_neg (by decide +kernel)]; exact ⟨rfl, rfl⟩))
    (fun os started H enc _ => layerOvers_lifted os started H enc)

theorem layerOvers_card : Rows.LayerOversCardSaid :=
  Claim7.holds_tied_plain_at .later [] [.data, .pinned] true (true, "8efe0b790df43fd688e08d5b779929d5ae92c8d1810eacd6dea9bde6d3437d38") false
    layerOvers_holds (fun _ h => by cases h) (by kernel_rfl) (fun _ h => by cases h) layerOvers_row_tie rfl ⟨rfl, rfl⟩ layerOvers_main rfl
    (fun f fn hf hfn => by
      obtain rfl : f = 3 := Option.some.inj ((show Tryz.prog.funcNamed "pentimento/pentimentolaw12.LayerOvers" = some 3 from layerOvers_fn).symm.trans hf) |>.symm
      obtain rfl : fn = Tryz.f3 := (Option.some.inj (Tryz.func3.symm.trans hfn)).symm
      refine ⟨by kernel_rfl, fun j t ht => ?_⟩
      have hall : (Tryz.f3.params.toList.all fun t => !Tryz.prog.wantsStandIn t) = true := by kernel_rfl
      have hm : t ∈ Tryz.f3.params.toList := by
        rw [← Array.getElem?_toList] at ht
        exact List.mem_of_getElem? ht
      have := List.all_eq_true.1 hall t hm
      have h2 : Tryz.prog.wantsStandIn t = false := by simpa using this
      exact h2)
    layerOvers_goes

end Go.Proofs.YtjpmajeekikdhaaGreatDoor
