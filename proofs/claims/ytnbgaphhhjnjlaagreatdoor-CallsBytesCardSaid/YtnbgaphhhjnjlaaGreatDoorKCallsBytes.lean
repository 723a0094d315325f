/-
  CallsBytes: for every input the law returns true, and each argument reads behind the call as it read before. No condition.
-/
import Derived.Test.YtnbgaphhhjnjlaaGreatDoorRows
import Derived.Test.YtnbgaphhhjnjlaaGreatDoorCards
import Derived.Test.YtnbgaphhhjnjlaaGreatDoorTie
import Derived.Test.YtnbgaphhhjnjlaaGreatDoorO6
import Derived.Test.YtnbgaphhhjnjlaaGreatDoorBB
import Derived.Test.YtnbgaphhhjnjlaaGreatDoorX1
set_option linter.unusedSimpArgs false
set_option linter.unusedVariables false
namespace Go.Proofs.YtnbgaphhhjnjlaaGreatDoor
open Go Go.Dm Go.RowKit Go.ChangeShapes Go.WideShapes

set_option maxRecDepth 100000 in
theorem callsBytes_lifted (os : Os) (started : os.Started) (H : Type) (enc : TypeId × Value → H) :
    ReturnsInHanded {} Tryz.checked os 5 .any (fun w args => (Rows.callsBytesSpec.pre enc Tryz.prog Tryz.f5 Rows.callsBytesRow.domain false w args ∧ laidMetH Tryz.prog Rows.callsBytesRow.laid w) ∧ sizedMet enc Tryz.prog Tryz.f5 (OpenSpec.ofChange Rows.callsBytesSpec) false w args)
      (Rows.callsBytesSpec.post enc Tryz.prog Tryz.f5 false true false false) := by
  refine handed_laidS (C := Tryz.checked) (X := fun w _ => laidMetH Tryz.prog Rows.callsBytesRow.laid w) own started (by kernel_rfl) Tryz.func5
    (laid_witness (enc := enc) (C := Tryz.checked) Rows.callsBytesRow.laid #[.slice none 0 0, .slice none 0 0, .int .i64 0, .int .i64 0, .int .i64 0, .int .i64 0, .float .f64 0] 8 (by kernel_rfl) (by kernel_rfl) (by kernel_rfl) (by kernel_rfl) (by kernel_rfl) (by kernel_rfl) (by kernel_rfl) (by kernel_rfl)) ?_
  intro W base args ds gs before hval0 hW hsh hsz0
  have hsz : (DataW.weightsEach Tryz.prog (Tryz.f5.params.toList ++ Rows.callsBytesSpec.plain.varTypes Tryz.prog) (ds ++ gs)).all (· ≤ reachBytes) = true := hsz0
  have hval : ∀ (j : Nat) t v, Tryz.f5.params[j]? = some t → args[j]? = some v → Value.okWide Tryz.prog W .any base t v := hval0
  have hW' := hW
  obtain ⟨pa, pv, hA0, hV, _, _, _⟩ := hW
  have hA : DataW.TrodAll enc Tryz.prog W 0 (fun _ => true) true Tryz.f5.params.toList args.toList ds pa := hA0
  obtain ⟨rfl, _⟩ := trodVars_none hV
  rw [Tryz.params5] at hA hval hsz
  obtain ⟨v0, r0, d0, e0, p0, q0, a0, rfl, _, h0, hA⟩ := trodAll_cons hA
  obtain ⟨v1, r1, d1, e1, p1, q1, rfl, rfl, _, h1, hA⟩ := trodAll_cons hA
  obtain ⟨v2, r2, d2, e2, p2, q2, rfl, rfl, _, h2, hA⟩ := trodAll_cons hA
  obtain ⟨v3, r3, d3, e3, p3, q3, rfl, rfl, _, h3, hA⟩ := trodAll_cons hA
  obtain ⟨v4, r4, d4, e4, p4, q4, rfl, rfl, _, h4, hA⟩ := trodAll_cons hA
  obtain ⟨v5, r5, d5, e5, p5, q5, rfl, rfl, _, h5, hA⟩ := trodAll_cons hA
  obtain ⟨v6, r6, d6, e6, p6, q6, rfl, rfl, _, h6, hA⟩ := trodAll_cons hA
  obtain ⟨rfl, rfl, _⟩ := trodAll_nil hA
  obtain rfl : args = #[v0, v1, v2, v3, v4, v5, v6] := by cases args; simp_all
  obtain ⟨l0, w0, R0⟩ := arg_bytes (hval 0 24 v0 rfl rfl) h0
  have b0 := bytes_reach (j := 0) hsz rfl rfl h0 R0
  obtain ⟨l1, w1, R1⟩ := arg_bytes (hval 1 24 v1 rfl rfl) h1
  have b1 := bytes_reach (j := 1) hsz rfl rfl h1 R1
  obtain ⟨x2, R2⟩ := arg_int (hval 2 3 v2 rfl rfl) h2
  obtain ⟨x3, R3⟩ := arg_int (hval 3 3 v3 rfl rfl) h3
  obtain ⟨x4, R4⟩ := arg_int (hval 4 3 v4 rfl rfl) h4
  obtain ⟨x5, R5⟩ := arg_int (hval 5 3 v5 rfl rfl) h5
  obtain ⟨x6, w6, R6⟩ := arg_float (hval 6 23 v6 rfl rfl) h6
  refine (law_calls Tryz.func5 rfl (by kernel_rfl) (callsBytes_law w0 w1 w6) hsh (args := #[v0, v1, v2, v3, v4, v5, v6]) ⟨R0, R1, R2, R3, R4, R5, R6, trivial⟩).mono fun e W' ⟨he, hb⟩ => ?_
  exact ⟨_, he, law_post laidOut rfl hW' (readable_all (by kernel_rfl)) rfl Tryz.underlying4 rfl hb⟩

/-! What is computed from the program's text, in parts: one check alone would come near the memory's limit. -/
theorem callsBytes_fn : Tryz.pinned.checked.prog.funcNamed Rows.callsBytesRow.func = some 5 := by kernel_rfl
theorem callsBytes_part : ((Rows.callsBytesRow.lifted == Tryz.pinned.checked.prog.liftsFinal) && (Tryz.pinned.checked.prog.make == some Rows.callsBytesRow.make) && (Rows.callsBytesRow.plainKeys == Tryz.pinned.checked.prog.plainKeys)) = true := by kernel_rfl
theorem callsBytes_facts : joinedFacts Tryz.pinned.checked.prog 5 Tryz.f5 Rows.callsBytesSpec Rows.callsBytesRow = true := by
  have h := callsBytes_part
  rw [Bool.and_eq_true, Bool.and_eq_true] at h
  obtain ⟨⟨h1, h2⟩, h3⟩ := h
  unfold joinedFacts
  rw [h1, h2, h3]
  show (_ : Bool) = true
  kernel_rfl
theorem callsBytes_main : Tryz.pinned.checked.prog.mainIs = some (true, "492c6e5f79a519e2d5ff160ea550d4d9c1c7871f872b4e2f9b809b57ada3169b".toList) := by kernel_rfl
theorem callsBytes_goes : false = Rows.callsBytesRow.goesBy Tryz.pinned.checked.prog := by kernel_rfl

theorem callsBytes_holds : Rows.CallsBytesSaid :=
  OpenClaim.holds_of_wide 5 Tryz.f5 rfl rfl rfl rfl rfl rfl rfl ⟨rfl, rfl, rfl, rfl, rfl⟩ rfl rfl rfl rfl rfl callsBytes_fn Tryz.func5 callsBytes_facts
    (of_decide_eq_true (by kernel_rfl)) (by unfold Func.isWrapper; first | (rw [if_pos (by decide +kernel)]; kernel_rfl) | (rw [if_neg (by decide +kernel)]; exact ⟨rfl, rfl⟩))
    (fun os started H enc _ => callsBytes_lifted os started H enc)

theorem callsBytes_card : Rows.CallsBytesCardSaid :=
  Claim7.holds_tied_plain_at .later [] [.data, .pinned] true (true, "492c6e5f79a519e2d5ff160ea550d4d9c1c7871f872b4e2f9b809b57ada3169b") false
    callsBytes_holds (fun _ h => by cases h) (by kernel_rfl) (fun _ h => by cases h) callsBytes_row_tie rfl ⟨rfl, rfl⟩ callsBytes_main rfl
    (fun f fn hf hfn => by
      obtain rfl : f = 5 := Option.some.inj ((show Tryz.prog.funcNamed "pentimento/pentimentolaw16.CallsBytes" = some 5 from callsBytes_fn).symm.trans hf) |>.symm
      obtain rfl : fn = Tryz.f5 := (Option.some.inj (Tryz.func5.symm.trans hfn)).symm
      refine ⟨by kernel_rfl, fun j t ht => ?_⟩
      have hall : (Tryz.f5.params.toList.all fun t => !Tryz.prog.wantsStandIn t) = true := by kernel_rfl
      have hm : t ∈ Tryz.f5.params.toList := by
        rw [← Array.getElem?_toList] at ht
        exact List.mem_of_getElem? ht
      have := List.all_eq_true.1 hall t hm
      have h2 : Tryz.prog.wantsStandIn t = false := by simpa using this
      exact h2)
    callsBytes_goes

end Go.Proofs.YtnbgaphhhjnjlaaGreatDoor
