/-
  DiffCodes: for every input the law returns true, and each argument reads behind the call as it read before. No condition.
-/
import Derived.Test.YtmgglafcpebabaaGreatDoorRows
import Derived.Test.YtmgglafcpebabaaGreatDoorCards
import Derived.Test.YtmgglafcpebabaaGreatDoorTie
import Derived.Test.YtmgglafcpebabaaGreatDoorO3
import Derived.Test.YtmgglafcpebabaaGreatDoorBB
import Derived.Test.YtmgglafcpebabaaGreatDoorH4
set_option linter.unusedSimpArgs false
set_option linter.unusedVariables false
namespace Go.Proofs.YtmgglafcpebabaaGreatDoor
open Go Go.Dm Go.RowKit Go.ChangeShapes Go.WideShapes

set_option maxRecDepth 100000 in
theorem diffCodes_lifted (os : Os) (started : os.Started) (H : Type) (enc : TypeId × Value → H) :
    ReturnsInHanded {} Tryz.checked os 5 .any (fun w args => (Rows.diffCodesSpec.pre enc Tryz.prog Tryz.f5 Rows.diffCodesRow.domain false w args ∧ laidMetH Tryz.prog Rows.diffCodesRow.laid w) ∧ sizedMet enc Tryz.prog Tryz.f5 (OpenSpec.ofChange Rows.diffCodesSpec) false w args)
      (Rows.diffCodesSpec.post enc Tryz.prog Tryz.f5 false true false false) := by
  refine handed_laidS (C := Tryz.checked) (X := fun w _ => laidMetH Tryz.prog Rows.diffCodesRow.laid w) own started (by kernel_rfl) Tryz.func5
    (laid_witness (enc := enc) (C := Tryz.checked) Rows.diffCodesRow.laid #[.slice none 0 0, .slice none 0 0, .int .i64 0, .int .i64 0, .agg #[.int .i64 0, .int .i64 0, .int .i64 0, .float .f64 0, .slice none 0 0], .slice none 0 0, .int .i64 0, .slice none 0 0, .int .u8 0] 8 (by kernel_rfl) (by kernel_rfl) (by kernel_rfl) (by kernel_rfl) (by kernel_rfl) (by kernel_rfl) (by kernel_rfl) (by kernel_rfl)) ?_
  intro W base args ds gs before hval0 hW hsh hsz0
  have hsz : (DataW.weightsEach Tryz.prog (Tryz.f5.params.toList ++ Rows.diffCodesSpec.plain.varTypes Tryz.prog) (ds ++ gs)).all (· ≤ reachBytes) = true := hsz0
  have hval : ∀ (j : Nat) t v, Tryz.f5.params[j]? = some t → args[j]? = some v → Value.okWide Tryz.prog W .any base t v := hval0
  have hW' := hW
  obtain ⟨pa, pv, hA0, hV, _, _, _⟩ := hW
  have hA : DataW.TrodAll enc Tryz.prog W 0 (fun _ => true) true Tryz.f5.params.toList args.toList ds pa := hA0
  obtain ⟨rfl, _⟩ := trodVars_none hV
  rw [Tryz.params5] at hA hval hsz
  obtain ⟨v0, r0, d0, e0, p0, q0, a0, rfl, _, h0, hA⟩ := trodAll_cons hA
  obtain ⟨v1, r1, d1, e1, p1, q1, rfl, rfl, _, h1, hA⟩ := trodAll_cons hA
  obtain ⟨v2, r2, d2, e2, p2, q2, rfl, rfl, _, h2, hA⟩ := trodAll_cons hA
  obtain ⟨v3, r3, d3, e3, p3, q3, rfl, rfl, _, h3, hA⟩ := trodAll_cons hA
  obtain ⟨v4, r4, d4, e4, p4, q4, rfl, rfl, _, h4, hA⟩ := trodAll_cons hA
  obtain ⟨v5, r5, d5, e5, p5, q5, rfl, rfl, _, h5, hA⟩ := trodAll_cons hA
  obtain ⟨v6, r6, d6, e6, p6, q6, rfl, rfl, _, h6, hA⟩ := trodAll_cons hA
  obtain ⟨v7, r7, d7, e7, p7, q7, rfl, rfl, _, h7, hA⟩ := trodAll_cons hA
  obtain ⟨v8, r8, d8, e8, p8, q8, rfl, rfl, _, h8, hA⟩ := trodAll_cons hA
  obtain ⟨rfl, rfl, _⟩ := trodAll_nil hA
  obtain rfl : args = #[v0, v1, v2, v3, v4, v5, v6, v7, v8] := by cases args; simp_all
  obtain ⟨l0, ⟨w0, k0⟩, R0⟩ := arg_items (hval 0 22 v0 rfl rfl) h0
  obtain ⟨l1, ⟨w1, k1⟩, R1⟩ := arg_turns (hval 1 43 v1 rfl rfl) h1
  obtain ⟨x2, R2⟩ := arg_int (hval 2 3 v2 rfl rfl) h2
  obtain ⟨x3, R3⟩ := arg_int (hval 3 3 v3 rfl rfl) h3
  obtain ⟨n4k, n4m, n4t, n4x, n4l, ⟨w4, k4⟩, R4⟩ := arg_rn (hval 4 47 v4 rfl rfl) h4
  obtain ⟨l5, w5, R5⟩ := arg_bytes (hval 5 23 v5 rfl rfl) h5
  have b5 := bytes_reach (j := 5) hsz rfl rfl h5 R5
  obtain ⟨x6, R6⟩ := arg_int (hval 6 3 v6 rfl rfl) h6
  obtain ⟨l7, w7, R7⟩ := arg_ints (hval 7 24 v7 rfl rfl) h7
  obtain ⟨x8, R8⟩ := arg_byte (hval 8 5 v8 rfl rfl) h8
  refine (law_calls Tryz.func5 rfl (by kernel_rfl) (diffCodes_c w0 (fun x hx => (k0 x hx).1) (fun x hx => (k0 x hx).2) w1 (fun x hx => (k1 x hx).1) (fun x hx => (k1 x hx).2) w4 k4 b5 w7) hsh (args := #[v0, v1, v2, v3, v4, v5, v6, v7, v8]) ⟨R0, R1, R2, R3, R4, R5, R6, R7, R8, trivial⟩).mono fun e W' ⟨he, hb⟩ => ?_
  exact ⟨_, he, law_post laidOut rfl hW' (readable_all (by kernel_rfl)) rfl Tryz.underlying4 rfl hb⟩

theorem diffCodes_holds : Rows.DiffCodesSaid :=
  OpenClaim.holds_of_wide 5 Tryz.f5 rfl rfl rfl rfl rfl rfl rfl ⟨rfl, rfl, rfl, rfl, rfl⟩ rfl rfl rfl rfl rfl (by kernel_rfl) Tryz.func5 (by kernel_rfl)
    (of_decide_eq_true (by kernel_rfl)) (by unfold Func.isWrapper; first | (rw [if_pos (by decide +kernel)]; kernel_rfl) | (rw [if_neg (by decide +kernel)]; exact ⟨rfl, rfl⟩))
    (fun os started H enc _ => diffCodes_lifted os started H enc)

theorem diffCodes_card : Rows.DiffCodesCardSaid :=
  Claim7.holds_tied_plain_at .later [] [.data, .pinned] true (true, "9078e50b8989b8ded6a7fc6c231caf8f699ed2f8dec97755c3d458a781fbb216") false
    diffCodes_holds (fun _ h => by cases h) (by kernel_rfl) (fun _ h => by cases h) diffCodes_row_tie rfl ⟨rfl, rfl⟩ (by kernel_rfl) rfl
    (fun f fn hf hfn => by
      obtain rfl : f = 5 := Option.some.inj ((show Tryz.prog.funcNamed "pentimento/pentimentolaw17.DiffCodes" = some 5 by kernel_rfl).symm.trans hf) |>.symm
      obtain rfl : fn = Tryz.f5 := (Option.some.inj (Tryz.func5.symm.trans hfn)).symm
      refine ⟨by kernel_rfl, fun j t ht => ?_⟩
      have hall : (Tryz.f5.params.toList.all fun t => !Tryz.prog.wantsStandIn t) = true := by kernel_rfl
      have hm : t ∈ Tryz.f5.params.toList := by
        rw [← Array.getElem?_toList] at ht
        exact List.mem_of_getElem? ht
      have := List.all_eq_true.1 hall t hm
      have h2 : Tryz.prog.wantsStandIn t = false := by simpa using this
      exact h2)
    (by kernel_rfl)

end Go.Proofs.YtmgglafcpebabaaGreatDoor
