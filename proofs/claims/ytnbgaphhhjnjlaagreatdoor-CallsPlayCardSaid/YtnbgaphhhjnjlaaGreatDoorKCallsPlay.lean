/-
  CallsPlay: for every input the law returns true, and each argument reads behind the call as it read before. No condition.
-/
import Derived.Test.YtnbgaphhhjnjlaaGreatDoorRows
import Derived.Test.YtnbgaphhhjnjlaaGreatDoorCards
import Derived.Test.YtnbgaphhhjnjlaaGreatDoorTie
import Derived.Test.YtnbgaphhhjnjlaaGreatDoorO1
import Derived.Test.YtnbgaphhhjnjlaaGreatDoorBB
import Derived.Test.YtnbgaphhhjnjlaaGreatDoorX6
set_option linter.unusedSimpArgs false
set_option linter.unusedVariables false
namespace Go.Proofs.YtnbgaphhhjnjlaaGreatDoor
open Go Go.Dm Go.RowKit Go.ChangeShapes Go.WideShapes

set_option maxRecDepth 100000 in
theorem callsPlay_lifted (os : Os) (started : os.Started) (H : Type) (enc : TypeId × Value → H) :
    ReturnsInHanded {} Tryz.checked os 4 .any (fun w args => (Rows.callsPlaySpec.pre enc Tryz.prog Tryz.f4 Rows.callsPlayRow.domain false w args ∧ laidMetH Tryz.prog Rows.callsPlayRow.laid w) ∧ sizedMet enc Tryz.prog Tryz.f4 (OpenSpec.ofChange Rows.callsPlaySpec) false w args)
      (Rows.callsPlaySpec.post enc Tryz.prog Tryz.f4 false true false false) := by
  refine handed_laidS (C := Tryz.checked) (X := fun w _ => laidMetH Tryz.prog Rows.callsPlayRow.laid w) own started (by kernel_rfl) Tryz.func4
    (laid_witness (enc := enc) (C := Tryz.checked) Rows.callsPlayRow.laid #[.slice none 0 0, .slice none 0 0, .agg #[.int .i64 0, .string ⟨#[]⟩, .string ⟨#[]⟩, .int .i64 0, .float .f64 0, .int .i64 0, .int .i64 0, .slice none 0 0]] 8 (by kernel_rfl) (by kernel_rfl) (by kernel_rfl) (by kernel_rfl) (by kernel_rfl) (by kernel_rfl) (by kernel_rfl) (by kernel_rfl)) ?_
  intro W base args ds gs before hval0 hW hsh hsz0 hx0
  have hsz : (DataW.weightsEach Tryz.prog (Tryz.f4.params.toList ++ Rows.callsPlaySpec.plain.varTypes Tryz.prog) (ds ++ gs)).all (· ≤ reachBytes) = true := hsz0
  have hval : ∀ (j : Nat) t v, Tryz.f4.params[j]? = some t → args[j]? = some v → Value.okWide Tryz.prog W .any base t v := hval0
  have hW' := hW
  obtain ⟨pa, pv, hA0, hV, _, _, _⟩ := hW
  have hA : DataW.TrodAll enc Tryz.prog W 0 (fun _ => true) true Tryz.f4.params.toList args.toList ds pa := hA0
  obtain ⟨rfl, _⟩ := trodVars_none hV
  rw [Tryz.params4] at hA hval hsz
  obtain ⟨v0, r0, d0, e0, p0, q0, a0, rfl, _, h0, hA⟩ := trodAll_cons hA
  obtain ⟨v1, r1, d1, e1, p1, q1, rfl, rfl, _, h1, hA⟩ := trodAll_cons hA
  obtain ⟨v2, r2, d2, e2, p2, q2, rfl, rfl, _, h2, hA⟩ := trodAll_cons hA
  obtain ⟨rfl, rfl, _⟩ := trodAll_nil hA
  obtain rfl : args = #[v0, v1, v2] := by cases args; simp_all
  obtain ⟨l0, ⟨w0, k0⟩, R0⟩ := arg_items (hval 0 41 v0 rfl rfl) h0
  obtain ⟨l1, ⟨w1, k1⟩, R1⟩ := arg_calls (hval 1 42 v1 rfl rfl) h1
  obtain ⟨c2, w2, R2⟩ := arg_call (j := 2) hsz rfl rfl (hval 2 26 v2 rfl rfl) h2
  refine (law_calls Tryz.func4 rfl (by kernel_rfl) (callsPlay_law w0 (fun x hx => (k0 x hx).1) (fun x hx => (k0 x hx).2) w1 (fun x hx => (k1 x hx).1) (fun x hx => (k1 x hx).2.1) (fun x hx => (k1 x hx).2.2) w2) hsh (saidW_of hx0 (by kernel_rfl) (by simp [Rows.callsPlayRow])) (args := #[v0, v1, v2]) ⟨R0, R1, R2, trivial⟩).mono fun e W' ⟨he, hb⟩ => ?_
  exact ⟨_, he, law_post laidOut rfl hW' (readable_all (by kernel_rfl)) rfl Tryz.underlying4 rfl hb⟩

/-! What is computed from the program's text, in parts: one check alone would come near the memory's limit. -/
theorem callsPlay_fn : Tryz.pinned.checked.prog.funcNamed Rows.callsPlayRow.func = some 4 := by kernel_rfl
theorem callsPlay_part : ((Rows.callsPlayRow.lifted == Tryz.pinned.checked.prog.liftsFinal) && (Tryz.pinned.checked.prog.make == some Rows.callsPlayRow.make) && (Rows.callsPlayRow.plainKeys == Tryz.pinned.checked.prog.plainKeys)) = true := by kernel_rfl
theorem callsPlay_facts : joinedFacts Tryz.pinned.checked.prog 4 Tryz.f4 Rows.callsPlaySpec Rows.callsPlayRow = true := by
  have h := callsPlay_part
  rw [Bool.and_eq_true, Bool.and_eq_true] at h
  obtain ⟨⟨h1, h2⟩, h3⟩ := h
  unfold joinedFacts
  rw [h1, h2, h3]
  show (_ : Bool) = true
  kernel_rfl
theorem callsPlay_main : Tryz.pinned.checked.prog.mainIs = some (true, "492c6e5f79a519e2d5ff160ea550d4d9c1c7871f872b4e2f9b809b57ada3169b".toList) := by kernel_rfl
theorem callsPlay_goes : false = Rows.callsPlayRow.goesBy Tryz.pinned.checked.prog := by kernel_rfl

theorem callsPlay_holds : Rows.CallsPlaySaid :=
  OpenClaim.holds_of_wide 4 Tryz.f4 rfl rfl rfl rfl rfl rfl rfl ⟨rfl, rfl, rfl, rfl, rfl⟩ rfl rfl rfl rfl rfl callsPlay_fn Tryz.func4 callsPlay_facts
    (of_decide_eq_true (by kernel_rfl)) (by unfold Func.isWrapper; first | (rw [if_pos (by decide +kernel)]; kernel_rfl) | (rw [if_neg (by decide +kernel)]; exact ⟨rfl, rfl⟩))
    (fun os started H enc _ => callsPlay_lifted os started H enc)

theorem callsPlay_card : Rows.CallsPlayCardSaid :=
  Claim7.holds_tied_plain_at .later [] [.data, .data, .pinned] true (true, "492c6e5f79a519e2d5ff160ea550d4d9c1c7871f872b4e2f9b809b57ada3169b") false
    callsPlay_holds (fun _ h => by cases h) (by kernel_rfl) (fun _ h => by cases h) callsPlay_row_tie rfl ⟨rfl, rfl⟩ callsPlay_main rfl
    (fun f fn hf hfn => by
      obtain rfl : f = 4 := Option.some.inj ((show Tryz.prog.funcNamed "pentimento/pentimentolaw16.CallsPlay" = some 4 from callsPlay_fn).symm.trans hf) |>.symm
      obtain rfl : fn = Tryz.f4 := (Option.some.inj (Tryz.func4.symm.trans hfn)).symm
      refine ⟨by kernel_rfl, fun j t ht => ?_⟩
      have hall : (Tryz.f4.params.toList.all fun t => !Tryz.prog.wantsStandIn t) = true := by kernel_rfl
      have hm : t ∈ Tryz.f4.params.toList := by
        rw [← Array.getElem?_toList] at ht
        exact List.mem_of_getElem? ht
      have := List.all_eq_true.1 hall t hm
      have h2 : Tryz.prog.wantsStandIn t = false := by simpa using this
      exact h2)
    callsPlay_goes

end Go.Proofs.YtnbgaphhhjnjlaaGreatDoor
