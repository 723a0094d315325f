/-
  TreePlays, up to the rows' bound: the law returns true, and each argument reads behind the call as it read before; of bulk at most what the rows say. The condition: the rows' bound.
-/
import Derived.Test.YtfpeelbddefhhaaGreatDoorRows
import Derived.Test.YtfpeelbddefhhaaGreatDoorCards
import Derived.Test.YtfpeelbddefhhaaGreatDoorTie
import Derived.Test.YtfpeelbddefhhaaGreatDoorO1
import Derived.ChangeMaps5
import Derived.Test.YtfpeelbddefhhaaGreatDoorUW
import Derived.Test.YtfpeelbddefhhaaGreatDoorN7
set_option linter.unusedSimpArgs false
set_option linter.unusedVariables false
namespace Go.Proofs.YtfpeelbddefhhaaGreatDoor
open Go Go.Dm Go.RowKit Go.ChangeShapes Go.WideShapes

set_option maxRecDepth 100000 in
theorem arg_str {H : Type} {enc : TypeId × Value → H} {W : World} {base : Nat} {v : Value} {d : DataW H} {p : List MemPlace} (hv : Value.okWide Tryz.prog W .any base 9 v) (h : DataW.Trod enc Tryz.prog W 0 (fun _ => true) true 9 v d p) :
    ∃ l : List UInt8, d = .lit (.string l) ∧ RelD (lawStart W) (.c (.p (.s l))) v := by
  obtain ⟨s, rfl, rfl, _, _⟩ := Go.ChangeMaps.open_string Tryz.underlying9 hv h
  refine ⟨s.data.toList, rfl, ?_⟩
  show Value.string s = Value.string ⟨s.data.toList.toArray⟩
  simp

set_option maxRecDepth 100000 in
theorem treePlays_lifted (os : Os) (started : os.Started) (H : Type) (enc : TypeId × Value → H) (F : Stop.Interp) :
    ReturnsInHanded {} Tryz.checked os 12 .any ((Rows.OpenSpec.upto Rows.treePlaysSpec).preRow enc Tryz.prog Tryz.f12 Rows.treePlaysUptoRow.domain false Rows.treePlaysUptoRow.laid)
      (((Rows.OpenSpec.upto Rows.treePlaysSpec).at F).post enc Tryz.prog Tryz.f12 false true false false) := by
  refine returnsInHanded_of_row (C := Tryz.checked) (s := Rows.OpenSpec.upto Rows.treePlaysSpec) own started (by kernel_rfl) Tryz.func12
    (laid_witness_row (enc := enc) (C := Tryz.checked) Rows.treePlaysUptoRow.laid #[.slice none 0 0, .slice none 0 0, .string ⟨#[]⟩] 8 (by kernel_rfl) (by kernel_rfl) (by kernel_rfl) (by kernel_rfl) (by kernel_rfl) (by kernel_rfl) (x := ([.nil, .nil, .lit (.string [])], [], [])) (by kernel_rfl) (by kernel_rfl) (fun k hk => by cases hk; kernel_rfl) (by kernel_rfl)) ?_
  intro W base args ds gs before hval0 hW _ hcond _ _ hsh _
  have hbulk0 := hcond _ rfl
  have hval : ∀ (j : Nat) t v, Tryz.f12.params[j]? = some t → args[j]? = some v → Value.okWide Tryz.prog W .any base t v := hval0
  have hW' := hW
  obtain ⟨pa, pv, hA0, hV, _, _, _⟩ := hW
  have hA : DataW.TrodAll enc Tryz.prog W 0 (fun _ => true) true Tryz.f12.params.toList args.toList ds pa := hA0
  obtain ⟨rfl, _⟩ := trodVars_none hV
  rw [Tryz.params12] at hA hval
  obtain ⟨v0, r0, d0, e0, p0, q0, a0, rfl, _, h0, hA⟩ := trodAll_cons hA
  obtain ⟨v1, r1, d1, e1, p1, q1, rfl, rfl, _, h1, hA⟩ := trodAll_cons hA
  obtain ⟨v2, r2, d2, e2, p2, q2, rfl, rfl, _, h2, hA⟩ := trodAll_cons hA
  obtain ⟨rfl, rfl, _⟩ := trodAll_nil hA
  obtain rfl : args = #[v0, v1, v2] := by cases args; simp_all
  obtain ⟨l0, ⟨w0, k0⟩, R0⟩ := arg_items (hval 0 60 v0 rfl rfl) h0
  obtain ⟨l1, ⟨w1, k1⟩, R1⟩ := arg_turns (hval 1 61 v1 rfl rfl) h1
  obtain ⟨l2, rfl, R2⟩ := arg_str (hval 2 9 v2 rfl rfl) h2
  have hraw : l2.length ≤ 1048576 := by
    have h := of_decide_eq_true hbulk0
    simp only [Rows.uptoBulkAll, Rows.uptoBulk, List.cons_append, List.nil_append, List.append_nil] at h
    omega
  refine (law_calls Tryz.func12 rfl (by kernel_rfl) (treePlays_law w0 (fun x hx => (k0 x hx).1) (fun x hx => (k0 x hx).2) w1 (fun x hx => (k1 x hx).1) (fun x hx => (k1 x hx).2) hraw) hsh (args := #[v0, v1, v2]) ⟨R0, R1, R2, trivial⟩).mono fun e W' ⟨he, hb⟩ => ?_
  exact ⟨_, he, law_post laidOut rfl hW' (readable_all (by kernel_rfl)) rfl Tryz.underlying4 rfl hb⟩

/-! What is computed from the program's text, in parts: one check alone would come near the memory's limit. -/
theorem treePlays_fn : Tryz.pinned.checked.prog.funcNamed Rows.treePlaysUptoRow.func = some 12 := by kernel_rfl
theorem treePlays_part : ((Rows.treePlaysUptoRow.lifted == Tryz.pinned.checked.prog.liftsFinal) && (Tryz.pinned.checked.prog.make == some Rows.treePlaysUptoRow.make) && (Rows.treePlaysUptoRow.plainKeys == Tryz.pinned.checked.prog.plainKeys)) = true := by kernel_rfl
theorem treePlays_facts : joinedFacts Tryz.pinned.checked.prog 12 Tryz.f12 (Rows.OpenSpec.upto Rows.treePlaysSpec).bare Rows.treePlaysUptoRow = true := by
  have h := treePlays_part
  rw [Bool.and_eq_true, Bool.and_eq_true] at h
  obtain ⟨⟨h1, h2⟩, h3⟩ := h
  unfold joinedFacts
  rw [h1, h2, h3]
  show (_ : Bool) = true
  kernel_rfl
theorem treePlays_main : Tryz.pinned.checked.prog.mainIs = some (true, "e9128afba10f37ab3f2d628fb28dfd582e418dad7a949137b67cf4058e559f2d".toList) := by kernel_rfl
theorem treePlays_goes : false = Rows.treePlaysUptoRow.goesBy Tryz.pinned.checked.prog := by kernel_rfl

theorem treePlays_upto : Rows.TreePlaysUptoSaid :=
  OpenClaim.holds_of_cond 12 Tryz.f12 rfl rfl rfl rfl rfl rfl rfl ⟨rfl, rfl, rfl, rfl, rfl⟩ rfl rfl rfl rfl rfl treePlays_fn Tryz.func12 treePlays_facts
    (of_decide_eq_true (by kernel_rfl)) (by unfold Func.isWrapper; first | (rw [if_pos (by decide +kernel)]; kernel_rfl) | (rw [if_neg (by decide +kernel)]; exact ⟨rfl, rfl⟩))
    (fun os started H enc _ F => by rw [OpenClaim.pre_eq_preRow]; exact treePlays_lifted os started H enc F)

theorem treePlaysUpto_card : Rows.TreePlaysUptoCardSaid :=
  Claim7.holds_tied_plain_at .later [] [.data, .pinned] true (true, "e9128afba10f37ab3f2d628fb28dfd582e418dad7a949137b67cf4058e559f2d") false
    treePlays_upto (fun _ h => by cases h) (by kernel_rfl) (fun _ h => by cases h) treePlaysUpto_row_tie rfl ⟨rfl, rfl⟩ treePlays_main rfl
    (fun f fn hf hfn => by
      obtain rfl : f = 12 := Option.some.inj ((show Tryz.prog.funcNamed "pentimento/pentimentolaw11.TreePlays" = some 12 from treePlays_fn).symm.trans hf) |>.symm
      obtain rfl : fn = Tryz.f12 := (Option.some.inj (Tryz.func12.symm.trans hfn)).symm
      refine ⟨by kernel_rfl, fun j t ht => ?_⟩
      have hall : (Tryz.f12.params.toList.all fun t => !Tryz.prog.wantsStandIn t) = true := by kernel_rfl
      have hm : t ∈ Tryz.f12.params.toList := by
        rw [← Array.getElem?_toList] at ht
        exact List.mem_of_getElem? ht
      have := List.all_eq_true.1 hall t hm
      have h2 : Tryz.prog.wantsStandIn t = false := by simpa using this
      exact h2)
    treePlays_goes

end Go.Proofs.YtfpeelbddefhhaaGreatDoor
