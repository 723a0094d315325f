/-
  Contracts: the example of changes that are done.
-/
import Derived.Test.YtfiopamaiolfhaaDoorU2
import Derived.Test.YtfiopamaiolfhaaDoorSV
set_option linter.unusedSimpArgs false
set_option linter.unusedVariables false
namespace Go.Proofs.YtfiopamaiolfhaaDoor
open Go Go.Dm Go.Proofs
set_option maxRecDepth 100000
set_option maxHeartbeats 8000000

theorem relP_rows {w : World} {S : Nat → Prop} {k : Nat} {es es' : List (List PV)} (hw : wkRows es es') {v : Value} (hr : RelP w S (.sl k es) v) : RelP w S (.sl k es') v := by
  simp only [RelP] at hr ⊢
  obtain ⟨a, c, h1, h2, h3⟩ := hr
  refine ⟨a, c, by rw [hw.len]; exact h1, by rw [hw.len]; exact h2, ?_⟩
  rcases h3 with h3 | ⟨bl, off, h4, h5, h6⟩
  · left
    subst h3
    exact List.eq_nil_of_length_eq_zero hw.len
  · exact .inr ⟨bl, off, h4, h5, hw.relL h6⟩
theorem apply0_c {l : List Ch} {es : List (List PV)} (hw : wkRows es (encC l)) (hl : l.length ≤ 100000) (hp : ∀ x ∈ l, x.p.length ≤ 1000000000 ∧ x.o.t < 18446744073709551616 ∧ x.n.t < 18446744073709551616) (hd : ∀ x ∈ l, x.n.d.length ≤ 140737488355328) :
    DCalls Tryd.prog 5 [.c (.p .nil), .c (.p (.sl 10 es))] [] fun r h => r = .tup [.c (.p (.sl 5 (encT (applyF [] l).1))), .c (.p (.i .i64 (applyF [] l).2))] ∧ h = [] := by
  intro X vals hh hi gd hr
  refine applyG_c OkT.nil hl hp hd X vals hh hi gd ?_
  match vals, hr with
  | [v1, v2], ⟨h1, h2, _⟩ => exact ⟨RelP.nilOf 5 h1, relP_rows hw h2, True.intro⟩

def exD : Ch := ⟨[97], 2, ⟨1, 0, 0, []⟩, nd0⟩
def exA : Ch := ⟨[97], 1, nd0, ⟨1, 0, 0, []⟩⟩
theorem ex_del : applyF [] [exD] = ([], 17) := by
  unfold applyF
  rw [show rightCs [exD] = true by decide +kernel, if_neg (by decide), show [exD].all (fitsF []) = false by decide +kernel]
  rfl
theorem ex_add : applyF [] [exA] = ([⟨[97], ⟨1, 0, 0, []⟩⟩], 0) := by
  unfold applyF
  have ho : sortI (outA [] [exA]) = [⟨[97], ⟨1, 0, 0, []⟩⟩] := by
    rw [show outA [] [exA] = [⟨[97], ⟨1, 0, 0, []⟩⟩] from rfl]
    simp [sortI]
  rw [show rightCs [exA] = true by decide +kernel, if_neg (by decide), show [exA].all (fitsF []) = true by decide +kernel, if_neg (by decide), ho, if_neg (by decide), show rightT [⟨[97], ⟨1, 0, 0, []⟩⟩] = true by decide +kernel]
  rfl

theorem known19_c : DCalls Tryd.prog 6 [] [] fun r h => r = .c (.p (.b true)) ∧ h = [] := by
  have a1 := apply0_c (l := [exD]) (es := [[.s [97], .i .i64 2, .i .i64 1, .i .i64 0, .f 0, .nil, .i .i64 0, .i .i64 0, .f 0, .nil]])
    ⟨⟨.inl rfl, .inl rfl, .inl rfl, .inl rfl, .inl rfl, .inr ⟨rfl, 1, rfl⟩, .inl rfl, .inl rfl, .inl rfl, .inr ⟨rfl, 1, rfl⟩, True.intro⟩, True.intro⟩ (by decide)
    (fun x hx => by rw [List.mem_singleton.1 hx]; decide) (fun x hx => by rw [List.mem_singleton.1 hx]; decide)
  have a2 := apply0_c (l := [exA]) (es := [[.s [97], .i .i64 1, .i .i64 0, .i .i64 0, .f 0, .nil, .i .i64 1, .i .i64 0, .f 0, .nil]])
    ⟨⟨.inl rfl, .inl rfl, .inl rfl, .inl rfl, .inl rfl, .inr ⟨rfl, 1, rfl⟩, .inl rfl, .inl rfl, .inl rfl, .inr ⟨rfl, 1, rfl⟩, True.intro⟩, True.intro⟩ (by decide)
    (fun x hx => by rw [List.mem_singleton.1 hx]; decide) (fun x hx => by rw [List.mem_singleton.1 hx]; decide)
  rw [ex_del] at a1
  rw [ex_add] at a2
  rw [show encT [(⟨[97], ⟨1, 0, 0, []⟩⟩ : It)] = [[.s [97], .i .i64 1, .i .i64 0, .f 0, .sl 1 []]] from rfl] at a2
  simp only [encT_nil] at a1
  refine ent tabOK hmix Tryd.func6 rfl rfl fun X0 hX => ?_
  simp only [Tryd.ntmps6, Tryd.f6, go_sem]
  repeat' (first | simp (maxSteps := 1000000) only [*, go_sem, Nat.reduceLT, Nat.reduceLeDiff, Nat.reduceEqDiff, ↓reduceIte, Nat.reduceAdd, Nat.reduceSub, Nat.reduceMul, Int.reduceLT, Int.reduceLE, Int.reduceAdd, Int.reduceSub, Int.reduceMul, Int.reduceNeg, Int.reduceToNat, Int.reduceEq, Int.reduceBEq, Int.reduceBNe, Nat.reduceBEq, beq_self_eq_true, bne_self_eq_false] | ((with_reducible refine useN (a1) ?_ ?_ ?_); (focus exact rfl); (focus exact fun _ => rfl)) | ((with_reducible refine useN (a2) ?_ ?_ ?_); (focus exact rfl); (focus exact fun _ => rfl)) | with_reducible refine vcond_split (fun _ => ?_) (fun _ => ?_) | with_reducible refine vg_split (fun _ => ?_) (fun _ => ?_) | ((with_reducible apply DCalls.frz); (focus exact rfl); (focus exact rfl)) | ((with_reducible refine And.intro ?_ ?_); (focus (first | omega | decide | assumption | (simp only [decide_eq_true_eq, decide_eq_false_iff_not] at *; omega)))))

end Go.Proofs.YtfiopamaiolfhaaDoor
