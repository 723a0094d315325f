/-
  The bridge from contracts over data values to the row. No condition.
-/
import Derived.Test.YtcoedlaifhfnnaaDoorVA
import Derived.ProofKit
import Derived.Below
import Derived.ChangeSame
import Derived.WideKeyArgs
set_option linter.unusedSimpArgs false
set_option linter.unusedVariables false

section
/-
  The bridge, part 1: what a value that reads as data is as the engine's data. No condition beyond the table of types being the program's.
-/
namespace Go.Dm
open Go

section
variable {P : Program} {T : Tab} {H : Type} {enc : TypeId × Value → H} {w : World} {sp : Nat → Bool} {held : Bool}

end
end Go.Dm
end

section
/-
  The bridge, part 2: from a contract over data to what a row asks of a law. No condition beyond the table of types being the program's.
-/
namespace Go.Dm
open Go Go.RowKit Go.ChangeShapes Go.WideShapes

/-- The memory as it is when a law is called: all blocks are there, none is the law's own. -/
def lawStart (W : World) : Ctx := ⟨W, fun b => b < W.heap.size, fun _ => none, []⟩
theorem lawStart_inv (W : World) : HInv (lawStart W) :=
  ⟨fun _ h => h, fun id db h => by simp [lawStart] at h, fun id db g h => by simp [lawStart] at h, fun id db id' db' g g' h => by simp [lawStart] at h⟩

section
variable {P : Program} {T : Tab} {H : Type} {enc : TypeId × Value → H}

theorem law_calls {f : FuncId} {fn : Func} (hf : P.funcs[f]? = some fn) (hb : fn.body.isSome = true) (hn : (fn.name == "runtime.NumGoroutine") = false) {ds : List DV} (hc : DCalls P f ds [] fun d h => d = .c (.p (.b true)) ∧ h = [])
    {W : World} (hsh : W.ShapedOpen P) (hsd : SaidW W) {args : Array Value} (hr : RelDs (lawStart W) ds args.toList) : Calls P f args W fun e W' => e = .returned (.bool true) ∧ Below W.heap.size W W' := by
  have key : ∀ v W', Ret (lawStart W) (fun d h => d = .c (.p (.b true)) ∧ h = []) v W' → v = .bool true ∧ Below W.heap.size W W' := by
    rintro v W' ⟨d, X', rfl, _, hs, hd, rfl, _⟩
    refine ⟨hd, hs.os, hs.tape, hs.output.1, hs.size, fun k hk => hs.frame k hk fun id db g h => by simp [lawStart] at h⟩
  rcases hc (lawStart W) args.toList rfl (lawStart_inv W) ⟨W, ⟨hsh, hsd⟩, fun b hb => ⟨hb, rfl⟩⟩ hr with ⟨_, h⟩ | ⟨v, w', h, _⟩
  · exact h.mono fun e W' ⟨v, he, hv⟩ => by
      obtain ⟨rfl, h2⟩ := key v W' hv
      exact ⟨he, h2⟩
  · exfalso
    obtain ⟨c, hc⟩ := Option.isSome_iff_exists.1 hb
    have hn' : ¬ fn.name = "runtime.NumGoroutine" := by simpa using hn
    simp [callFunc, hf, hn', hc] at h

theorem trodAll_stays (hl : laidOutB P = true) {W W' : World} {sp' : Nat → Bool} (hb : Below W.heap.size W W') : ∀ {ts : List TypeId} {vs : List Value} {ds : List (DataW H)} {ps : List MemPlace}, (∀ t ∈ ts, P.readableRec t = true ∧ t < P.types.size) →
    DataW.TrodAll enc P W 0 (fun _ => true) true ts vs ds ps → (∀ p ∈ ps, p.block < W.heap.size) → (∀ p ∈ ps, sp' p.block = true) → DataW.TrodAll enc P W' 0 sp' true ts vs ds ps
  | [], [], [], _, _, h, _, _ => h
  | t :: ts, v :: vs, d :: ds, ps, hr, h, hlt, hs => by
    obtain ⟨p, q, h1, h2, rfl⟩ := h
    have ht := hr t List.mem_cons_self
    exact ⟨p, q, WideElems.Trod_stays hl ht.1 ht.2 h1 (fun x hx => hb.same (hlt x (List.mem_append_left _ hx))) (fun x hx => hs x (List.mem_append_left _ hx)),
      trodAll_stays hl hb (fun t ht => hr t (List.mem_cons_of_mem _ ht)) h2 (fun x hx => hlt x (List.mem_append_right _ hx)) (fun x hx => hs x (List.mem_append_right _ hx)), rfl⟩
  | [], _ :: _, _, _, _, h, _, _ => by cases h
  | [], [], _ :: _, _, _, h, _, _ => by cases h
  | _ :: _, [], _, _, _, h, _, _ => by cases h
  | _ :: _, _ :: _, [], _, _, h, _, _ => by cases h

theorem law_post {fn : Func} {s : ChangeSpec} {handsOn again fresh : Bool} {W W' : World} {args : Array Value} {ds gs : List (DataW H)} {before : List MemPlace} {tb : Nat} (hl : laidOutB P = true) (hvars : s.vars = [])
    (hW : DataW.Whole enc P fn.params.toList s.vars false W args.toList ds gs before) (hrd : ∀ t ∈ fn.params.toList, P.readableRec t = true ∧ t < P.types.size) (hres : fn.resultTypes = #[tb]) (hbool : P.underlying tb = some .bool)
    (hfn : s.fn H (ds ++ gs) = { results := [.lit (.bool true)], args := ds }) (hb : Below W.heap.size W W') : s.post enc P fn false fresh handsOn again W args (.bool true) W' := by
  have hlt : ∀ p ∈ before, p.block < W.heap.size := fun p hp => hW.lt p hp
  have hold : ∀ p ∈ before, (fun b => decide (b < W.heap.size)) p.block = true := fun p hp => by simpa using hlt p hp
  have hW0 := hW
  obtain ⟨pa, pv, hA, hV, hps, hz, hn⟩ := hW0
  rw [hvars] at hV
  obtain ⟨rfl, rfl⟩ := trodVars_none hV
  rw [List.append_nil] at hps
  subst hps
  have hargs : ∀ sp : Nat → Bool, (∀ p ∈ before, sp p.block = true) → DataW.TrodAll enc P W' 0 sp true fn.params.toList args.toList ds before := fun sp hs => trodAll_stays hl hb hrd hA hlt hs
  have hr : ∀ (b : Nat) (sp : Nat → Bool) (hd : Bool), DataW.TrodAll enc P W' b sp hd fn.resultTypes.toList ((Value.bool true).resultList fn.resultTypes.size) [.lit (.bool true)] [] := by
    intro b sp hd
    rw [hres]
    exact trodAll_mk1 ⟨1, by simp [DataW.trod, Value.cells, hbool]⟩
  have hok : ∀ (j : Nat) (t : TypeId) (r : Value), fn.resultTypes[j]? = some t → ((Value.bool true).resultList fn.resultTypes.size)[j]? = some r → Value.okWide P W' .any 0 t r := by
    rw [hres]
    intro j t r h1 h2
    cases j with
    | zero =>
      simp only [Array.size_singleton, Value.resultList] at h2
      simp at h1 h2
      subst h1; subst h2
      simp [Value.okWide, hbool, Cell.okWide, Cell.ok]
    | succ j => simp at h1
  refine ⟨ds, [], before, [], before, [], hW, ?_, ?_, ?_, World.keptBut_mono (fun p hp => ⟨hp, .inr (by simpa using hp)⟩) (hb.frame (· ∈ before)), fun _ => ?_⟩
  · rw [hfn]; exact hr _ _ _
  · rw [hfn]; exact hargs _ hold
  · rw [hvars, hfn]; rfl
  · refine ⟨hok, _, [], ([] ++ before) ++ [], ⟨[] ++ before, [], trodAll_append (hargs _ (fun _ _ => rfl)) (hr _ _ _), (by rw [hvars]; exact rfl), rfl, ?_, ?_⟩, ?_⟩
    · intro b off hp
      have hin : MemPlace.cell b off ∈ before := by simpa using hp
      rw [hb.frozen (hlt _ hin)]
      exact hz b off hin
    · intro ha; cases ha
    · intro p hp _
      simpa using hp
theorem readable_all {l : List TypeId} (h : (l.all fun t => P.readableRec t && decide (t < P.types.size)) = true) : ∀ t ∈ l, P.readableRec t = true ∧ t < P.types.size := fun t ht => by
  have := List.all_eq_true.1 h t ht
  simpa using this
end
end Go.Dm
end
