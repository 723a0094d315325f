/-
  The engine, part 20: a result told in a weaker way: nil as a slice of no element. No condition: consequences of the parts before.
-/
import Derived.Test.YtomaddpcacoodaaE19
set_option linter.unusedSimpArgs false
set_option linter.unusedVariables false
namespace Go.Dm
open Go

def wkP (x y : PV) : Prop := x = y ∨ (x = .nil ∧ ∃ k, y = .sl k [])
def wkC : CV → CV → Prop
  | .p x, .p y => wkP x y
  | x, y => x = y
def wkCs : List CV → List CV → Prop
  | [], [] => True
  | x :: xs, y :: ys => wkC x y ∧ wkCs xs ys
  | _, _ => False
def wkE : EV → EV → Prop
  | .c x, .c y => wkC x y
  | .agg xs, .agg ys => wkCs xs ys
  | _, _ => False
def wkEs : List EV → List EV → Prop
  | [], [] => True
  | x :: xs, y :: ys => wkE x y ∧ wkEs xs ys
  | _, _ => False
def wkD : DV → DV → Prop
  | .c x, .c y => wkC x y
  | .agg xs, .agg ys => wkCs xs ys
  | .tup xs, .tup ys => wkEs xs ys
  | .jk, .jk => True
  | _, _ => False

theorem wkP.rfl {x : PV} : wkP x x := .inl (Eq.refl x)
theorem wkP_nil {k : Nat} : wkP .nil (.sl k []) := .inr ⟨rfl, k, rfl⟩

theorem wkC.rel {X : Ctx} {x y : CV} {v : Value} (h : wkC x y) (hr : RelC X x v) : RelC X y v := by
  unfold wkC at h
  split at h
  · rcases h with rfl | ⟨rfl, k, rfl⟩
    · exact hr
    · simp only [RelC] at hr ⊢
      exact RelP.nilOf k hr
  · subst h; exact hr
theorem wkCs.rel {X : Ctx} : ∀ {xs ys : List CV} {vs : List Value}, wkCs xs ys → RelCs X xs vs → RelCs X ys vs
  | [], [], _, _, h => h
  | _ :: _, _ :: _, _ :: _, h, hr => ⟨h.1.rel hr.1, wkCs.rel h.2 hr.2⟩
  | _ :: _, _ :: _, [], _, hr => hr.elim
theorem wkE.rel {X : Ctx} {x y : EV} {v : Value} (h : wkE x y) (hr : RelEV X x v) : RelEV X y v := by
  unfold wkE at h
  split at h
  · exact wkC.rel h hr
  · obtain ⟨vs, rfl, h2⟩ := hr
    exact ⟨vs, rfl, wkCs.rel h h2⟩
  · exact h.elim
theorem wkEs.rel {X : Ctx} : ∀ {xs ys : List EV} {vs : List Value}, wkEs xs ys → RelEVs X xs vs → RelEVs X ys vs
  | [], [], _, _, h => h
  | _ :: _, _ :: _, _ :: _, h, hr => ⟨wkE.rel h.1 hr.1, wkEs.rel h.2 hr.2⟩
  | _ :: _, _ :: _, [], _, hr => hr.elim
theorem wkD.rel {X : Ctx} {x y : DV} {v : Value} (h : wkD x y) (hr : RelD X x v) : RelD X y v := by
  unfold wkD at h
  split at h
  · exact wkC.rel h hr
  · obtain ⟨vs, rfl, h2⟩ := hr
    exact ⟨vs, rfl, wkCs.rel h h2⟩
  · obtain ⟨vs, rfl, h2⟩ := hr
    exact ⟨vs, rfl, wkEs.rel h h2⟩
  · exact True.intro
  · exact h.elim

theorem dcalls_wk {P : Program} {f : FuncId} {args : List DV} {h : DHeap} {R : DV → DHeap → Prop} (hc : DCalls P f args h fun d h' => ∃ d', wkD d d' ∧ R d' h') : DCalls P f args h R := by
  intro X vals hh hi hr
  rcases hc X vals hh hi hr with ⟨h1, h2⟩ | ⟨v, w', h1, h2⟩
  · refine .inl ⟨h1, h2.mono fun e w' hv => ?_⟩
    obtain ⟨v, rfl, d, X', rfl, h3, h4, h5, d', h6, h7⟩ := hv
    exact ⟨v, rfl, d', X', rfl, h3, h4, h6.rel h5, h7⟩
  · obtain ⟨d, X', rfl, h3, h4, h5, d', h6, h7⟩ := h2
    exact .inr ⟨v, X'.w, h1, d', X', rfl, h3, h4, h6.rel h5, h7⟩

/-! Bytes as elements. -/
theorem bytesOf_encB : ∀ l : List UInt8, bytesOf (encB l) = some l
  | [] => rfl
  | b :: l => by
    have := bytesOf_encB l
    simp only [encB] at this ⊢
    simp only [List.map_cons, bytesOf, byteOf, Int.toNat_natCast, this]
    simp
theorem encB_len (l : List UInt8) : (encB l).length = l.length := by simp [encB]
theorem encB_append (a b : List UInt8) : encB (a ++ b) = encB a ++ encB b := by simp [encB]
theorem encB_take (a : List UInt8) (n : Nat) : (encB a).take n = encB (a.take n) := by simp [encB]
theorem encB_drop (a : List UInt8) (n : Nat) : (encB a).drop n = encB (a.drop n) := by simp [encB]
theorem encB_one (l : List UInt8) : ∀ x ∈ encB l, x.length = 1 := by
  intro x hx
  simp only [encB, List.mem_map] at hx
  obtain ⟨b, _, rfl⟩ := hx
  rfl

theorem nilq_cons (b : UInt8) (l : List UInt8) (K : Bool → Prop) : nilq (.sl 1 (encB (b :: l))) K = K false := rfl
theorem nilq_none (K : Bool → Prop) : nilq (.sl 1 (encB [])) K = (K true ∧ K false) := rfl
theorem nilq_nil (K : Bool → Prop) : nilq .nil K = K true := rfl
theorem nilq_sl_cons (k : Nat) (e : List PV) (es : List (List PV)) (K : Bool → Prop) : nilq (.sl k (e :: es)) K = K false := rfl
theorem nilq_sl_nil (k : Nat) (K : Bool → Prop) : nilq (.sl k []) K = (K true ∧ K false) := rfl
theorem encB_nil : encB [] = [] := rfl

end Go.Dm
