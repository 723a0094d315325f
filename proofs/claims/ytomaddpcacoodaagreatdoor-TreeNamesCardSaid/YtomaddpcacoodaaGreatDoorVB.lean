/-
  The engine, fourth part: a call that hands its caller a row of its own. No condition.
-/
import Derived.Test.YtomaddpcacoodaaGreatDoorVA
set_option linter.unusedSimpArgs false
set_option linter.unusedVariables false
namespace Go.Dm
open Go

def vO (n : Nat) (h : DHeap) (R : DV → DHeap → Prop) : DV → Prop
  | .c (.own id off len) => off = 0 ∧ n ≤ id ∧ (h.take n).all (closedB n) = true ∧ ∃ k es, h[id]? = some (.arr k es false) ∧ R (.c (.own n 0 len)) (h.take n ++ [.arr k es false])
  | _ => False
def vresO (n : Nat) (t : Fr) (h : DHeap) (R : DV → DHeap → Prop) : List ResultVar → Prop
  | [.tmp i] => vO n h R (look t i)
  | _ => False
def vpostO (n : Nat) (rs : List ResultVar) (R : DV → DHeap → Prop) : Exit → DS → Prop
  | .normal, s => vresO n s.t s.h R rs
  | .ret, s => vresO n s.t s.h R rs
  | _, _ => False
theorem vpostO_n {n : Nat} {rs : List ResultVar} {R : DV → DHeap → Prop} {s : DS} : vpostO n rs R .normal s = vresO n s.t s.h R rs := nr rfl
theorem vpostO_r {n : Nat} {rs : List ResultVar} {R : DV → DHeap → Prop} {s : DS} : vpostO n rs R .ret s = vresO n s.t s.h R rs := nr rfl
theorem vresO_one {n : Nat} {t : Fr} {h : DHeap} {R : DV → DHeap → Prop} {i : Nat} : vresO n t h R [.tmp i] = vO n h R (look t i) := nr rfl
attribute [go_sem] vpostO_n vpostO_r vresO_one
theorem vO_fin {n : Nat} {h : DHeap} {d : DV} {R : DV → DHeap → Prop} (hv : vO n h R d) : Fin n h d R := by
  unfold vO at hv
  split at hv
  · obtain ⟨rfl, h1, h2, k, es, h3, h4⟩ := hv
    exact .inr (.inr ⟨_, _, k, es, rfl, h1, h3, h2, h4⟩)
  · exact hv.elim
theorem entO {P : Program} {T : Tab} (hT : TabOK P T) (hm : P.follows .mixedOrders = true) {f : FuncId} {fn : Func} {c : Code} {args : List DV} {h : DHeap} {R : DV → DHeap → Prop} (hf : P.funcs[f]? = some fn) (hb : fn.body = some c)
    (hc : (Nat.ble args.length fn.ntmps && !(fn.name == "runtime.NumGoroutine")) = true)
    (hs : ∀ X0 : Ctx, X0.h = h → vc P T X0 c ⟨fn.ntmps, frameAt 0 args, h⟩ (vpostO h.length fn.results.toList R)) : DCalls P f args h R := by
  simp only [Bool.and_eq_true, Bool.not_eq_true'] at hc
  refine dcalls_of_swp hT hf hb (Nat.le_of_ble_eq_true hc.1) hc.2 fun X0 hX => ?_
  rw [frameAt_zip]
  refine swp_mono (vc_sound hT hm c (hs X0 hX)) fun e s hv => ?_
  have key : vresO h.length s.t s.h R fn.results.toList → dpost T h.length fn.results.toList R .normal s ∧ dpost T h.length fn.results.toList R .ret s := by
    intro hr
    generalize fn.results.toList = rs at hr
    unfold vresO at hr
    split at hr
    · rename_i i
      have hf := vO_fin hr
      have : ∃ x, look s.t i = .c x := by
        unfold vO at hr
        split at hr
        · rename_i he; exact ⟨_, he⟩
        · exact hr.elim
      obtain ⟨x, hx⟩ := this
      rw [hx] at hf
      simp only [dpost, dresE, hx]
      exact ⟨hf, hf⟩
    · exact hr.elim
  cases e <;> simp only [vpostO] at hv
  case normal => exact (key hv).1
  case ret => exact (key hv).2
theorem useO {P : Program} {f : FuncId} {args args' : List DV} {h : DHeap} {K : DV → DHeap → Prop} {n k : Nat} {es : List (List PV)} (hc : DCalls P f args' [] fun d h' => d = .c (.own 0 0 n) ∧ h' = [.arr k es false]) (hp : dpures h args = some args')
    (hk : K (.c (.own h.length 0 n)) (frzs h (didss args) ++ [.arr k es false])) : DCalls P f args h K :=
  (DCalls.frame h hp hc).mono fun d h' ⟨d0, h0, ⟨h1, h2⟩, h3, h4⟩ => by
    subst h1; subst h2
    subst h3; subst h4
    simpa [DV.sh, CV.sh, DB.sh] using hk

/-- A function's end, its result as it stands in the call's memory. -/
def vR (h : DHeap) (R : DV → DHeap → Prop) : DV → Prop
  | .c x => R (.c x) h
  | _ => False
def vresR (t : Fr) (h : DHeap) (R : DV → DHeap → Prop) : List ResultVar → Prop
  | [.tmp i] => vR h R (look t i)
  | _ => False
def vpostR (rs : List ResultVar) (R : DV → DHeap → Prop) : Exit → DS → Prop
  | .normal, s => vresR s.t s.h R rs
  | .ret, s => vresR s.t s.h R rs
  | _, _ => False
theorem vpostR_n {rs : List ResultVar} {R : DV → DHeap → Prop} {s : DS} : vpostR rs R .normal s = vresR s.t s.h R rs := nr rfl
theorem vpostR_r {rs : List ResultVar} {R : DV → DHeap → Prop} {s : DS} : vpostR rs R .ret s = vresR s.t s.h R rs := nr rfl
theorem vresR_one {t : Fr} {h : DHeap} {R : DV → DHeap → Prop} {i : Nat} : vresR t h R [.tmp i] = vR h R (look t i) := nr rfl
theorem vR_c {h : DHeap} {R : DV → DHeap → Prop} {x : CV} : vR h R (.c x) = R (.c x) h := nr rfl
attribute [go_sem] vpostR_n vpostR_r vresR_one vR_c
theorem entR {P : Program} {T : Tab} (hT : TabOK P T) (hm : P.follows .mixedOrders = true) {f : FuncId} {fn : Func} {c : Code} {args : List DV} {h : DHeap} {R : DV → DHeap → Prop} (hf : P.funcs[f]? = some fn) (hb : fn.body = some c)
    (hc : (Nat.ble args.length fn.ntmps && !(fn.name == "runtime.NumGoroutine")) = true)
    (hs : ∀ X0 : Ctx, X0.h = h → vc P T X0 c ⟨fn.ntmps, frameAt 0 args, h⟩ (vpostR fn.results.toList R)) : DCalls P f args h R := by
  simp only [Bool.and_eq_true, Bool.not_eq_true'] at hc
  refine dcalls_of_swp hT hf hb (Nat.le_of_ble_eq_true hc.1) hc.2 fun X0 hX => ?_
  rw [frameAt_zip]
  refine swp_mono (vc_sound hT hm c (hs X0 hX)) fun e s hv => ?_
  have key : vresR s.t s.h R fn.results.toList → dpost T h.length fn.results.toList R .normal s ∧ dpost T h.length fn.results.toList R .ret s := by
    intro hr
    generalize fn.results.toList = rs at hr
    unfold vresR at hr
    split at hr
    · rename_i i
      unfold vR at hr
      split at hr
      · rename_i x hx
        simp only [dpost, dresE, hx]
        exact ⟨.inl hr, .inl hr⟩
      · exact hr.elim
    · exact hr.elim
  cases e <;> simp only [vpostR] at hv
  case normal => exact (key hv).1
  case ret => exact (key hv).2

/-! A nil slice within a row's elements, taken as an empty one. -/
def wkPs : List PV → List PV → Prop
  | [], [] => True
  | x :: xs, y :: ys => wkP x y ∧ wkPs xs ys
  | _, _ => False
def wkRows : List (List PV) → List (List PV) → Prop
  | [], [] => True
  | e :: es, f :: fs => wkPs e f ∧ wkRows es fs
  | _, _ => False
theorem wkPs.len : ∀ {e f : List PV}, wkPs e f → f.length = e.length
  | [], [], _ => rfl
  | _ :: _, _ :: _, h => by simp [wkPs.len h.2]
  | [], _ :: _, h => h.elim
  | _ :: _, [], h => h.elim
theorem wkRows.len : ∀ {e f : List (List PV)}, wkRows e f → f.length = e.length
  | [], [], _ => rfl
  | _ :: _, _ :: _, h => by simp [wkRows.len h.2]
  | [], _ :: _, h => h.elim
  | _ :: _, [], h => h.elim
theorem wkP.relP {w : World} {S : Nat → Prop} {x y : PV} {v : Value} (h : wkP x y) (hr : RelP w S x v) : RelP w S y v := by
  rcases h with rfl | ⟨rfl, k, rfl⟩
  · exact hr
  · exact RelP.nilOf k hr
theorem wkPs.relE {w : World} {S : Nat → Prop} {bl : Nat} : ∀ {e f : List PV} {off : Nat}, wkPs e f → RelE w S bl off e → RelE w S bl off f
  | [], [], _, _, _ => True.intro
  | _ :: _, _ :: _, _, h, ⟨⟨v, h1, h2⟩, h3⟩ => ⟨⟨v, h1, h.1.relP h2⟩, wkPs.relE h.2 h3⟩
  | [], _ :: _, _, h, _ => h.elim
  | _ :: _, [], _, h, _ => h.elim
theorem wkRows.relL {w : World} {S : Nat → Prop} {k bl : Nat} : ∀ {e f : List (List PV)} {off : Nat}, wkRows e f → RelL w S k bl off e → RelL w S k bl off f
  | [], [], _, _, _ => True.intro
  | _ :: _, _ :: _, _, h, ⟨⟨h1, h2⟩, h3⟩ => ⟨⟨h.1.len.trans h1, h.1.relE h2⟩, wkRows.relL h.2 h3⟩
  | [], _ :: _, _, h, _ => h.elim
  | _ :: _, [], _, h, _ => h.elim
theorem dcalls_rows {P : Program} {f : FuncId} {args : List DV} {h H : DHeap} {k : Nat} {es es' : List (List PV)} (hw : wkRows es es') (hc : DCalls P f args h fun d h' => d = .c (.p (.sl k es)) ∧ h' = H) : DCalls P f args h fun d h' => d = .c (.p (.sl k es')) ∧ h' = H := by
  have key : ∀ {X : Ctx} {v : Value}, RelD X (.c (.p (.sl k es))) v → RelD X (.c (.p (.sl k es'))) v := by
    intro X v hr
    simp only [RelD, RelC, RelP] at hr ⊢
    obtain ⟨a, c, h1, h2, h3⟩ := hr
    refine ⟨a, c, by rw [hw.len]; exact h1, by rw [hw.len]; exact h2, ?_⟩
    rcases h3 with h3 | ⟨bl, off, h4, h5, h6⟩
    · left
      subst h3
      exact List.eq_nil_of_length_eq_zero hw.len
    · exact .inr ⟨bl, off, h4, h5, hw.relL h6⟩
  intro X vals hh hi gd hr
  rcases hc X vals hh hi gd hr with ⟨h1, h2⟩ | ⟨v, w', h1, h2⟩
  · refine .inl ⟨h1, h2.mono fun e w' hv => ?_⟩
    obtain ⟨v, rfl, d, X', rfl, h3, h4, h5, rfl, h7⟩ := hv
    exact ⟨v, rfl, _, X', rfl, h3, h4, key h5, rfl, h7⟩
  · obtain ⟨d, X', rfl, h3, h4, h5, rfl, h7⟩ := h2
    exact .inr ⟨v, X'.w, h1, _, X', rfl, h3, h4, key h5, rfl, h7⟩
end Go.Dm
