/-
  The engine, fourth part: a call that hands its caller a row of its own. No condition.
-/
import Derived.Test.YtomaddpcacoodaaGreatDoorVA
set_option linter.unusedSimpArgs false
set_option linter.unusedVariables false
namespace Go.Dm
open Go

def vO (n : Nat) (h : DHeap) (R : DV → DHeap → Prop) : DV → Prop
  | .c (.own id off len) => off = 0 ∧ n ≤ id ∧ (h.take n).all (closedB n) = true ∧ ∃ k es, h[id]? = some (.arr k es false) ∧ R (.c (.own n 0 len)) (h.take n ++ [.arr k es false])
  | _ => False
def vresO (n : Nat) (t : Fr) (h : DHeap) (R : DV → DHeap → Prop) : List ResultVar → Prop
  | [.tmp i] => vO n h R (look t i)
  | _ => False
def vpostO (n : Nat) (rs : List ResultVar) (R : DV → DHeap → Prop) : Exit → DS → Prop
  | .normal, s => vresO n s.t s.h R rs
  | .ret, s => vresO n s.t s.h R rs
  | _, _ => False
theorem vpostO_n {n : Nat} {rs : List ResultVar} {R : DV → DHeap → Prop} {s : DS} : vpostO n rs R .normal s = vresO n s.t s.h R rs := nr rfl
theorem vpostO_r {n : Nat} {rs : List ResultVar} {R : DV → DHeap → Prop} {s : DS} : vpostO n rs R .ret s = vresO n s.t s.h R rs := nr rfl
theorem vresO_one {n : Nat} {t : Fr} {h : DHeap} {R : DV → DHeap → Prop} {i : Nat} : vresO n t h R [.tmp i] = vO n h R (look t i) := nr rfl
attribute [go_sem] vpostO_n vpostO_r vresO_one
theorem vO_fin {n : Nat} {h : DHeap} {d : DV} {R : DV → DHeap → Prop} (hv : vO n h R d) : Fin n h d R := by
  unfold vO at hv
  split at hv
  · obtain ⟨rfl, h1, h2, k, es, h3, h4⟩ := hv
    exact .inr (.inr ⟨_, _, k, es, rfl, h1, h3, h2, h4⟩)
  · exact hv.elim
theorem entO {P : Program} {T : Tab} (hT : TabOK P T) (hm : P.follows .mixedOrders = true) {f : FuncId} {fn : Func} {c : Code} {args : List DV} {h : DHeap} {R : DV → DHeap → Prop} (hf : P.funcs[f]? = some fn) (hb : fn.body = some c)
    (hc : (Nat.ble args.length fn.ntmps && !(fn.name == "runtime.NumGoroutine")) = true)
    (hs : ∀ X0 : Ctx, X0.h = h → vc P T X0 c ⟨fn.ntmps, frameAt 0 args, h⟩ (vpostO h.length fn.results.toList R)) : DCalls P f args h R := by
  simp only [Bool.and_eq_true, Bool.not_eq_true'] at hc
  refine dcalls_of_swp hT hf hb (Nat.le_of_ble_eq_true hc.1) hc.2 fun X0 hX => ?_
  rw [frameAt_zip]
  refine swp_mono (vc_sound hT hm c (hs X0 hX)) fun e s hv => ?_
  have key : vresO h.length s.t s.h R fn.results.toList → dpost T h.length fn.results.toList R .normal s ∧ dpost T h.length fn.results.toList R .ret s := by
    intro hr
    generalize fn.results.toList = rs at hr
    unfold vresO at hr
    split at hr
    · rename_i i
      have hf := vO_fin hr
      have : ∃ x, look s.t i = .c x := by
        unfold vO at hr
        split at hr
        · rename_i he; exact ⟨_, he⟩
        · exact hr.elim
      obtain ⟨x, hx⟩ := this
      rw [hx] at hf
      simp only [dpost, dresE, hx]
      exact ⟨hf, hf⟩
    · exact hr.elim
  cases e <;> simp only [vpostO] at hv
  case normal => exact (key hv).1
  case ret => exact (key hv).2
theorem useO {P : Program} {f : FuncId} {args args' : List DV} {h : DHeap} {K : DV → DHeap → Prop} {n k : Nat} {es : List (List PV)} (hc : DCalls P f args' [] fun d h' => d = .c (.own 0 0 n) ∧ h' = [.arr k es false]) (hp : dpures h args = some args')
    (hk : K (.c (.own h.length 0 n)) (frzs h (didss args) ++ [.arr k es false])) : DCalls P f args h K :=
  (DCalls.frame h hp hc).mono fun d h' ⟨d0, h0, ⟨h1, h2⟩, h3, h4⟩ => by
    subst h1; subst h2
    subst h3; subst h4
    simpa [DV.sh, CV.sh, DB.sh] using hk
end Go.Dm
