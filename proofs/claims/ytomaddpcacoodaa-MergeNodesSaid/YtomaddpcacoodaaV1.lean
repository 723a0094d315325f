/-
  The engine, part 21: bodies gone through by rewriting alone: the condition under which a body ends as wished, as a function of the body. No condition: consequences of the parts before.
-/
import Derived.Test.YtomaddpcacoodaaE20
set_option linter.unusedSimpArgs false
set_option linter.unusedVariables false
namespace Go.Dm
open Go

def vc (P : Program) (T : Tab) (X0 : Ctx) : Code → DS → (Exit → DS → Prop) → Prop
  | .skip, s, Q => Q .normal s
  | .ret, s, Q => Q .ret s
  | .exit id, s, Q => Q (.exit id) s
  | .seq x y, s, Q => vc P T X0 x s fun e s' => match e with
    | .normal => vc P T X0 y s' Q
    | e => Q e s'
  | .block id c, s, Q => vc P T X0 c s (qblock id Q)
  | .cond c x y, s, Q => match evD s.t c with
    | .c (.p (.b t)) => (t = true → vc P T X0 x s Q) ∧ (t = false → vc P T X0 y s Q)
    | _ => False
  | .region _ ops false, s, Q => dops P T ops ops.toList s (Q .normal)
  | c, s, Q => SWP P X0 c s Q

theorem vc_sound {P : Program} {T : Tab} {X0 : Ctx} (hT : TabOK P T) (hm : P.follows .mixedOrders = true) : ∀ (c : Code) {s : DS} {Q : Exit → DS → Prop}, vc P T X0 c s Q → SWP P X0 c s Q
  | .skip, s, Q, h => swp_skip h
  | .ret, s, Q, h => swp_ret h
  | .exit id, s, Q, h => swp_exit h
  | .seq x y, s, Q, h => swp_seq (swp_mono (vc_sound hT hm x h) fun e s' hq => by
      cases e <;> simp only at hq ⊢
      case normal => exact vc_sound hT hm y hq
      all_goals exact hq)
  | .block id c, s, Q, h => swp_block (swp_mono (vc_sound hT hm c h) fun e s' hq => by
      cases e <;> simp only [qblock] at hq ⊢ <;> exact hq)
  | .cond c x y, s, Q, h => by
      simp only [vc] at h
      split at h
      · rename_i t ht
        exact swp_cond ht (fun e => vc_sound hT hm x (h.1 e)) (fun e => vc_sound hT hm y (h.2 e))
      · exact h.elim
  | .region id ops false, s, Q, h => swp_region hT h
  | .region id ops true, s, Q, h => h
  | .loop c, s, Q, h => h
  | .rangeFunc _ _ _ _, s, Q, h => h
  | .scope _, s, Q, h => h
  | .label _, s, Q, h => h
  | .goto _, s, Q, h => h
  | .refuse _, s, Q, h => h

/-- A result taken out of the call's memory, as data. -/
def FinP (n : Nat) (h : DHeap) (d : DV) (R : DV → DHeap → Prop) : Prop :=
  match rpure h d with
  | some d' => ((frzs h (rids d)).take n).all (closedB n) = true ∧ R d' ((frzs h (rids d)).take n)
  | none => False
theorem FinP.fin {n : Nat} {h : DHeap} {d : DV} {R : DV → DHeap → Prop} (hf : FinP n h d R) : Fin n h d R := by
  unfold FinP at hf
  split at hf
  · rename_i d' hd
    exact .inr (.inl ⟨d', hd, hf.1, hf.2⟩)
  · exact hf.elim

/-- A function's end, results read from slots alone. -/
def vres (T : Tab) (n : Nat) (t : Fr) (h : DHeap) (R : DV → DHeap → Prop) : List ResultVar → List EV → Prop
  | [], es => FinP n h (dresD es.reverse) R
  | .tmp i :: rs, es =>
    match look t i with
    | .c x => vres T n t h R rs (.c x :: es)
    | .agg xs => vres T n t h R rs (.agg xs :: es)
    | _ => False
  | .cell a ty :: rs, es => (T ty).size ≠ 0 ∧ dload (T ty) h (look t a) fun d =>
    match d with
    | .c x => vres T n t h R rs (.c x :: es)
    | .agg xs => vres T n t h R rs (.agg xs :: es)
    | _ => False
def vpost (T : Tab) (n : Nat) (rs : List ResultVar) (R : DV → DHeap → Prop) : Exit → DS → Prop
  | .normal, s => vres T n s.t s.h R rs []
  | .ret, s => vres T n s.t s.h R rs []
  | _, _ => False

theorem dload_mono {T : TI} {h : DHeap} {a : DV} {K K' : DV → Prop} (hk : ∀ d, K d → K' d) (hd : dload T h a K) : dload T h a K' := by
  unfold dload at hd ⊢
  revert hd
  split
  · split
    · split
      · exact fun h => ⟨h.1, hk _ h.2⟩
      · split
        · exact fun h => hk _ h
        · exact fun h => h
    · exact fun h => h
  · split
    · split
      · exact fun h => ⟨h.1, h.2.1, hk _ h.2.2⟩
      · exact fun h => ⟨h.1, h.2.1, hk _ h.2.2⟩
    · exact fun h => h
  · split
    · exact fun h => ⟨h.1, hk _ h.2⟩
    · split
      · exact fun h => hk _ h
      · exact fun h => h
  · exact fun h => h

theorem vres_dres {T : Tab} {n : Nat} {s : DS} {R : DV → DHeap → Prop} : ∀ (rs : List ResultVar) (es : List EV) {K : List EV → Prop}, (∀ l, FinP n s.h (dresD (es.reverse ++ l)) R → K l) → vres T n s.t s.h R rs es → dresE T s rs K
  | [], es, K, hk, h => hk [] (by simpa [vres] using h)
  | .tmp i :: rs, es, K, hk, h => by
    simp only [vres, dresE] at h ⊢
    generalize look s.t i = d at h ⊢
    cases d <;> simp only at h ⊢
    · exact vres_dres rs _ (fun l hl => hk _ (by simpa using hl)) h
    · exact vres_dres rs _ (fun l hl => hk _ (by simpa using hl)) h
  | .cell a ty :: rs, es, K, hk, h => by
    simp only [vres, dresE] at h ⊢
    refine ⟨h.1, dload_mono (fun d hd => ?_) h.2⟩
    cases d <;> simp only at hd ⊢
    · exact vres_dres rs _ (fun l hl => hk _ (by simpa using hl)) hd
    · exact vres_dres rs _ (fun l hl => hk _ (by simpa using hl)) hd

theorem vpost_dpost {T : Tab} {n : Nat} {rs : List ResultVar} {R : DV → DHeap → Prop} {e : Exit} {s : DS} (h : vpost T n rs R e s) : dpost T n rs R e s := by
  cases e <;> simp only [vpost, dpost] at h ⊢
  case normal => exact vres_dres rs [] (fun l hl => FinP.fin (by simpa using hl)) h
  case ret => exact vres_dres rs [] (fun l hl => FinP.fin (by simpa using hl)) h

def frameAt : Nat → List DV → Fr
  | _, [] => []
  | i, d :: l => (i, d) :: frameAt (i + 1) l
theorem frameAt_zip : ∀ (l : List DV) (i : Nat), (l.zipIdx i).map (fun p => (p.2, p.1)) = frameAt i l
  | [], _ => rfl
  | d :: l, i => by simp only [List.zipIdx_cons, List.map_cons, frameAt, frameAt_zip l]

/-- A function's contract, from its body's condition. -/
theorem ent {P : Program} {T : Tab} (hT : TabOK P T) (hm : P.follows .mixedOrders = true) {f : FuncId} {fn : Func} {c : Code} {args : List DV} {h : DHeap} {R : DV → DHeap → Prop} (hf : P.funcs[f]? = some fn) (hb : fn.body = some c)
    (hc : (Nat.ble args.length fn.ntmps && !(fn.name == "runtime.NumGoroutine")) = true)
    (hs : ∀ X0 : Ctx, X0.h = h → vc P T X0 c ⟨fn.ntmps, frameAt 0 args, h⟩ (vpost T h.length fn.results.toList R)) : DCalls P f args h R := by
  simp only [Bool.and_eq_true, Bool.not_eq_true'] at hc
  refine dcalls_of_swp hT hf hb (Nat.le_of_ble_eq_true hc.1) hc.2 fun X0 hX => ?_
  rw [frameAt_zip]
  exact swp_mono (vc_sound hT hm c (hs X0 hX)) fun e s => vpost_dpost

end Go.Dm
