/-
  The engine, fourth part: results as rows, boxes of data, code joined by a picture. No condition.
-/
import Derived.Test.YtcoedlaifhfnnaaDoorVA
set_option linter.unusedSimpArgs false
set_option linter.unusedVariables false

section
/-
  The engine, fourth part: a call that hands its caller a row of its own. No condition.
-/
namespace Go.Dm
open Go

def vO (n : Nat) (h : DHeap) (R : DV → DHeap → Prop) : DV → Prop
  | .c (.own id off len) => off = 0 ∧ n ≤ id ∧ (h.take n).all (closedB n) = true ∧ ∃ k es, h[id]? = some (.arr k es false) ∧ R (.c (.own n 0 len)) (h.take n ++ [.arr k es false])
  | _ => False
def vresO (n : Nat) (t : Fr) (h : DHeap) (R : DV → DHeap → Prop) : List ResultVar → Prop
  | [.tmp i] => vO n h R (look t i)
  | _ => False
def vpostO (n : Nat) (rs : List ResultVar) (R : DV → DHeap → Prop) : Exit → DS → Prop
  | .normal, s => vresO n s.t s.h R rs
  | .ret, s => vresO n s.t s.h R rs
  | _, _ => False
theorem vpostO_n {n : Nat} {rs : List ResultVar} {R : DV → DHeap → Prop} {s : DS} : vpostO n rs R .normal s = vresO n s.t s.h R rs := nr rfl
theorem vpostO_r {n : Nat} {rs : List ResultVar} {R : DV → DHeap → Prop} {s : DS} : vpostO n rs R .ret s = vresO n s.t s.h R rs := nr rfl
theorem vresO_one {n : Nat} {t : Fr} {h : DHeap} {R : DV → DHeap → Prop} {i : Nat} : vresO n t h R [.tmp i] = vO n h R (look t i) := nr rfl
attribute [go_sem] vpostO_n vpostO_r vresO_one
theorem vO_fin {n : Nat} {h : DHeap} {d : DV} {R : DV → DHeap → Prop} (hv : vO n h R d) : Fin n h d R := by
  unfold vO at hv
  split at hv
  · obtain ⟨rfl, h1, h2, k, es, h3, h4⟩ := hv
    exact .inr (.inr ⟨_, _, k, es, rfl, h1, h3, h2, h4⟩)
  · exact hv.elim
theorem entO {P : Program} {T : Tab} (hT : TabOK P T) (hm : P.follows .mixedOrders = true) {f : FuncId} {fn : Func} {c : Code} {args : List DV} {h : DHeap} {R : DV → DHeap → Prop} (hf : P.funcs[f]? = some fn) (hb : fn.body = some c)
    (hc : (Nat.ble args.length fn.ntmps && !(fn.name == "runtime.NumGoroutine")) = true)
    (hs : ∀ X0 : Ctx, X0.h = h → vc P T X0 c ⟨fn.ntmps, frameAt 0 args, h⟩ (vpostO h.length fn.results.toList R)) : DCalls P f args h R := by
  simp only [Bool.and_eq_true, Bool.not_eq_true'] at hc
  refine dcalls_of_swp hT hf hb (Nat.le_of_ble_eq_true hc.1) hc.2 fun X0 hX => ?_
  rw [frameAt_zip]
  refine swp_mono (vc_sound hT hm c (hs X0 hX)) fun e s hv => ?_
  have key : vresO h.length s.t s.h R fn.results.toList → dpost T h.length fn.results.toList R .normal s ∧ dpost T h.length fn.results.toList R .ret s := by
    intro hr
    generalize fn.results.toList = rs at hr
    unfold vresO at hr
    split at hr
    · rename_i i
      have hf := vO_fin hr
      have : ∃ x, look s.t i = .c x := by
        unfold vO at hr
        split at hr
        · rename_i he; exact ⟨_, he⟩
        · exact hr.elim
      obtain ⟨x, hx⟩ := this
      rw [hx] at hf
      simp only [dpost, dresE, hx]
      exact ⟨hf, hf⟩
    · exact hr.elim
  cases e <;> simp only [vpostO] at hv
  case normal => exact (key hv).1
  case ret => exact (key hv).2
theorem useO {P : Program} {f : FuncId} {args args' : List DV} {h : DHeap} {K : DV → DHeap → Prop} {n k : Nat} {es : List (List PV)} (hc : DCalls P f args' [] fun d h' => d = .c (.own 0 0 n) ∧ h' = [.arr k es false]) (hp : dpures h args = some args')
    (hk : K (.c (.own h.length 0 n)) (frzs h (didss args) ++ [.arr k es false])) : DCalls P f args h K :=
  (DCalls.frame h hp hc).mono fun d h' ⟨d0, h0, ⟨h1, h2⟩, h3, h4⟩ => by
    subst h1; subst h2
    subst h3; subst h4
    simpa [DV.sh, CV.sh, DB.sh] using hk

/-- A function's end, its result as it stands in the call's memory. -/
def vR (h : DHeap) (R : DV → DHeap → Prop) : DV → Prop
  | .c x => R (.c x) h
  | _ => False
def vresR (t : Fr) (h : DHeap) (R : DV → DHeap → Prop) : List ResultVar → Prop
  | [.tmp i] => vR h R (look t i)
  | _ => False
def vpostR (rs : List ResultVar) (R : DV → DHeap → Prop) : Exit → DS → Prop
  | .normal, s => vresR s.t s.h R rs
  | .ret, s => vresR s.t s.h R rs
  | _, _ => False
theorem vpostR_n {rs : List ResultVar} {R : DV → DHeap → Prop} {s : DS} : vpostR rs R .normal s = vresR s.t s.h R rs := nr rfl
theorem vpostR_r {rs : List ResultVar} {R : DV → DHeap → Prop} {s : DS} : vpostR rs R .ret s = vresR s.t s.h R rs := nr rfl
theorem vresR_one {t : Fr} {h : DHeap} {R : DV → DHeap → Prop} {i : Nat} : vresR t h R [.tmp i] = vR h R (look t i) := nr rfl
theorem vR_c {h : DHeap} {R : DV → DHeap → Prop} {x : CV} : vR h R (.c x) = R (.c x) h := nr rfl
attribute [go_sem] vpostR_n vpostR_r vresR_one vR_c
theorem entR {P : Program} {T : Tab} (hT : TabOK P T) (hm : P.follows .mixedOrders = true) {f : FuncId} {fn : Func} {c : Code} {args : List DV} {h : DHeap} {R : DV → DHeap → Prop} (hf : P.funcs[f]? = some fn) (hb : fn.body = some c)
    (hc : (Nat.ble args.length fn.ntmps && !(fn.name == "runtime.NumGoroutine")) = true)
    (hs : ∀ X0 : Ctx, X0.h = h → vc P T X0 c ⟨fn.ntmps, frameAt 0 args, h⟩ (vpostR fn.results.toList R)) : DCalls P f args h R := by
  simp only [Bool.and_eq_true, Bool.not_eq_true'] at hc
  refine dcalls_of_swp hT hf hb (Nat.le_of_ble_eq_true hc.1) hc.2 fun X0 hX => ?_
  rw [frameAt_zip]
  refine swp_mono (vc_sound hT hm c (hs X0 hX)) fun e s hv => ?_
  have key : vresR s.t s.h R fn.results.toList → dpost T h.length fn.results.toList R .normal s ∧ dpost T h.length fn.results.toList R .ret s := by
    intro hr
    generalize fn.results.toList = rs at hr
    unfold vresR at hr
    split at hr
    · rename_i i
      unfold vR at hr
      split at hr
      · rename_i x hx
        simp only [dpost, dresE, hx]
        exact ⟨.inl hr, .inl hr⟩
      · exact hr.elim
    · exact hr.elim
  cases e <;> simp only [vpostR] at hv
  case normal => exact (key hv).1
  case ret => exact (key hv).2

/-! A nil slice within a row's elements, taken as an empty one. -/
def wkPs : List PV → List PV → Prop
  | [], [] => True
  | x :: xs, y :: ys => wkP x y ∧ wkPs xs ys
  | _, _ => False
def wkRows : List (List PV) → List (List PV) → Prop
  | [], [] => True
  | e :: es, f :: fs => wkPs e f ∧ wkRows es fs
  | _, _ => False
theorem wkPs.len : ∀ {e f : List PV}, wkPs e f → f.length = e.length
  | [], [], _ => rfl
  | _ :: _, _ :: _, h => by simp [wkPs.len h.2]
  | [], _ :: _, h => h.elim
  | _ :: _, [], h => h.elim
theorem wkRows.len : ∀ {e f : List (List PV)}, wkRows e f → f.length = e.length
  | [], [], _ => rfl
  | _ :: _, _ :: _, h => by simp [wkRows.len h.2]
  | [], _ :: _, h => h.elim
  | _ :: _, [], h => h.elim
theorem wkP.relP {w : World} {S : Nat → Prop} {x y : PV} {v : Value} (h : wkP x y) (hr : RelP w S x v) : RelP w S y v := by
  rcases h with rfl | ⟨rfl, k, rfl⟩
  · exact hr
  · exact RelP.nilOf k hr
theorem wkPs.relE {w : World} {S : Nat → Prop} {bl : Nat} : ∀ {e f : List PV} {off : Nat}, wkPs e f → RelE w S bl off e → RelE w S bl off f
  | [], [], _, _, _ => True.intro
  | _ :: _, _ :: _, _, h, ⟨⟨v, h1, h2⟩, h3⟩ => ⟨⟨v, h1, h.1.relP h2⟩, wkPs.relE h.2 h3⟩
  | [], _ :: _, _, h, _ => h.elim
  | _ :: _, [], _, h, _ => h.elim
theorem wkRows.relL {w : World} {S : Nat → Prop} {k bl : Nat} : ∀ {e f : List (List PV)} {off : Nat}, wkRows e f → RelL w S k bl off e → RelL w S k bl off f
  | [], [], _, _, _ => True.intro
  | _ :: _, _ :: _, _, h, ⟨⟨h1, h2⟩, h3⟩ => ⟨⟨h.1.len.trans h1, h.1.relE h2⟩, wkRows.relL h.2 h3⟩
  | [], _ :: _, _, h, _ => h.elim
  | _ :: _, [], _, h, _ => h.elim
end Go.Dm
end

section
/-
  The engine, fifth part: contracts over one box of data, used in any memory; a box that is handed out with what it holds made immutable. No condition.
-/
namespace Go.Dm
open Go

/-- Only data: no number of a row or of a box. -/
def datC : CV → Bool
  | .p _ => true
  | _ => false
def datE : EV → Bool
  | .c x => datC x
  | .agg xs => xs.all datC
def datD : DV → Bool
  | .jk => true
  | .c x => datC x
  | .agg xs => xs.all datC
  | .tup xs => xs.all datE

theorem datC_rel {X Y : Ctx} (hw : Y.w = X.w) (hS : Y.S = X.S) {x : CV} {v : Value} (hf : datC x = true) (h : RelC X x v) : RelC Y x v := by
  cases x <;> simp only [datC] at hf
  · simp only [RelC] at h ⊢; rw [hw, hS]; exact h
  all_goals cases hf
theorem datCs_rel {X Y : Ctx} (hw : Y.w = X.w) (hS : Y.S = X.S) : ∀ {xs : List CV} {vs : List Value}, xs.all datC = true → RelCs X xs vs → RelCs Y xs vs
  | [], [], _, _ => True.intro
  | _ :: _, _ :: _, hf, h => by
    simp only [List.all_cons, Bool.and_eq_true] at hf
    exact ⟨datC_rel hw hS hf.1 h.1, datCs_rel hw hS hf.2 h.2⟩
  | [], _ :: _, _, h => h.elim
  | _ :: _, [], _, h => h.elim
theorem datE_rel {X Y : Ctx} (hw : Y.w = X.w) (hS : Y.S = X.S) {x : EV} {v : Value} (hf : datE x = true) (h : RelEV X x v) : RelEV Y x v := by
  cases x <;> simp only [datE] at hf <;> simp only [RelEV] at h ⊢
  · exact datC_rel hw hS hf h
  · obtain ⟨vs, h1, h2⟩ := h; exact ⟨vs, h1, datCs_rel hw hS hf h2⟩
theorem datEs_rel {X Y : Ctx} (hw : Y.w = X.w) (hS : Y.S = X.S) : ∀ {xs : List EV} {vs : List Value}, xs.all datE = true → RelEVs X xs vs → RelEVs Y xs vs
  | [], [], _, _ => True.intro
  | _ :: _, _ :: _, hf, h => by
    simp only [List.all_cons, Bool.and_eq_true] at hf
    exact ⟨datE_rel hw hS hf.1 h.1, datEs_rel hw hS hf.2 h.2⟩
  | [], _ :: _, _, h => h.elim
  | _ :: _, [], _, h => h.elim
theorem datD_rel {X Y : Ctx} (hw : Y.w = X.w) (hS : Y.S = X.S) {x : DV} {v : Value} (hf : datD x = true) (h : RelD X x v) : RelD Y x v := by
  cases x <;> simp only [datD] at hf <;> simp only [RelD] at h ⊢
  · exact datC_rel hw hS hf h
  · obtain ⟨vs, h1, h2⟩ := h; exact ⟨vs, h1, datCs_rel hw hS hf h2⟩
  · obtain ⟨vs, h1, h2⟩ := h; exact ⟨vs, h1, datEs_rel hw hS hf h2⟩
theorem datBox_rel {X Y : Ctx} (hw : Y.w = X.w) (hS : Y.S = X.S) {bl : Nat} : ∀ {off : Nat} {cs : List CV}, cs.all datC = true → RelBox X bl off cs → RelBox Y bl off cs
  | _, [], _, _ => True.intro
  | _, _ :: _, hf, h => by
    simp only [List.all_cons, Bool.and_eq_true] at hf
    obtain ⟨⟨v, h1, h2⟩, h3⟩ := h
    exact ⟨⟨v, by rw [hw]; exact h1, datC_rel hw hS hf.1 h2⟩, datBox_rel hw hS hf.2 h3⟩
theorem relPs_dat {X Y : Ctx} (hw : Y.w = X.w) (hS : Y.S = X.S) : ∀ {ps : List PV} {vs : List Value}, RelDs X (ps.map fun x => .c (.p x)) vs → RelDs Y (ps.map fun x => .c (.p x)) vs
  | [], [], _ => True.intro
  | _ :: _, _ :: _, h => ⟨datD_rel hw hS rfl h.1, relPs_dat hw hS h.2⟩
  | [], _ :: _, h => h.elim
  | _ :: _, [], h => h.elim

theorem datBox_mk {X : Ctx} {G : Nat → Option (Nat × Nat)} {h : DHeap} {bl off : Nat} {cs : List CV} (hf : cs.all datC = true) (hb : RelBox X bl off cs) : RelBox ⟨X.w, X.S, G, h⟩ bl off cs := datBox_rel (X := X) (Y := ⟨X.w, X.S, G, h⟩) rfl rfl hf hb
theorem datD_mk {X : Ctx} {G : Nat → Option (Nat × Nat)} {h : DHeap} {d : DV} {v : Value} (hf : datD d = true) (hd : RelD X d v) : RelD ⟨X.w, X.S, G, h⟩ d v := datD_rel (X := X) (Y := ⟨X.w, X.S, G, h⟩) rfl rfl hf hd

/-- A contract over one box of data, used in any memory. -/
theorem DCalls.box {P : Program} {f : FuncId} {h : DHeap} {i : Nat} {c0 c1 : List CV} {ps : List PV} {r : DV} {K : DV → DHeap → Prop}
    (hc : DCalls P f (.c (.ptr 0 0) :: ps.map fun x => .c (.p x)) [.box c0] fun d h' => d = r ∧ h' = [.box c1])
    (h0 : h[i]? = some (.box c0)) (hd : (c0.all datC && (c1.all datC && datD r)) = true) (hk : K r (h.set i (.box c1))) :
    DCalls P f (.c (.ptr i 0) :: ps.map fun x => .c (.p x)) h K := by
  simp only [Bool.and_eq_true] at hd
  obtain ⟨hd0, hd1, hdr⟩ := hd
  intro X vals hh hi gd hr
  subst hh
  have hlt := lt_of_some h0
  obtain ⟨g, arr, el, fz, hg, hb1, hb2, hb3, hb4⟩ := hi.blk i _ h0
  let Y : Ctx := ⟨X.w, X.S, fun j => if j = 0 then some g else none, [.box c0]⟩
  have hiY : HInv Y := by
    refine ⟨hi.slt, fun id db hdb => ?_, fun id db g' hdb hl hg' => ?_, fun id db id' db' g1 g2 hdb _ _ hdb' _ _ _ _ => ?_⟩
    · cases id with
      | zero =>
        simp only [Y, List.getElem?_cons_zero, Option.some.injEq] at hdb
        subst hdb
        exact ⟨g, arr, el, fz, rfl, hb1, hb2, hb3, datBox_mk hd0 hb4⟩
      | succ n => simp [Y] at hdb
    · cases id with
      | zero =>
        simp only [Y, List.getElem?_cons_zero, Option.some.injEq, if_true] at hdb hg'
        subst hdb; subst hg'
        exact hi.own i _ g h0 rfl hg
      | succ n => simp [Y] at hdb
    · have e1 := lt_of_some hdb
      have e2 := lt_of_some hdb'
      simp only [Y, List.length_cons, List.length_nil] at e1 e2
      omega
  cases vals with
  | nil => exact hr.elim
  | cons v0 vs =>
    obtain ⟨⟨_, hv1, hv2⟩, hr2⟩ := hr
    obtain ⟨g', hg', rfl⟩ := hv2 _ h0
    rw [hg] at hg'; cases hg'
    have hrY : RelDs Y (.c (.ptr 0 0) :: ps.map fun x => .c (.p x)) (.pointer (some ⟨g.1, g.2 + 0, none⟩) :: vs) :=
      ⟨⟨Nat.zero_lt_one, rfl, fun cells hcells => ⟨g, rfl, rfl⟩⟩, relPs_dat (X := X) (Y := Y) rfl rfl hr2⟩
    have key : ∀ v w', Ret Y (fun d h' => d = r ∧ h' = [.box c1]) v w' → Ret X K v w' := by
      rintro v w' ⟨d, Z, h1, h2, h3, h4, rfl, h5⟩
      have hZ0 : Z.h[0]? = some (.box c1) := by rw [h5]; rfl
      obtain ⟨db, e1, e2, e3, e4⟩ := h3.ids 0 _ (by simp [Y]) hZ0 rfl
      have hGZ : Z.G 0 = some g := e3
      have e4 := e4 g rfl
      have hfr : ∀ b, b < X.w.heap.size → b ≠ g.1 → Z.w.heap[b]? = X.w.heap[b]? := fun b hb hne => h3.frame b hb fun id db g' hdb hl hf hg' => by
        have e1 := lt_of_some hdb
        simp only [Y, List.length_cons, List.length_nil] at e1
        have : id = 0 := by omega
        subst this
        simp only [Y, if_true, Option.some.injEq] at hg'
        subst hg'
        exact fun e => hne e.symm
      have hst : Step X ⟨Z.w, Z.S, X.G, X.h.set i (.box c1)⟩ := by
        refine ⟨h3.size, h3.os, h3.tape, h3.output, h3.kept, by simp, fun id db' hl' hdb' hlv => ?_, fun b hb hno => ?_, fun id db g' hdb hl hf hg' => ?_, fun b hb => ?_⟩
        · rcases put_some hdb' with ⟨rfl, rfl, _⟩ | ⟨hne, h'⟩
          · exact ⟨_, h0, True.intro, rfl, fun g' hg' => by rw [hg] at hg'; cases hg'; exact e4⟩
          · refine ⟨db', h', SameB.refl hlv, rfl, fun g' hg' => ?_⟩
            rw [show Z.w.heap[g'.1]? = X.w.heap[g'.1]? from hfr _ (hi.block_lt h' hlv hg') fun e => hne (hi.inj i _ id db' g g' h0 rfl rfl h' hlv hg hg' e.symm).symm]
            exact (hi.blk id db' h').same hlv g' hg'
        · exact hfr b hb fun e => hno i _ g h0 rfl rfl hg e.symm
        · rcases put_some hdb with ⟨rfl, rfl, _⟩ | ⟨hne, h'⟩
          · exact .inr ⟨id, _, g', h0, rfl, rfl, hg', rfl⟩
          · exact .inr ⟨id, db, g', h', hl, hf, hg', rfl⟩
        · rcases h3.upper b hb with h | h | ⟨id, db, g', hdb, hl, hg', e⟩
          · exact .inl h
          · exact .inr (.inl h)
          · have e1 := lt_of_some hdb
            simp only [Y, List.length_cons, List.length_nil] at e1
            have : id = 0 := by omega
            subst this
            simp only [Y, if_true, Option.some.injEq] at hg'
            subst hg'
            exact .inr (.inr ⟨i, _, g, h0, rfl, hg, e⟩)
      refine ⟨d, ⟨Z.w, Z.S, X.G, X.h.set i (.box c1)⟩, h1, ⟨h2.slt, fun id db hdb => ?_, fun id db g' hdb hl hg' => ?_, fun id db id' db' g1 g2 hdb hl hf hdb' hl' hg1 hg2 he => ?_⟩, hst, datD_mk hdr h4, hk⟩
      · rcases put_some hdb with ⟨rfl, rfl, _⟩ | ⟨hne, h'⟩
        · obtain ⟨g', arr', el', fz', k1, k2, k3, k4, k5⟩ := h2.blk 0 _ hZ0
          rw [hGZ] at k1; cases k1
          exact ⟨g, arr', el', fz', hg, k2, k3, k4, datBox_mk hd1 k5⟩
        · by_cases hl : db.live = true
          · exact (hi.blk id db h').move hst rfl fun g' hg' => hfr _ (hi.block_lt h' hl hg') fun e => hne (hi.inj i _ id db g g' h0 rfl rfl h' hl hg hg' e.symm).symm
          · cases db <;> simp_all [DB.live, RelB]
      · rcases put_some hdb with ⟨rfl, rfl, _⟩ | ⟨hne, h'⟩
        · have hgg : g' = g := by
            have : X.G id = some g' := hg'
            rw [hg] at this; cases this; rfl
          subst hgg
          exact h2.own 0 _ g' hZ0 rfl hGZ
        · have ho := hi.own id db g' h' hl hg'
          refine ⟨fun hf hS => ?_, fun hf => (h3.kept _ (ho.2 hf)).1⟩
          rcases h3.upper _ hS with h | h | ⟨j, d', g2, hdb2, hl2, hg2, e⟩
          · exact ho.1 hf h
          · have := hi.block_lt h' hl hg'
            have hYw : Y.w.heap.size = X.w.heap.size := rfl
            omega
          · have e1 := lt_of_some hdb2
            simp only [Y, List.length_cons, List.length_nil] at e1
            have : j = 0 := by omega
            subst this
            simp only [Y, if_true, Option.some.injEq] at hg2
            subst hg2
            exact hne (hi.inj i _ id db g g' h0 rfl rfl h' hl hg hg' e).symm
      · rcases put_some hdb with ⟨rfl, rfl, _⟩ | ⟨hne, h1'⟩ <;> rcases put_some hdb' with ⟨rfl, rfl, _⟩ | ⟨hne', h2'⟩
        · rfl
        · exact hi.inj id _ id' db' g1 g2 h0 rfl rfl h2' hl' hg1 hg2 he
        · exact hi.inj id db id' _ g1 g2 h1' hl hf h0 rfl hg1 hg2 he
        · exact hi.inj id db id' db' g1 g2 h1' hl hf h2' hl' hg1 hg2 he
    have gdY : Gnd P Y := gd
    rcases hc Y _ rfl hiY gdY hrY with ⟨h1, h2⟩ | ⟨v, w', h1, h2⟩
    · exact .inl ⟨h1, h2.mono fun e w' ⟨v, he, hv⟩ => ⟨v, he, key v w' hv⟩⟩
    · exact .inr ⟨v, w', h1, key v w' h2⟩

/-! A new box, handed out: what it holds is immutable from then on. -/
/-! A nil slice within a box, taken as an empty row. -/
end Go.Dm
end

section
/-
  The engine, sixth part: code joined by a picture, so that what follows is shown once. No condition.
-/
namespace Go.Dm
open Go
section
variable {P : Program} {T : Tab} {X0 : Ctx} {Q : Exit → DS → Prop}
/-- What is shown of the one picture holds of the other one. -/
def WkS (P : Program) (X0 : Ctx) (s s' : DS) : Prop := ∀ (c : Code) (Q : Exit → DS → Prop), SWP P X0 c s' Q → SWP P X0 c s Q
def qjoin {α : Type} (P : Program) (X0 : Ctx) (I : α → DS) (J : α → Prop) (Q : Exit → DS → Prop) : Exit → DS → Prop := fun e s' => match e with
  | .normal => ∃ y, J y ∧ WkS P X0 s' (I y)
  | e => Q e s'
/-- What stands ahead of a piece of code ends in one picture. -/
theorem swp_join (hT : TabOK P T) (hm : P.follows .mixedOrders = true) {α : Type} (I : α → DS) (J : α → Prop) {x y : Code} {s : DS} (h1 : vc P T X0 x s (qjoin P X0 I J Q))
    (h2 : ∀ a, J a → SWP P X0 y (I a) Q) : SWP P X0 (.seq x y) s Q :=
  swp_seq (swp_mono (vc_sound hT hm x h1) fun e s' hq => by
    cases e <;> simp only [qjoin] at hq ⊢
    case normal =>
      obtain ⟨a, ha, hw⟩ := hq
      exact hw _ _ (h2 a ha)
    all_goals exact hq)
theorem qj_e {α : Type} {I : α → DS} {J : α → Prop} {id : Nat} {s : DS} : qjoin P X0 I J Q (.exit id) s = Q (.exit id) s := nr rfl
theorem qj_r {α : Type} {I : α → DS} {J : α → Prop} {s : DS} : qjoin P X0 I J Q .ret s = Q .ret s := nr rfl
theorem qj_n {α : Type} {I : α → DS} {J : α → Prop} {s : DS} (y : α) (h1 : J y) (h3 : Weak X0.h.length s (I y)) : qjoin P X0 I J Q .normal s := ⟨y, h1, fun _ _ h => swp_weak h3 h⟩
/-- One piece, then the rest as a whole. -/
def qrest (P : Program) (X0 : Ctx) (y : Code) (Q : Exit → DS → Prop) : Exit → DS → Prop := fun e s' => match e with
  | .normal => SWP P X0 y s' Q
  | e => Q e s'
theorem swp_first (hT : TabOK P T) (hm : P.follows .mixedOrders = true) {x y : Code} {s : DS} (h1 : vc P T X0 x s (qrest P X0 y Q)) : SWP P X0 (.seq x y) s Q :=
  swp_seq (swp_mono (vc_sound hT hm x h1) fun e s' hq => by
    cases e <;> simp only [qrest] at hq ⊢ <;> exact hq)
theorem qf_n {y : Code} {s : DS} : qrest P X0 y Q .normal s = SWP P X0 y s Q := nr rfl
theorem qf_e {y : Code} {id : Nat} {s : DS} : qrest P X0 y Q (.exit id) s = Q (.exit id) s := nr rfl
theorem qf_r {y : Code} {s : DS} : qrest P X0 y Q .ret s = Q .ret s := nr rfl
attribute [go_sem] qj_e qj_r qf_n qf_e qf_r
/-- A call's proof, what it runs taken as a whole. -/
theorem entS {h : DHeap} {f : FuncId} {fn : Func} {c : Code} {args : List DV} {R : DV → DHeap → Prop} (hT : TabOK P T) (hf : P.funcs[f]? = some fn) (hb : fn.body = some c)
    (hc : (Nat.ble args.length fn.ntmps && !(fn.name == "runtime.NumGoroutine")) = true)
    (hs : ∀ X0 : Ctx, X0.h = h → SWP P X0 c ⟨fn.ntmps, frameAt 0 args, h⟩ (vpost T h.length fn.results.toList R)) : DCalls P f args h R := by
  simp only [Bool.and_eq_true, Bool.not_eq_true'] at hc
  refine dcalls_of_swp hT hf hb (Nat.le_of_ble_eq_true hc.1) hc.2 fun X0 hX => ?_
  rw [frameAt_zip]
  exact swp_mono (hs X0 hX) fun e s => vpost_dpost
end
end Go.Dm
end
