import Derived.Test.YtcoedlaifhfnnaaDoorVB
import Derived.Test.YtcoedlaifhfnnaaDoorSB

section
/-
  The engine, sixth part: a nil slice within a box taken as an empty row; a loop's round taken as a whole. No condition.
-/

set_option linter.unusedSimpArgs false
set_option linter.unusedVariables false
namespace Go.Dm
open Go
section
variable {P : Program} {T : Tab} {X0 : Ctx} {Q : Exit → DS → Prop}
theorem swp_vc (hT : TabOK P T) (hm : P.follows .mixedOrders = true) {c : Code} {s : DS} (h : vc P T X0 c s Q) : SWP P X0 c s Q := vc_sound hT hm c h
/-- A loop by an invariant, its round taken as a whole. -/
theorem loop_renS {α : Type} {c : Code} (I : α → DS) (J : α → Prop) (μ : α → Nat) (x0 : α) {s : DS} (hJ : J x0) (hw : WeakR X0.h.length s (I x0))
    (h : ∀ x, J x → SWP P X0 c (I x) (qloopR X0.h.length I J μ x Q)) : SWP P X0 (.loop c) s Q := by
  intro gd X a hh hi hs ht
  obtain ⟨X', h1, h2, h3, h4, h5⟩ := hw.use rfl hh hi hs ht
  rw [← h1]
  refine wp_loop_ghost (fun n a w => ∃ x X, μ x = n ∧ J x ∧ X.w = w ∧ X.h = (I x).h ∧ HInv X ∧ Step X0 X ∧ TInv X (I x) a) (μ x0) ⟨x0, X', rfl, hJ, rfl, h2, h3, h4, h5⟩ ?_
  rintro n a' w' ⟨x, Y, rfl, k1, rfl, k2, k3, k4, k5⟩
  refine wp_mono (h x k1 gd Y a' k2 k3 k4 k5) fun e a w hp => ?_
  obtain ⟨s', Z, p1, rfl, p3, p4, p5, p6⟩ := hp
  cases e <;> simp only [Exit.then, qloopR] at p1 ⊢
  case normal =>
    obtain ⟨y, q1, q2, q3⟩ := p1
    obtain ⟨Z', r1, r2, r3, r4, r5⟩ := q3.use rfl p3 p4 p5 p6
    exact ⟨μ y, q2, y, Z', rfl, q1, r1, r2, r3, r4, r5⟩
  all_goals exact ⟨s', Z, p1, rfl, p3, p4, p5, p6⟩
end
theorem bytesOf_nil : bytesOf [] = some [] := rfl
attribute [go_sem] bytesOf_nil
end Go.Dm

end

section
/-
  The engine, seventh part: a region whose order is drawn, with one change of memory that may come at any moment among the others. No condition.
-/

set_option linter.unusedSimpArgs false
set_option linter.unusedVariables false
namespace Go.Dm
open Go
section
variable {P : Program} {T : Tab} {X0 : Ctx}
structure RInvF (P : Program) (X0 : Ctx) (ops : Array Oper) (n : Nat) (chain : List Nat) (f : Nat) (V : Nat → DV) (H : Nat → Bool → DHeap) (t0 : Fr) (L : Array Bool) (X : Ctx) (a : Act) : Prop where
  size : L.size = ops.size
  closed : Closed ops L
  hh : X.h = H (chain.filter fun e => L.getD e false).length (L.getD f false)
  hi : HInv X
  hs : Step X0 X
  sz : a.tmps.size = n
  defs : a.defers = []
  relA : ∀ k j, L.getD k false = true → dstOf ops k = some j → RelD X (V k) (a.tmps.getD j undef)
  relB : ∀ j, (∀ k, L.getD k false = true → dstOf ops k ≠ some j) → RelD X (look t0 j) (a.tmps.getD j undef)
section plan
variable {ops : Array Oper} {n : Nat} {chain order : List Nat}

end plan
end
end Go.Dm

end

section
/-
  The engine, eighth part: two results as they stand; a row that a caller lends and keeps. No condition.
-/

set_option linter.unusedSimpArgs false
set_option linter.unusedVariables false
namespace Go.Dm
open Go

/-- A function's end, two results as they stand in the call's memory. -/
def v2 (h : DHeap) (R : DV → DHeap → Prop) : DV → DV → Prop
  | .c x, .c y => R (.tup [.c x, .c y]) h
  | _, _ => False
def vres2 (t : Fr) (h : DHeap) (R : DV → DHeap → Prop) : List ResultVar → Prop
  | [.tmp i, .tmp j] => v2 h R (look t i) (look t j)
  | _ => False
def vpost2 (rs : List ResultVar) (R : DV → DHeap → Prop) : Exit → DS → Prop
  | .normal, s => vres2 s.t s.h R rs
  | .ret, s => vres2 s.t s.h R rs
  | _, _ => False
theorem vpost2_n {rs : List ResultVar} {R : DV → DHeap → Prop} {s : DS} : vpost2 rs R .normal s = vres2 s.t s.h R rs := nr rfl
theorem vpost2_r {rs : List ResultVar} {R : DV → DHeap → Prop} {s : DS} : vpost2 rs R .ret s = vres2 s.t s.h R rs := nr rfl
theorem vres2_two {t : Fr} {h : DHeap} {R : DV → DHeap → Prop} {i j : Nat} : vres2 t h R [.tmp i, .tmp j] = v2 h R (look t i) (look t j) := nr rfl
theorem v2_c {h : DHeap} {R : DV → DHeap → Prop} {x y : CV} : v2 h R (.c x) (.c y) = R (.tup [.c x, .c y]) h := nr rfl
attribute [go_sem] vpost2_n vpost2_r vres2_two v2_c
/-- A contract over one row of the caller's, which stays as it is, used in any memory. -/
def lentA (i n : Nat) : Option PV → DV
  | some x => .c (.p x)
  | none => .c (.own i 0 n)
theorem lent_rel {X Y : Ctx} {i n : Nat} (hw : Y.w = X.w) (hS : Y.S = X.S) (ho : ∀ v, RelD X (.c (.own i 0 n)) v → RelD Y (.c (.own 0 0 n)) v) : ∀ {L : List (Option PV)} {vs : List Value}, RelDs X (L.map (lentA i n)) vs → RelDs Y (L.map (lentA 0 n)) vs
  | [], [], _ => True.intro
  | none :: _, _ :: _, h => ⟨ho _ h.1, lent_rel hw hS ho h.2⟩
  | some _ :: _, _ :: _, h => ⟨datD_rel (X := X) (Y := Y) hw hS rfl h.1, lent_rel hw hS ho h.2⟩
  | [], _ :: _, h => h.elim
  | none :: _, [], h => h.elim
  | some _ :: _, [], h => h.elim
theorem DCalls.lent {P : Program} {f : FuncId} {h : DHeap} {i k n : Nat} {es : List (List PV)} (L : List (Option PV)) {r : DV} {K : DV → DHeap → Prop}
    (hc : DCalls P f (L.map (lentA 0 n)) [.arr k es false] fun d h' => d = r ∧ h' = [.arr k es false])
    (h0 : h[i]? = some (.arr k es false)) (hdr : datD r = true) (hk : K r h) :
    DCalls P f (L.map (lentA i n)) h K := by
  intro X vals hh hi gd hr
  subst hh
  have hlt := lt_of_some h0
  have hb0 := hi.blk i _ h0
  let Y : Ctx := ⟨X.w, X.S, fun j => if j = 0 then X.G i else none, [.arr k es false]⟩
  have at0 : ∀ {id : Nat} {db : DB}, Y.h[id]? = some db → id = 0 ∧ db = .arr k es false := fun {id db} h => by
    cases id with
    | zero => simp only [Y, List.getElem?_cons_zero, Option.some.injEq] at h; exact ⟨rfl, h.symm⟩
    | succ n => simp [Y] at h
  have hiY : HInv Y := by
    refine ⟨hi.slt, fun id db hdb => ?_, fun id db g' hdb hl hg' => ?_, fun id db id' db' g1 g2 hdb _ _ hdb' _ _ _ _ => ?_⟩
    · obtain ⟨rfl, rfl⟩ := at0 hdb
      simpa only [RelB, Y, if_true] using hb0
    · obtain ⟨rfl, rfl⟩ := at0 hdb
      have hg2 : X.G i = some g' := by simpa [Y] using hg'
      exact hi.own i _ g' h0 rfl hg2
    · obtain ⟨rfl, _⟩ := at0 hdb
      obtain ⟨rfl, _⟩ := at0 hdb'
      rfl
  have hrY : RelDs Y (L.map (lentA 0 n)) vals := lent_rel (X := X) (Y := Y) rfl rfl (fun v hv => by
    simp only [RelD, RelC] at hv ⊢
    obtain ⟨_, hv1, hv2⟩ := hv
    refine ⟨by simp [Y], hv1, fun k' es' ro' he => ?_⟩
    obtain ⟨_, e⟩ := at0 he
    cases e
    have := hv2 _ _ _ h0
    simpa only [Y, if_true] using this) hr
  have key : ∀ v w', Ret Y (fun d h' => d = r ∧ h' = [.arr k es false]) v w' → Ret X K v w' := by
    rintro v w' ⟨d, Z, h1, h2, h3, h4, rfl, h5⟩
    have hZ0 : Z.h[0]? = some (.arr k es false) := by rw [h5]; rfl
    obtain ⟨db, e1, e2, e3, e4⟩ := h3.ids 0 _ (by simp [Y]) hZ0 rfl
    have hGZ : Z.G 0 = X.G i := by simpa [Y] using e3
    have e4 : ∀ g, X.G i = some g → SameO (X.w.heap[g.1]?) (Z.w.heap[g.1]?) := fun g hg => e4 g (by simpa [Y] using hg)
    have hfr : ∀ b, b < X.w.heap.size → (∀ g, X.G i = some g → b ≠ g.1) → Z.w.heap[b]? = X.w.heap[b]? := fun b hb hne => h3.frame b hb fun id db g' hdb hl hf hg' => by
      obtain ⟨rfl, _⟩ := at0 hdb
      have hg2 : X.G i = some g' := by simpa [Y] using hg'
      exact fun e => hne g' hg2 e.symm
    have apart : ∀ {id : Nat} {db : DB} {g' : Nat × Nat}, id ≠ i → X.h[id]? = some db → db.live = true → X.G id = some g' → ∀ g, X.G i = some g → g'.1 ≠ g.1 := fun {id db g'} hne h' hl hg' g hg e => hne (hi.inj i _ id db g g' h0 rfl rfl h' hl hg hg' e.symm).symm
    have hst : Step X ⟨Z.w, Z.S, X.G, X.h⟩ := by
      refine ⟨h3.size, h3.os, h3.tape, h3.output, h3.kept, Nat.le_refl _, fun id db' hl' hdb' hlv => ⟨db', hdb', SameB.refl hlv, rfl, fun g' hg' => ?_⟩, fun b hb hno => hfr b hb fun g hg e => hno i _ g h0 rfl rfl hg e.symm, fun id db g' hdb hl hf hg' => .inr ⟨id, db, g', hdb, hl, hf, hg', rfl⟩, fun b hb => ?_⟩
      · by_cases hne : id = i
        · subst hne
          exact e4 g' hg'
        · rw [show Z.w.heap[g'.1]? = X.w.heap[g'.1]? from hfr _ (hi.block_lt hdb' hlv hg') (apart hne hdb' hlv hg')]
          exact (hi.blk id db' hdb').same hlv g' hg'
      · rcases h3.upper b hb with h | h | ⟨id, db, g', hdb, hl, hg', e⟩
        · exact .inl h
        · exact .inr (.inl h)
        · obtain ⟨rfl, _⟩ := at0 hdb
          have hg2 : X.G i = some g' := by simpa [Y] using hg'
          exact .inr (.inr ⟨i, _, g', h0, rfl, hg2, e⟩)
    refine ⟨d, ⟨Z.w, Z.S, X.G, X.h⟩, h1, ⟨h2.slt, fun id db hdb => ?_, fun id db g' hdb hl hg' => ?_, fun id db id' db' g1 g2 hdb hl hf hdb' hl' hg1 hg2 he => hi.inj id db id' db' g1 g2 hdb hl hf hdb' hl' hg1 hg2 he⟩, hst, datD_mk hdr h4, hk⟩
    · by_cases hne : id = i
      · subst hne
        have hdb2 : X.h[id]? = some db := hdb
        rw [h0] at hdb2
        cases hdb2
        have := h2.blk 0 _ hZ0
        simp only [RelB, hGZ] at this ⊢
        exact this
      · by_cases hl : db.live = true
        · exact (hi.blk id db hdb).move hst rfl fun g' hg' => hfr _ (hi.block_lt hdb hl hg') (apart hne hdb hl hg')
        · cases db with
          | dead => simp only [RelB]
          | box _ => exact absurd rfl hl
          | arr _ _ _ => exact absurd rfl hl
          | mp _ => exact absurd rfl hl
    · by_cases hne : id = i
      · subst hne
        have hdb2 : X.h[id]? = some db := hdb
        rw [h0] at hdb2
        cases hdb2
        exact h2.own 0 _ g' hZ0 rfl (by rw [hGZ]; exact hg')
      · have ho := hi.own id db g' hdb hl hg'
        refine ⟨fun hf hS => ?_, fun hf => (h3.kept _ (ho.2 hf)).1⟩
        rcases h3.upper _ hS with h | h | ⟨j, d', g2, hdb2, hl2, hg2, e⟩
        · exact ho.1 hf h
        · have := hi.block_lt hdb hl hg'
          have hYw : Y.w.heap.size = X.w.heap.size := rfl
          omega
        · obtain ⟨rfl, _⟩ := at0 hdb2
          have hg3 : X.G i = some g2 := by simpa [Y] using hg2
          exact apart hne hdb hl hg' g2 hg3 e.symm
  have gdY : Gnd P Y := gd
  rcases hc Y _ rfl hiY gdY hrY with ⟨h1, h2⟩ | ⟨v, w', h1, h2⟩
  · exact .inl ⟨h1, h2.mono fun e w' ⟨v, he, hv⟩ => ⟨v, he, key v w' hv⟩⟩
  · exact .inr ⟨v, w', h1, key v w' h2⟩
/-- Arguments told in a weaker way. -/
theorem DCalls.wkA {P : Program} {f : FuncId} {args args' : List DV} {h : DHeap} {R : DV → DHeap → Prop} (hw : wkDs args args') (hc : DCalls P f args' h R) : DCalls P f args h R :=
  fun X vals hh hi gd hr => hc X vals hh hi gd (wkDs.rel hw hr)
end Go.Dm

end

section
/-
  The engine, ninth part: two rows of the call's own taken as data at a join. No condition.
-/

set_option linter.unusedSimpArgs false
set_option linter.unusedVariables false
namespace Go.Dm
open Go
variable {P : Program} {T : Tab} {X0 : Ctx} {Q : Exit → DS → Prop}

end Go.Dm

end

section
/-
  The engine, further: nil slices within rows of rows, taken as empty ones. No condition.
-/

set_option linter.unusedSimpArgs false
set_option linter.unusedVariables false
namespace Go.Dm
open Go
def wkQ (x y : PV) : Prop := wkP x y ∨ ∃ k es es', x = .sl k es ∧ y = .sl k es' ∧ wkRows es es'
def wkQs : List PV → List PV → Prop
  | [], [] => True
  | x :: xs, y :: ys => wkQ x y ∧ wkQs xs ys
  | _, _ => False
def wkQRows : List (List PV) → List (List PV) → Prop
  | [], [] => True
  | e :: es, f :: fs => wkQs e f ∧ wkQRows es fs
  | _, _ => False
theorem wkQs.len : ∀ {e f : List PV}, wkQs e f → f.length = e.length
  | [], [], _ => rfl
  | _ :: _, _ :: _, h => by simp [wkQs.len h.2]
  | [], _ :: _, h => h.elim
  | _ :: _, [], h => h.elim
theorem wkQRows.len : ∀ {e f : List (List PV)}, wkQRows e f → f.length = e.length
  | [], [], _ => rfl
  | _ :: _, _ :: _, h => by simp [wkQRows.len h.2]
  | [], _ :: _, h => h.elim
  | _ :: _, [], h => h.elim
theorem relP_wkRows {w : World} {S : Nat → Prop} {k : Nat} {es es' : List (List PV)} (hw : wkRows es es') {v : Value} (hr : RelP w S (.sl k es) v) : RelP w S (.sl k es') v := by
  simp only [RelP] at hr ⊢
  obtain ⟨a, c, h1, h2, h3⟩ := hr
  refine ⟨a, c, by rw [hw.len]; exact h1, by rw [hw.len]; exact h2, ?_⟩
  rcases h3 with h3 | ⟨bl, off, h4, h5, h6⟩
  · left
    subst h3
    exact List.eq_nil_of_length_eq_zero hw.len
  · exact .inr ⟨bl, off, h4, h5, hw.relL h6⟩
theorem wkQ.relP {w : World} {S : Nat → Prop} {x y : PV} {v : Value} (h : wkQ x y) (hr : RelP w S x v) : RelP w S y v := by
  rcases h with h | ⟨k, es, es', rfl, rfl, h⟩
  · exact h.relP hr
  · exact relP_wkRows h hr
theorem wkQs.relE {w : World} {S : Nat → Prop} {bl : Nat} : ∀ {e f : List PV} {off : Nat}, wkQs e f → RelE w S bl off e → RelE w S bl off f
  | [], [], _, _, _ => True.intro
  | _ :: _, _ :: _, _, h, ⟨⟨v, h1, h2⟩, h3⟩ => ⟨⟨v, h1, h.1.relP h2⟩, wkQs.relE h.2 h3⟩
  | [], _ :: _, _, h, _ => h.elim
  | _ :: _, [], _, h, _ => h.elim
theorem wkQRows.relL {w : World} {S : Nat → Prop} {k bl : Nat} : ∀ {e f : List (List PV)} {off : Nat}, wkQRows e f → RelL w S k bl off e → RelL w S k bl off f
  | [], [], _, _, _ => True.intro
  | _ :: _, _ :: _, _, h, ⟨⟨h1, h2⟩, h3⟩ => ⟨⟨h.1.len.trans h1, h.1.relE h2⟩, wkQRows.relL h.2 h3⟩
  | [], _ :: _, _, h, _ => h.elim
  | _ :: _, [], _, h, _ => h.elim
theorem relP_wkQ {w : World} {S : Nat → Prop} {k : Nat} {es es' : List (List PV)} (hw : wkQRows es es') {v : Value} (hr : RelP w S (.sl k es) v) : RelP w S (.sl k es') v := by
  simp only [RelP] at hr ⊢
  obtain ⟨a, c, h1, h2, h3⟩ := hr
  refine ⟨a, c, by rw [hw.len]; exact h1, by rw [hw.len]; exact h2, ?_⟩
  rcases h3 with h3 | ⟨bl, off, h4, h5, h6⟩
  · left
    subst h3
    exact List.eq_nil_of_length_eq_zero hw.len
  · exact .inr ⟨bl, off, h4, h5, hw.relL h6⟩
theorem DCalls.wkQ1 {P : Program} {f : FuncId} {k : Nat} {es es' : List (List PV)} {h : DHeap} {R : DV → DHeap → Prop} (hw : wkQRows es es') (hc : DCalls P f [.c (.p (.sl k es'))] h R) : DCalls P f [.c (.p (.sl k es))] h R := by
  intro X vals hh hi gd hr
  refine hc X vals hh hi gd ?_
  match vals, hr with
  | [v1], ⟨h1, _⟩ => exact ⟨relP_wkQ hw h1, True.intro⟩
theorem DCalls.wkQ2 {P : Program} {f : FuncId} {k : Nat} {es es' : List (List PV)} {x : DV} {h : DHeap} {R : DV → DHeap → Prop} (hw : wkQRows es es') (hc : DCalls P f [.c (.p (.sl k es')), x] h R) : DCalls P f [.c (.p (.sl k es)), x] h R := by
  intro X vals hh hi gd hr
  refine hc X vals hh hi gd ?_
  match vals, hr with
  | [v1, v2], ⟨h1, h2, _⟩ => exact ⟨relP_wkQ hw h1, h2, True.intro⟩
end Go.Dm

end
