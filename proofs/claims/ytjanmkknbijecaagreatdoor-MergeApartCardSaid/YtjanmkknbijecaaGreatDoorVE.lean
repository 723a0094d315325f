import Derived.Test.YtjanmkknbijecaaGreatDoorVB
import Derived.Test.YtjanmkknbijecaaGreatDoorSB

section
/-
  The engine, sixth part: a nil slice within a box taken as an empty row; a loop's round taken as a whole. No condition.
-/

set_option linter.unusedSimpArgs false
set_option linter.unusedVariables false
namespace Go.Dm
open Go
section
variable {P : Program} {T : Tab} {X0 : Ctx} {Q : Exit → DS → Prop}
theorem swp_box {c : Code} {s : DS} (id : Nat) (cs cs' : List CV) (hb : s.h[id]? = some (.box cs)) (hd : cs.all datC = true) (hw : wkCs cs cs')
    (h : SWP P X0 c ⟨s.n, s.t, s.h.set id (.box cs')⟩ Q) : SWP P X0 c s Q := by
  intro gd X a hh hi hs ht
  have h0 : X.h[id]? = some (.box cs) := by rw [hh]; exact hb
  obtain ⟨g, arr, el, fz, hg, hb1, hb2, hb3, hb4⟩ := hi.blk id _ h0
  have rf := Step.refl hi
  have st : Step X ⟨X.w, X.S, X.G, X.h.set id (.box cs')⟩ := by
    refine ⟨rf.size, rf.os, rf.tape, rf.output, rf.kept, by simp, fun i db' hl hdb hlv => ?_, rf.frame, fun i db g' hdb hl hf hg' => ?_, rf.upper⟩
    · rcases put_some hdb with ⟨rfl, rfl, _⟩ | ⟨hne, h'⟩
      · exact ⟨_, h0, True.intro, rfl, fun g' hg' => (hi.blk _ _ h0).same rfl g' hg'⟩
      · exact ⟨db', h', SameB.refl hlv, rfl, fun g' hg' => (hi.blk i db' h').same hlv g' hg'⟩
    · rcases put_some hdb with ⟨rfl, rfl, _⟩ | ⟨hne, h'⟩
      · exact .inr ⟨_, _, g', h0, rfl, rfl, hg', rfl⟩
      · exact .inr ⟨i, db, g', h', hl, hf, hg', rfl⟩
  have hi' : HInv ⟨X.w, X.S, X.G, X.h.set id (.box cs')⟩ := by
    refine ⟨hi.slt, fun i db hdb => ?_, fun i db g' hdb hl hg' => ?_, fun i db i' db' g1 g2 hdb hl hf hdb' hl' hg1 hg2 he => ?_⟩
    · rcases put_some hdb with ⟨rfl, rfl, _⟩ | ⟨hne, h'⟩
      · exact ⟨g, arr, el, fz, hg, hb1, by rw [wkCs_len hw]; exact hb2, hb3, wkBoxD (X := X) (Y := ⟨X.w, X.S, X.G, X.h.set i (.box cs')⟩) rfl rfl hd hw hb4⟩
      · exact (hi.blk i db h').move st rfl fun _ _ => rfl
    · rcases put_some hdb with ⟨rfl, rfl, _⟩ | ⟨hne, h'⟩
      · have := hi.own _ (.box cs) g' h0 rfl hg'
        exact this
      · exact hi.own i db g' h' hl hg'
    · rcases put_some hdb with ⟨rfl, rfl, _⟩ | ⟨hne, h1'⟩ <;> rcases put_some hdb' with ⟨rfl, rfl, _⟩ | ⟨hne', h2'⟩
      · rfl
      · exact hi.inj i _ i' db' g1 g2 h0 rfl rfl h2' hl' hg1 hg2 he
      · exact hi.inj i db i' _ g1 g2 h1' hl hf h0 rfl hg1 hg2 he
      · exact hi.inj i db i' db' g1 g2 h1' hl hf h2' hl' hg1 hg2 he
  exact h gd ⟨X.w, X.S, X.G, X.h.set id (.box cs')⟩ a (by simp only [hh]) hi' (hs.trans hi st) ⟨ht.size, fun j => (ht.rel j).step st, ht.defs⟩
theorem swp_blockq {id : Nat} {c : Code} {s : DS} (h : SWP P X0 c s (qblock id Q)) : SWP P X0 (.block id c) s Q :=
  swp_block (swp_mono h fun e s' hq => by cases e <;> simp only [qblock] at hq ⊢ <;> exact hq)
theorem swp_vc (hT : TabOK P T) (hm : P.follows .mixedOrders = true) {c : Code} {s : DS} (h : vc P T X0 c s Q) : SWP P X0 c s Q := vc_sound hT hm c h
theorem swp_seq_block {id : Nat} {c y : Code} {s : DS} (h : SWP P X0 c s (qblock id (qrest P X0 y Q))) : SWP P X0 (.seq (.block id c) y) s Q :=
  swp_seq (swp_mono (swp_blockq h) fun e s' hq => by cases e <;> simp only [qrest] at hq ⊢ <;> exact hq)
/-- A loop by an invariant, its round taken as a whole. -/
theorem loop_renS {α : Type} {c : Code} (I : α → DS) (J : α → Prop) (μ : α → Nat) (x0 : α) {s : DS} (hJ : J x0) (hw : WeakR X0.h.length s (I x0))
    (h : ∀ x, J x → SWP P X0 c (I x) (qloopR X0.h.length I J μ x Q)) : SWP P X0 (.loop c) s Q := by
  intro gd X a hh hi hs ht
  obtain ⟨X', h1, h2, h3, h4, h5⟩ := hw.use rfl hh hi hs ht
  rw [← h1]
  refine wp_loop_ghost (fun n a w => ∃ x X, μ x = n ∧ J x ∧ X.w = w ∧ X.h = (I x).h ∧ HInv X ∧ Step X0 X ∧ TInv X (I x) a) (μ x0) ⟨x0, X', rfl, hJ, rfl, h2, h3, h4, h5⟩ ?_
  rintro n a' w' ⟨x, Y, rfl, k1, rfl, k2, k3, k4, k5⟩
  refine wp_mono (h x k1 gd Y a' k2 k3 k4 k5) fun e a w hp => ?_
  obtain ⟨s', Z, p1, rfl, p3, p4, p5, p6⟩ := hp
  cases e <;> simp only [Exit.then, qloopR] at p1 ⊢
  case normal =>
    obtain ⟨y, q1, q2, q3⟩ := p1
    obtain ⟨Z', r1, r2, r3, r4, r5⟩ := q3.use rfl p3 p4 p5 p6
    exact ⟨μ y, q2, y, Z', rfl, q1, r1, r2, r3, r4, r5⟩
  all_goals exact ⟨s', Z, p1, rfl, p3, p4, p5, p6⟩
end
theorem bytesOf_nil : bytesOf [] = some [] := rfl
attribute [go_sem] bytesOf_nil
end Go.Dm

end

section
/-
  The engine, seventh part: a region whose order is drawn, with one change of memory that may come at any moment among the others. No condition.
-/

set_option linter.unusedSimpArgs false
set_option linter.unusedVariables false
namespace Go.Dm
open Go
section
variable {P : Program} {T : Tab} {X0 : Ctx}
/-- What an operation at a place of the plan does, whether the free change has been or not. -/
def GoodF (P : Program) (T : Tab) (ops : Array Oper) (n : Nat) (chain : List Nat) (f : Nat) (V : Nat → DV) (H : Nat → Bool → DHeap) (t : Fr) (c i : Nat) : Prop :=
  ∃ o, ops[i]? = some o ∧ (chain.contains i = true → ∀ b : Bool, (b = false → waitsT ops 6 i f = false) → (b = true → waitsT ops 6 f i = false) → One P T ops n o t (H c b) (V i) (H (c + 1) b)) ∧
    (chain.contains i = false → i = f → ∀ s, loOf ops chain i ≤ s → s ≤ c → One P T ops n o t (H s false) (V i) (H s true)) ∧
    (chain.contains i = false → i ≠ f → ∀ s (b : Bool), loOf ops chain i ≤ s → s ≤ c → (b = false → waitsT ops 6 i f = false) → (b = true → waitsT ops 6 f i = false) → One P T ops n o t (H s b) (V i) (H s b))
structure RInvF (P : Program) (X0 : Ctx) (ops : Array Oper) (n : Nat) (chain : List Nat) (f : Nat) (V : Nat → DV) (H : Nat → Bool → DHeap) (t0 : Fr) (L : Array Bool) (X : Ctx) (a : Act) : Prop where
  size : L.size = ops.size
  closed : Closed ops L
  hh : X.h = H (chain.filter fun e => L.getD e false).length (L.getD f false)
  hi : HInv X
  hs : Step X0 X
  sz : a.tmps.size = n
  defs : a.defers = []
  relA : ∀ k j, L.getD k false = true → dstOf ops k = some j → RelD X (V k) (a.tmps.getD j undef)
  relB : ∀ j, (∀ k, L.getD k false = true → dstOf ops k ≠ some j) → RelD X (look t0 j) (a.tmps.getD j undef)
section plan
variable {ops : Array Oper} {n : Nat} {chain order : List Nat}

end plan
/-- All of a plan, one operation behind the other. -/
def runF (P : Program) (T : Tab) (ops : Array Oper) (n : Nat) (chain : List Nat) (f : Nat) (V : Nat → DV) (H : Nat → Bool → DHeap) : List Nat → Fr → Nat → Prop
  | [], _, _ => True
  | i :: rest, t, c => GoodF P T ops n chain f V H t c i ∧ runF P T ops n chain f V H rest (putF t (dstOf ops i) (V i)) (c + if chain.contains i then 1 else 0)
end
end Go.Dm

end

section
/-
  The engine, eighth part: two results as they stand; a row that a caller lends and keeps. No condition.
-/

set_option linter.unusedSimpArgs false
set_option linter.unusedVariables false
namespace Go.Dm
open Go

/-- A function's end, two results as they stand in the call's memory. -/
def v2 (h : DHeap) (R : DV → DHeap → Prop) : DV → DV → Prop
  | .c x, .c y => R (.tup [.c x, .c y]) h
  | _, _ => False
def vres2 (t : Fr) (h : DHeap) (R : DV → DHeap → Prop) : List ResultVar → Prop
  | [.tmp i, .tmp j] => v2 h R (look t i) (look t j)
  | _ => False
def vpost2 (rs : List ResultVar) (R : DV → DHeap → Prop) : Exit → DS → Prop
  | .normal, s => vres2 s.t s.h R rs
  | .ret, s => vres2 s.t s.h R rs
  | _, _ => False
theorem vpost2_n {rs : List ResultVar} {R : DV → DHeap → Prop} {s : DS} : vpost2 rs R .normal s = vres2 s.t s.h R rs := nr rfl
theorem vpost2_r {rs : List ResultVar} {R : DV → DHeap → Prop} {s : DS} : vpost2 rs R .ret s = vres2 s.t s.h R rs := nr rfl
theorem vres2_two {t : Fr} {h : DHeap} {R : DV → DHeap → Prop} {i j : Nat} : vres2 t h R [.tmp i, .tmp j] = v2 h R (look t i) (look t j) := nr rfl
theorem v2_c {h : DHeap} {R : DV → DHeap → Prop} {x y : CV} : v2 h R (.c x) (.c y) = R (.tup [.c x, .c y]) h := nr rfl
attribute [go_sem] vpost2_n vpost2_r vres2_two v2_c
/-- A contract over one row of the caller's, which stays as it is, used in any memory. -/
def lentA (i n : Nat) : Option PV → DV
  | some x => .c (.p x)
  | none => .c (.own i 0 n)
theorem lent_rel {X Y : Ctx} {i n : Nat} (hw : Y.w = X.w) (hS : Y.S = X.S) (ho : ∀ v, RelD X (.c (.own i 0 n)) v → RelD Y (.c (.own 0 0 n)) v) : ∀ {L : List (Option PV)} {vs : List Value}, RelDs X (L.map (lentA i n)) vs → RelDs Y (L.map (lentA 0 n)) vs
  | [], [], _ => True.intro
  | none :: _, _ :: _, h => ⟨ho _ h.1, lent_rel hw hS ho h.2⟩
  | some _ :: _, _ :: _, h => ⟨datD_rel (X := X) (Y := Y) hw hS rfl h.1, lent_rel hw hS ho h.2⟩
  | [], _ :: _, h => h.elim
  | none :: _, [], h => h.elim
  | some _ :: _, [], h => h.elim
theorem DCalls.lent {P : Program} {f : FuncId} {h : DHeap} {i k n : Nat} {es : List (List PV)} (L : List (Option PV)) {r : DV} {K : DV → DHeap → Prop}
    (hc : DCalls P f (L.map (lentA 0 n)) [.arr k es false] fun d h' => d = r ∧ h' = [.arr k es false])
    (h0 : h[i]? = some (.arr k es false)) (hdr : datD r = true) (hk : K r h) :
    DCalls P f (L.map (lentA i n)) h K := by
  intro X vals hh hi gd hr
  subst hh
  have hlt := lt_of_some h0
  have hb0 := hi.blk i _ h0
  let Y : Ctx := ⟨X.w, X.S, fun j => if j = 0 then X.G i else none, [.arr k es false]⟩
  have at0 : ∀ {id : Nat} {db : DB}, Y.h[id]? = some db → id = 0 ∧ db = .arr k es false := fun {id db} h => by
    cases id with
    | zero => simp only [Y, List.getElem?_cons_zero, Option.some.injEq] at h; exact ⟨rfl, h.symm⟩
    | succ n => simp [Y] at h
  have hiY : HInv Y := by
    refine ⟨hi.slt, fun id db hdb => ?_, fun id db g' hdb hl hg' => ?_, fun id db id' db' g1 g2 hdb _ _ hdb' _ _ _ _ => ?_⟩
    · obtain ⟨rfl, rfl⟩ := at0 hdb
      simpa only [RelB, Y, if_true] using hb0
    · obtain ⟨rfl, rfl⟩ := at0 hdb
      have hg2 : X.G i = some g' := by simpa [Y] using hg'
      exact hi.own i _ g' h0 rfl hg2
    · obtain ⟨rfl, _⟩ := at0 hdb
      obtain ⟨rfl, _⟩ := at0 hdb'
      rfl
  have hrY : RelDs Y (L.map (lentA 0 n)) vals := lent_rel (X := X) (Y := Y) rfl rfl (fun v hv => by
    simp only [RelD, RelC] at hv ⊢
    obtain ⟨_, hv1, hv2⟩ := hv
    refine ⟨by simp [Y], hv1, fun k' es' ro' he => ?_⟩
    obtain ⟨_, e⟩ := at0 he
    cases e
    have := hv2 _ _ _ h0
    simpa only [Y, if_true] using this) hr
  have key : ∀ v w', Ret Y (fun d h' => d = r ∧ h' = [.arr k es false]) v w' → Ret X K v w' := by
    rintro v w' ⟨d, Z, h1, h2, h3, h4, rfl, h5⟩
    have hZ0 : Z.h[0]? = some (.arr k es false) := by rw [h5]; rfl
    obtain ⟨db, e1, e2, e3, e4⟩ := h3.ids 0 _ (by simp [Y]) hZ0 rfl
    have hGZ : Z.G 0 = X.G i := by simpa [Y] using e3
    have e4 : ∀ g, X.G i = some g → SameO (X.w.heap[g.1]?) (Z.w.heap[g.1]?) := fun g hg => e4 g (by simpa [Y] using hg)
    have hfr : ∀ b, b < X.w.heap.size → (∀ g, X.G i = some g → b ≠ g.1) → Z.w.heap[b]? = X.w.heap[b]? := fun b hb hne => h3.frame b hb fun id db g' hdb hl hf hg' => by
      obtain ⟨rfl, _⟩ := at0 hdb
      have hg2 : X.G i = some g' := by simpa [Y] using hg'
      exact fun e => hne g' hg2 e.symm
    have apart : ∀ {id : Nat} {db : DB} {g' : Nat × Nat}, id ≠ i → X.h[id]? = some db → db.live = true → X.G id = some g' → ∀ g, X.G i = some g → g'.1 ≠ g.1 := fun {id db g'} hne h' hl hg' g hg e => hne (hi.inj i _ id db g g' h0 rfl rfl h' hl hg hg' e.symm).symm
    have hst : Step X ⟨Z.w, Z.S, X.G, X.h⟩ := by
      refine ⟨h3.size, h3.os, h3.tape, h3.output, h3.kept, Nat.le_refl _, fun id db' hl' hdb' hlv => ⟨db', hdb', SameB.refl hlv, rfl, fun g' hg' => ?_⟩, fun b hb hno => hfr b hb fun g hg e => hno i _ g h0 rfl rfl hg e.symm, fun id db g' hdb hl hf hg' => .inr ⟨id, db, g', hdb, hl, hf, hg', rfl⟩, fun b hb => ?_⟩
      · by_cases hne : id = i
        · subst hne
          exact e4 g' hg'
        · rw [show Z.w.heap[g'.1]? = X.w.heap[g'.1]? from hfr _ (hi.block_lt hdb' hlv hg') (apart hne hdb' hlv hg')]
          exact (hi.blk id db' hdb').same hlv g' hg'
      · rcases h3.upper b hb with h | h | ⟨id, db, g', hdb, hl, hg', e⟩
        · exact .inl h
        · exact .inr (.inl h)
        · obtain ⟨rfl, _⟩ := at0 hdb
          have hg2 : X.G i = some g' := by simpa [Y] using hg'
          exact .inr (.inr ⟨i, _, g', h0, rfl, hg2, e⟩)
    refine ⟨d, ⟨Z.w, Z.S, X.G, X.h⟩, h1, ⟨h2.slt, fun id db hdb => ?_, fun id db g' hdb hl hg' => ?_, fun id db id' db' g1 g2 hdb hl hf hdb' hl' hg1 hg2 he => hi.inj id db id' db' g1 g2 hdb hl hf hdb' hl' hg1 hg2 he⟩, hst, datD_mk hdr h4, hk⟩
    · by_cases hne : id = i
      · subst hne
        have hdb2 : X.h[id]? = some db := hdb
        rw [h0] at hdb2
        cases hdb2
        have := h2.blk 0 _ hZ0
        simp only [RelB, hGZ] at this ⊢
        exact this
      · by_cases hl : db.live = true
        · exact (hi.blk id db hdb).move hst rfl fun g' hg' => hfr _ (hi.block_lt hdb hl hg') (apart hne hdb hl hg')
        · cases db with
          | dead => simp only [RelB]
          | box _ => exact absurd rfl hl
          | arr _ _ _ => exact absurd rfl hl
    · by_cases hne : id = i
      · subst hne
        have hdb2 : X.h[id]? = some db := hdb
        rw [h0] at hdb2
        cases hdb2
        exact h2.own 0 _ g' hZ0 rfl (by rw [hGZ]; exact hg')
      · have ho := hi.own id db g' hdb hl hg'
        refine ⟨fun hf hS => ?_, fun hf => (h3.kept _ (ho.2 hf)).1⟩
        rcases h3.upper _ hS with h | h | ⟨j, d', g2, hdb2, hl2, hg2, e⟩
        · exact ho.1 hf h
        · have := hi.block_lt hdb hl hg'
          have hYw : Y.w.heap.size = X.w.heap.size := rfl
          omega
        · obtain ⟨rfl, _⟩ := at0 hdb2
          have hg3 : X.G i = some g2 := by simpa [Y] using hg2
          exact apart hne hdb hl hg' g2 hg3 e.symm
  have gdY : Gnd P Y := gd
  rcases hc Y _ rfl hiY gdY hrY with ⟨h1, h2⟩ | ⟨v, w', h1, h2⟩
  · exact .inl ⟨h1, h2.mono fun e w' ⟨v, he, hv⟩ => ⟨v, he, key v w' hv⟩⟩
  · exact .inr ⟨v, w', h1, key v w' h2⟩
end Go.Dm

end

section
/-
  The engine, ninth part: two rows of the call's own taken as data at a join. No condition.
-/

set_option linter.unusedSimpArgs false
set_option linter.unusedVariables false
namespace Go.Dm
open Go
variable {P : Program} {T : Tab} {X0 : Ctx} {Q : Exit → DS → Prop}

theorem qj_data2 {α : Type} {I : α → DS} {J : α → Prop} {s : DS} (y : α) (i id off len i2 id2 off2 len2 : Nat) {x x2 : PV} (h1 : J y) (hl : look s.t i = .c (.own id off len)) (hp : pvOf s.h (.own id off len) = some x)
    (hl2 : look ((i, .c (.p x)) :: s.t) i2 = .c (.own id2 off2 len2)) (hp2 : pvOf (frzs s.h [id]) (.own id2 off2 len2) = some x2)
    (h3 : Weak X0.h.length ⟨s.n, (i2, .c (.p x2)) :: (i, .c (.p x)) :: s.t, frzs (frzs s.h [id]) [id2]⟩ (I y)) : qjoin P X0 I J Q .normal s :=
  ⟨y, h1, fun _ _ h => swp_data i id off len hl hp (swp_data i2 id2 off2 len2 hl2 hp2 (swp_weak h3 h))⟩
/-- A row renamed, in the midst of code. -/
theorem swp_ren {c : Code} {s : DS} (p q : Nat) {kb : Nat} {eb : List (List PV)} (hc : (!(Nat.beq p q) && Nat.ble X0.h.length p && Nat.ble X0.h.length q && Nat.blt p s.h.length) = true)
    (hb : s.h[q]? = some (.arr kb eb false)) (h : SWP P X0 c (s.ren p q) Q) : SWP P X0 c s Q := by
  simp only [Bool.and_eq_true, Bool.not_eq_true'] at hc
  have hab : p ≠ q := fun e => by
    have := hc.1.1.1
    subst e
    rw [Nat.beq_refl] at this
    cases this
  have h0 := Nat.le_of_ble_eq_true hc.1.1.2
  have h1 := Nat.le_of_ble_eq_true hc.1.2
  have hp := Nat.blt_eq.mp hc.2
  intro gd X a hh hi hs ht
  rw [← hh] at hb hp
  refine h gd (X.ren p q) a (by simp only [Ctx.ren, DS.ren, hh]) (hi.ren hab hb hp) (hs.ren hab (by omega) (by omega)) ⟨ht.size, fun i => ?_, ht.defs⟩
  simp only [DS.ren]
  rw [look_ren]
  exact (ht.rel i).ren hab hb hp
end Go.Dm

end

section
/-
  Regions whose order is drawn, with longer chains of waiting: the plan looks nine steps far. No condition: as in the engine.
-/

set_option linter.unusedSimpArgs false
set_option linter.unusedVariables false
namespace Go.Dm.W9
open Go Go.Dm
section
variable {P : Program} {T : Tab} {X0 : Ctx}
def chainOK (ops : Array Oper) : List Nat → Bool
  | [] => true
  | e :: es => es.all (fun e' => waitsT ops 9 e' e) && chainOK ops es
def atOK (ops : Array Oper) (chain : List Nat) (i : Nat) (pre post : List Nat) : Bool :=
  (predsOf ops i).all pre.contains &&
  (post.all fun e => !chain.contains e || waitsT ops 9 e i) &&
  (match ops[i]? with
   | some o => (o.looksAt ops).all fun j => (pre.all fun k => !(dstOf ops k == some j) || waitsT ops 9 i k) && (post.all fun k => !(dstOf ops k == some j) || waitsT ops 9 k i)
   | none => false) &&
  (match dstOf ops i with
   | some j => post.all fun k => !(dstOf ops k == some j)
   | none => true) &&
  !post.contains i
def allOK (ops : Array Oper) (chain : List Nat) : List Nat → List Nat → Bool
  | _, [] => true
  | pre, i :: post => atOK ops chain i pre post && allOK ops chain (pre ++ [i]) post
def planOK (ops : Array Oper) (n : Nat) (chain order : List Nat) : Bool :=
  decide (order.length ≤ ops.size) && ((List.range ops.size).all fun i => order.contains i && match dstOf ops i with | some x => decide (x < n) | none => true) && (order.filter chain.contains == chain) && chainOK ops chain && allOK ops chain [] order

theorem allOK_at {ops : Array Oper} {chain : List Nat} : ∀ (l pre0 : List Nat), allOK ops chain pre0 l = true → ∀ pre i post, l = pre ++ i :: post → atOK ops chain i (pre0 ++ pre) post = true
  | [], _, _, pre, i, post, e => by simp at e
  | x :: l, pre0, h, pre, i, post, e => by
    simp only [allOK, Bool.and_eq_true] at h
    cases pre with
    | nil =>
      simp only [List.nil_append, List.cons.injEq] at e
      obtain ⟨rfl, rfl⟩ := e
      simpa using h.1
    | cons y pre =>
      simp only [List.cons_append, List.cons.injEq] at e
      obtain ⟨rfl, e⟩ := e
      have := allOK_at l (pre0 ++ [x]) h.2 pre i post e
      simpa using this


structure PlanAt (ops : Array Oper) (n : Nat) (chain order : List Nat) : Prop where
  all : ∀ i o, ops[i]? = some o → i ∈ order
  dlt : ∀ i x, dstOf ops i = some x → x < n
  chn : order.filter chain.contains = chain
  prs : ∀ A e B, chain = A ++ e :: B → ∀ k ∈ A, waitsT ops 9 e k = true
  len : order.length ≤ ops.size
  at_ : ∀ pre i post, order = pre ++ i :: post → atOK ops chain i pre post = true

theorem chainOK_at {ops : Array Oper} : ∀ (l : List Nat), chainOK ops l = true → ∀ A e B, l = A ++ e :: B → ∀ k ∈ A, waitsT ops 9 e k = true
  | [], _, A, e, B, h, _, _ => by simp at h
  | x :: l, hc, A, e, B, h, k, hk => by
    simp only [chainOK, Bool.and_eq_true, List.all_eq_true] at hc
    cases A with
    | nil => cases hk
    | cons y A =>
      simp only [List.cons_append, List.cons.injEq] at h
      obtain ⟨rfl, rfl⟩ := h
      rcases List.mem_cons.1 hk with rfl | hk
      · exact hc.1 e (by simp)
      · exact chainOK_at _ hc.2 A e B rfl k hk

theorem planOK_at {ops : Array Oper} {n : Nat} {chain order : List Nat} (h : planOK ops n chain order = true) : PlanAt ops n chain order := by
  simp only [planOK, Bool.and_eq_true, List.all_eq_true, List.mem_range, beq_iff_eq, decide_eq_true_eq] at h
  obtain ⟨⟨⟨⟨h0, h1⟩, h2⟩, h3⟩, h4⟩ := h
  refine ⟨fun i o hi => ?_, fun i x hx => ?_, h2, chainOK_at _ h3, h0, fun pre i post e => by simpa using allOK_at order [] h4 pre i post e⟩
  · have := (h1 i (Array.getElem?_eq_some_iff.1 hi).1).1
    simpa using this
  · have hi : i < ops.size := by
      rcases Nat.lt_or_ge i ops.size with h | h
      · exact h
      · simp [dstOf, Array.getElem?_eq_none h] at hx
    have := (h1 i hi).2
    rw [hx] at this
    simpa using this

section plan
variable {ops : Array Oper} {n : Nat} {chain order : List Nat}

theorem PlanAt.uniq (hp : PlanAt ops n chain order) {k k' : Nat} {j : Tmp} (hk : k ∈ order) (hk' : k' ∈ order) (h : dstOf ops k = some j) (h' : dstOf ops k' = some j) : k' = k := by
  obtain ⟨pre, post, e⟩ := List.append_of_mem hk
  rw [e] at hk'
  have key : ∀ x y p q, order = p ++ x :: q → dstOf ops x = some j → y ∈ q → dstOf ops y = some j → False := by
    intro x y p q e hx hy hy'
    have := hp.at_ p x q e
    simp only [atOK, Bool.and_eq_true, hx, List.all_eq_true, Bool.not_eq_true', beq_eq_false_iff_ne] at this
    exact this.1.2 y hy hy'
  rcases List.mem_append.1 hk' with hk' | hk'
  · obtain ⟨p2, q2, e2⟩ := List.append_of_mem hk'
    exact (key k' k p2 (q2 ++ k :: post) (by rw [e, e2]; simp) h' (by simp) h).elim
  · rcases List.mem_cons.1 hk' with rfl | hk'
    · rfl
    · exact (key k k' pre post e h hk' h').elim

theorem PlanAt.nodup (hp : PlanAt ops n chain order) : order.Nodup := by
  suffices h : ∀ (l pre : List Nat), order = pre ++ l → l.Nodup from h order [] rfl
  intro l
  induction l with
  | nil => intro _ _; exact List.nodup_nil
  | cons i l ih =>
    intro pre e
    refine List.nodup_cons.2 ⟨fun hi => ?_, ih (pre ++ [i]) (by simpa using e)⟩
    have := hp.at_ pre i l e
    simp only [atOK, Bool.and_eq_true, Bool.not_eq_true'] at this
    have h2 := this.2
    simp at h2
    exact h2 hi

theorem put_get {a : Act} {o : Option Tmp} {v : Value} {j : Nat} (h : o ≠ some j) : (a.put o v).tmps.getD j undef = a.tmps.getD j undef := by
  cases o with
  | none => rfl
  | some i =>
    have hij : i ≠ j := fun e => h (by rw [e])
    simp only [Act.put]
    rw [Array.getD_eq_getD_getElem?, Array.getElem?_setIfInBounds_ne hij, ← Array.getD_eq_getD_getElem?]
theorem put_self {a : Act} {v : Value} {j : Nat} (h : j < a.tmps.size) : (a.put (some j) v).tmps.getD j undef = v := by
  simp only [Act.put]
  rw [Array.getD_eq_getD_getElem?, Array.getElem?_setIfInBounds_self_of_lt h]; rfl
theorem put_size {a : Act} {o : Option Tmp} {v : Value} : (a.put o v).tmps.size = a.tmps.size := by cases o <;> simp [Act.put]
theorem put_defs {a : Act} {o : Option Tmp} {v : Value} : (a.put o v).defers = a.defers := by cases o <;> rfl

theorem drawn_step (hT : TabOK P T) (gd : Gnd P X0) (hp : PlanAt ops n chain order) {V : Nat → DV} {H : Nat → DHeap} {t0 : Fr} (hG : ∀ pre i post, order = pre ++ i :: post → Good P T ops n chain V H (frameOf ops V t0 pre) (cnt chain pre) i)
    {L : Array Bool} {X : Ctx} {a : Act} {Q : Exit → Act → World → Prop} (hR : RInv P X0 ops n chain V H t0 L X a) {i : Nat} (hi : i ∈ Region.ready .any ops L) {next : Act → World → Prop}
    (hn : ∀ X' a', RInv P X0 ops n chain V H t0 (L.setIfInBounds i true) X' a' → next a' X'.w) : wpOp P ops Q i next a X.w := by
  obtain ⟨hiL, ⟨o, ho⟩, hpr⟩ := ready_of hi
  have hiL' : L.getD i false = false := getD_both hiL
  have hilt : i < L.size := by rw [hR.size]; exact (Array.getElem?_eq_some_iff.1 ho).1
  obtain ⟨pre, post, e⟩ := List.append_of_mem (hp.all i o ho)
  have hat := hp.at_ pre i post e
  simp only [atOK, ho, Bool.and_eq_true, List.all_eq_true, Bool.or_eq_true, Bool.not_eq_true'] at hat
  obtain ⟨⟨⟨⟨_, hlater⟩, hlook⟩, _⟩, hnp⟩ := hat
  have hdst : dstOf ops i = o.dst := by simp [dstOf, ho]
  have hinpost : i ∉ post := by simpa using hnp
  have waiting : ∀ k, L.getD k false = true → waitsT ops 9 k i = false := fun k hk => by
    cases hw : waitsT ops 9 k i with
    | false => rfl
    | true =>
      have := waits_in hR.closed 9 k i (hR.closed k hk) hw
      rw [hiL'] at this; cases this
  have waited : ∀ k, waitsT ops 9 i k = true → L.getD k false = true := fun k hk => waits_in hR.closed 9 i k hpr hk
  have waited6 : ∀ k, waitsT ops 6 i k = true → L.getD k false = true := fun k hk => waits_in hR.closed 6 i k hpr hk
  have hch : chain = pre.filter chain.contains ++ ((i :: post).filter chain.contains) := by
    conv => lhs; rw [← hp.chn, e, List.filter_append]
  have hpostL : ∀ k ∈ post.filter chain.contains, L.getD k false = false := fun k hk => by
    obtain ⟨h1, h2⟩ := List.mem_filter.1 hk
    cases hl : L.getD k false with
    | false => rfl
    | true =>
      rcases hlater k h1 with h | h
      · rw [h2] at h; cases h
      · rw [waiting k hl] at h; cases h
  obtain ⟨o', ho', good⟩ := hG pre i post e
  rw [ho] at ho'; cases ho'
  -- the frame as the operation sees it
  have tin : ∀ h, X.h = h → TInv X ⟨n, keep (o.looksAt ops) (frameOf ops V t0 pre), h⟩ a := by
    intro h _
    refine ⟨hR.sz, fun j => ?_, hR.defs⟩
    simp only [look_keep]
    split
    · rename_i hj
      have hj' : j ∈ o.looksAt ops := by simpa using hj
      obtain ⟨l1, l2⟩ := hlook j hj'
      by_cases hk : ∃ k ∈ pre, dstOf ops k = some j
      · obtain ⟨k, hkp, hkd⟩ := hk
        have hkL : L.getD k false = true := by
          rcases l1 k hkp with h | h
          · rw [hkd] at h; simp at h
          · exact waited k h
        rw [frameOf_hit hkd pre t0 hkp fun k' hk' hd' => hp.uniq (e ▸ List.mem_append_left _ hkp) (e ▸ List.mem_append_left _ hk') hkd hd']
        exact hR.relA k j hkL hkd
      · rw [frameOf_miss pre t0 fun k hkp hkd => hk ⟨k, hkp, hkd⟩]
        refine hR.relB j fun k hkL hkd => ?_
        have hko : k ∈ order := by
          unfold dstOf at hkd
          cases hok : ops[k]? with
          | none => rw [hok] at hkd; cases hkd
          | some ok => exact hp.all k ok hok
        rw [e] at hko
        rcases List.mem_append.1 hko with h | h
        · exact hk ⟨k, h, hkd⟩
        · rcases List.mem_cons.1 h with rfl | h
          · rw [hiL'] at hkL; cases hkL
          · rcases l2 k h with h' | h'
            · rw [hkd] at h'; simp at h'
            · rw [waiting k hkL] at h'; cases h'
    · exact True.intro
  -- one operation done
  have fin : ∀ h', One P T ops n o (frameOf ops V t0 pre) X.h (V i) h' → h' = H (chain.filter fun k => (L.setIfInBounds i true).getD k false).length → wpOp P ops Q i next a X.w := by
    intro h' hone hh'
    have := step_sound (Q := Q) (next := next) hT (s := ⟨n, keep (o.looksAt ops) (frameOf ops V t0 pre), X.h⟩) rfl hR.hi (gd.step hR.hs) (tin _ rfl) hone ?_
    · unfold wpOp
      simp only [ho]
      split
      · rename_i hw; rw [if_pos hw] at this; exact .inl this
      · rename_i hw; rw [if_neg hw] at this; exact this
    · intro d v X' hk hi' hs' hr
      obtain ⟨k1, k2⟩ := hk
      have k1' : X'.h = h' := by rw [← k1]; unfold DS.put; split <;> (try split) <;> rfl
      refine hn X' _ ⟨by simp [hR.size], fun x hx k hk => ?_, by rw [k1', hh'], hi', hR.hs.trans hR.hi hs', by rw [put_size]; exact hR.sz, by rw [put_defs]; exact hR.defs, fun k j hk hkd => ?_, fun j hj => ?_⟩
      · rcases getD_set_cases hx with rfl | hx
        · exact getD_set_true (hpr k hk)
        · exact getD_set_true (hR.closed x hx k hk)
      · rcases getD_set_cases hk with rfl | hk
        · rw [hdst] at hkd
          have hjn : j < n := hp.dlt k j (by rw [hdst]; exact hkd)
          simp only [hkd, DS.put, if_pos hjn, res, look, if_true] at k2
          rw [hkd, put_self (by rw [hR.sz]; exact hjn), ← k2]
          exact hr
        · rw [put_get]
          · exact (hR.relA k j hk hkd).step hs'
          · intro hd
            have : k = i := hp.uniq (hp.all i o ho) (by
              unfold dstOf at hkd
              cases hok : ops[k]? with
              | none => rw [hok] at hkd; cases hkd
              | some ok => exact hp.all k ok hok) (hdst.trans hd) hkd
            rw [this, hiL'] at hk; cases hk
      · rw [put_get]
        · exact (hR.relB j fun k hk => hj k (getD_set_true hk)).step hs'
        · rw [← hdst]; exact hj i (getD_set_self hilt false)
  have hAL : ((pre.filter chain.contains).filter fun k => L.getD k false).length = (chain.filter fun k => L.getD k false).length := by
    conv => rhs; rw [hch]
    rw [List.filter_append, List.length_append]
    have : ((i :: post).filter chain.contains).filter (fun k => L.getD k false) = [] := by
      rw [List.filter_eq_nil_iff]
      intro k hk
      obtain ⟨h1, h2⟩ := List.mem_filter.1 hk
      rcases List.mem_cons.1 h1 with rfl | h1
      · rw [hiL']; simp
      · rw [hpostL k (List.mem_filter.2 ⟨h1, h2⟩)]; simp
    rw [this]; rfl
  by_cases hc : chain.contains i = true
  · rw [if_pos hc] at good
    have hch' : chain = pre.filter chain.contains ++ i :: post.filter chain.contains := by
      conv => lhs; rw [hch, List.filter_cons, if_pos hc]
    have hA : ∀ k ∈ pre.filter chain.contains, L.getD k false = true := fun k hk => waited k (hp.prs _ _ _ hch' k hk)
    have hcn : cnt chain pre = (chain.filter fun k => L.getD k false).length := by
      rw [← hAL, List.filter_eq_self.2 hA]; rfl
    rw [hcn, ← hR.hh] at good
    refine fin _ good ?_
    congr 1
    rw [← hcn]
    conv => rhs; rw [hch', List.filter_append, List.filter_cons, if_pos (getD_set_self hilt false)]
    have h1 : (pre.filter chain.contains).filter (fun k => (L.setIfInBounds i true).getD k false) = pre.filter chain.contains := List.filter_eq_self.2 fun k hk => getD_set_true (hA k hk)
    have h2 : (post.filter chain.contains).filter (fun k => (L.setIfInBounds i true).getD k false) = [] := by
      rw [List.filter_eq_nil_iff]
      intro k hk
      have hki : i ≠ k := fun e => hinpost (e ▸ (List.mem_filter.1 hk).1)
      rw [getD_set_ne false hki, hpostL k hk]; simp
    rw [h1, h2]
    simp [cnt]
  · rw [if_neg hc] at good
    have hone := good (chain.filter fun k => L.getD k false).length (filter_len_le _ _ _ fun k _ hk => waited6 k hk) (by rw [← hAL]; exact List.length_filter_le _ _)
    rw [← hR.hh] at hone
    refine fin _ hone ?_
    rw [hR.hh]
    congr 1
    refine filter_len_eq _ _ _ fun k hk => ?_
    have hki : i ≠ k := by rintro rfl; exact hc (by simpa using hk)
    rw [getD_set_ne false hki]

theorem drawn_all (hT : TabOK P T) (gd : Gnd P X0) (hp : PlanAt ops n chain order) {V : Nat → DV} {H : Nat → DHeap} {t0 : Fr} (hG : ∀ pre i post, order = pre ++ i :: post → Good P T ops n chain V H (frameOf ops V t0 pre) (cnt chain pre) i)
    {Q : Exit → DS → Prop} (hK : Q .normal ⟨n, frameOf ops V t0 order, H (cnt chain order)⟩) : ∀ (fuel : Nat) (L : Array Bool) (X : Ctx) (a : Act), RInv P X0 ops n chain V H t0 L X a →
      (order.filter fun k => !L.getD k true).length ≤ fuel → wpAny P .any ops (Post X0 Q) fuel L a X.w := by
  have done : ∀ (L : Array Bool) (X : Ctx) (a : Act), RInv P X0 ops n chain V H t0 L X a → Region.ready .any ops L = [] → Post X0 Q .normal a X.w := by
    intro L X a hR hr
    have hall : ∀ (post pre : List Nat), order = pre ++ post → (∀ k ∈ pre, L.getD k false = true) → ∀ k ∈ order, L.getD k false = true := by
      intro post
      induction post with
      | nil => intro pre e h k hk; rw [e, List.append_nil] at hk; exact h k hk
      | cons i post ih =>
        intro pre e h
        refine ih (pre ++ [i]) (by simpa using e) fun k hk => ?_
        rcases List.mem_append.1 hk with hk | hk
        · exact h k hk
        · rw [List.mem_singleton] at hk
          subst hk
          have hat := hp.at_ pre k post e
          simp only [atOK, Bool.and_eq_true, List.all_eq_true] at hat
          cases hl : L.getD k false with
          | true => rfl
          | false =>
            have hk : k < ops.size := by
              have := hat.1.1.2
              cases hok : ops[k]? with
              | none => rw [hok] at this; cases this
              | some ok => exact (Array.getElem?_eq_some_iff.1 hok).1
            have : k ∈ Region.ready .any ops L := ready_mk (getD_in (by rw [hR.size]; exact hk) hl) hk fun m hm => h m (by simpa using hat.1.1.1.1 m hm)
            rw [hr] at this; cases this
    have hL := hall order [] rfl (fun k hk => by cases hk)
    refine ⟨_, X, hK, rfl, ?_, hR.hi, hR.hs, hR.sz, fun j => ?_, hR.defs⟩
    · rw [hR.hh]
      simp only [cnt, hp.chn]
      rw [List.filter_eq_self.2]
      intro k hk
      rw [← hp.chn] at hk
      exact hL k (List.mem_filter.1 hk).1
    · by_cases hk : ∃ k ∈ order, dstOf ops k = some j
      · obtain ⟨k, hkp, hkd⟩ := hk
        simp only
        rw [frameOf_hit hkd order t0 hkp fun k' hk' hd' => hp.uniq hkp hk' hkd hd']
        exact hR.relA k j (hL k hkp) hkd
      · simp only
        rw [frameOf_miss order t0 fun k hkp hkd => hk ⟨k, hkp, hkd⟩]
        refine hR.relB j fun k _ hkd => hk ⟨k, ?_, hkd⟩
        unfold dstOf at hkd
        cases hok : ops[k]? with
        | none => rw [hok] at hkd; cases hkd
        | some ok => exact hp.all k ok hok
  have mem_count : ∀ (L : Array Bool) i, i ∈ Region.ready .any ops L → i ∈ order.filter fun k => !L.getD k true := fun L i hi => by
    obtain ⟨h1, ⟨o, h2⟩, _⟩ := ready_of hi
    exact List.mem_filter.2 ⟨hp.all i o h2, by rw [h1]; rfl⟩
  intro fuel
  induction fuel with
  | zero =>
    intro L X a hR hc
    have hr : Region.ready .any ops L = [] := by
      cases hr : Region.ready .any ops L with
      | nil => rfl
      | cons i l =>
        have := mem_count L i (by rw [hr]; exact List.mem_cons_self)
        rw [List.length_eq_zero_iff.1 (Nat.le_zero.1 hc)] at this
        cases this
    exact ⟨hr, done L X a hR hr⟩
  | succ fuel ih =>
    intro L X a hR hc
    refine ⟨fun hr => done L X a hR hr, fun i hi => drawn_step hT gd hp hG hR hi fun X' a' hR' => ih _ X' a' hR' ?_⟩
    have hm := mem_count L i hi
    obtain ⟨hiL, ⟨o, ho⟩, _⟩ := ready_of hi
    obtain ⟨p, q, e⟩ := List.append_of_mem hm
    have hsub : (order.filter fun k => !(L.setIfInBounds i true).getD k true) = (order.filter fun k => !L.getD k true).filter fun k => !(k == i) := by
      rw [List.filter_filter]
      refine List.filter_congr fun k hk => ?_
      by_cases hki : i = k
      · subst hki
        rw [getD_set_self (by rw [hR.size]; exact (Array.getElem?_eq_some_iff.1 ho).1)]
        simp
      · rw [getD_set_ne true hki]
        have : (k == i) = false := by simpa using fun e => hki e.symm
        rw [this]; simp
    rw [hsub, e, List.filter_append, List.filter_cons]
    rw [e, List.length_append, List.length_cons] at hc
    simp only [beq_self_eq_true, Bool.not_true, Bool.false_eq_true, if_false, List.length_append]
    have h1 := List.length_filter_le (fun k => !(k == i)) p
    have h2 := List.length_filter_le (fun k => !(k == i)) q
    omega

end plan

theorem swp_drawn (hT : TabOK P T) (hm : P.follows .mixedOrders = true) {Q : Exit → DS → Prop} {s : DS} {id : Nat} {ops : Array Oper} (chain order : List Nat) (hp : planOK ops s.n chain order = true)
    (h : dseq P T ops s.n chain (fun s' => Q .normal s') order s.t [s.h]) : SWP P X0 (.region id ops true) s Q := by
  intro gd X a hh hi hs ht
  have hp := planOK_at hp
  obtain ⟨V, H, h1, h2, h3⟩ := dseq_plan order s.t [s.h] 0 rfl hp.nodup h
  simp only [Nat.zero_add] at h2 h3
  have h0 := h1 0 (Nat.le_refl _)
  simp only [Nat.sub_self, List.getElem?_cons_zero, Option.some.injEq] at h0
  refine wp_region_any hm (drawn_all hT gd hp h2 h3 _ _ X.draw a ?_ ?_)
  · have hf : ∀ k, (Array.replicate ops.size false).getD k false = false := getD_replicate_false _
    refine ⟨by simp, fun i hi' => ?_, ?_, draw_inv hi, hs.trans hi (draw_step hi), ht.size, ht.defs, fun k j hk => ?_, fun j _ => (ht.rel j).step (draw_step hi)⟩
    · rw [hf] at hi'; cases hi'
    · have : (chain.filter fun e => (Array.replicate ops.size false).getD e false) = [] := by
        rw [List.filter_eq_nil_iff]
        intro k _; rw [hf]; simp
      rw [this, List.length_nil, h0]
      exact hh
    · rw [hf] at hk; cases hk
  · refine Nat.le_trans (List.length_filter_le _ _) ?_
    exact hp.len

end
section
variable {P : Program} {T : Tab} {X0 : Ctx}
theorem vc_drawn (hT : TabOK P T) (hm : P.follows .mixedOrders = true) {id : Nat} {l : List Oper} {n : Nat} {t : Fr} {h : DHeap} {Q : Exit → DS → Prop} (chain order : List Nat) (hp : planOK l.toArray n chain order = true) (hd : dseq P T l.toArray n chain (Q .normal) order t [h]) :
    SWP P X0 (.region id l.toArray true) ⟨n, t, h⟩ Q := W9.swp_drawn hT hm chain order hp hd
end
end Go.Dm.W9

end
