/-
  The engine, eighth part: two results as they stand; a row that a caller lends and keeps. No condition.
-/
import Derived.Test.YtfpeelbddefhhaaGreatDoorVF
import Derived.Test.YtfpeelbddefhhaaGreatDoorSB
set_option linter.unusedSimpArgs false
set_option linter.unusedVariables false
namespace Go.Dm
open Go

/-- A function's end, two results as they stand in the call's memory. -/
def v2 (h : DHeap) (R : DV → DHeap → Prop) : DV → DV → Prop
  | .c x, .c y => R (.tup [.c x, .c y]) h
  | _, _ => False
def vres2 (t : Fr) (h : DHeap) (R : DV → DHeap → Prop) : List ResultVar → Prop
  | [.tmp i, .tmp j] => v2 h R (look t i) (look t j)
  | _ => False
def vpost2 (rs : List ResultVar) (R : DV → DHeap → Prop) : Exit → DS → Prop
  | .normal, s => vres2 s.t s.h R rs
  | .ret, s => vres2 s.t s.h R rs
  | _, _ => False
theorem vpost2_n {rs : List ResultVar} {R : DV → DHeap → Prop} {s : DS} : vpost2 rs R .normal s = vres2 s.t s.h R rs := nr rfl
theorem vpost2_r {rs : List ResultVar} {R : DV → DHeap → Prop} {s : DS} : vpost2 rs R .ret s = vres2 s.t s.h R rs := nr rfl
theorem vres2_two {t : Fr} {h : DHeap} {R : DV → DHeap → Prop} {i j : Nat} : vres2 t h R [.tmp i, .tmp j] = v2 h R (look t i) (look t j) := nr rfl
theorem v2_c {h : DHeap} {R : DV → DHeap → Prop} {x y : CV} : v2 h R (.c x) (.c y) = R (.tup [.c x, .c y]) h := nr rfl
attribute [go_sem] vpost2_n vpost2_r vres2_two v2_c
theorem ent2 {P : Program} {T : Tab} (hT : TabOK P T) (hm : P.follows .mixedOrders = true) {f : FuncId} {fn : Func} {c : Code} {args : List DV} {h : DHeap} {R : DV → DHeap → Prop} (hf : P.funcs[f]? = some fn) (hb : fn.body = some c)
    (hc : (Nat.ble args.length fn.ntmps && !(fn.name == "runtime.NumGoroutine")) = true)
    (hs : ∀ X0 : Ctx, X0.h = h → vc P T X0 c ⟨fn.ntmps, frameAt 0 args, h⟩ (vpost2 fn.results.toList R)) : DCalls P f args h R := by
  simp only [Bool.and_eq_true, Bool.not_eq_true'] at hc
  refine dcalls_of_swp hT hf hb (Nat.le_of_ble_eq_true hc.1) hc.2 fun X0 hX => ?_
  rw [frameAt_zip]
  refine swp_mono (vc_sound hT hm c (hs X0 hX)) fun e s hv => ?_
  have key : vres2 s.t s.h R fn.results.toList → dpost T h.length fn.results.toList R .normal s ∧ dpost T h.length fn.results.toList R .ret s := by
    intro hr
    generalize fn.results.toList = rs at hr
    unfold vres2 at hr
    split at hr
    · rename_i i j
      unfold v2 at hr
      split at hr
      · rename_i x y hx hy
        simp only [dpost, dresE, hx, hy, dresD]
        exact ⟨.inl hr, .inl hr⟩
      · exact hr.elim
    · exact hr.elim
  cases e <;> simp only [vpost2] at hv
  case normal => exact (key hv).1
  case ret => exact (key hv).2

/-- Of two results the first, a row of the call's own, taken as data. -/
theorem DCalls.froz2 {P : Program} {f : FuncId} {args : List DV} {j n k : Nat} {es : List (List PV)} {ro : Bool} {x : PV} {H : DHeap}
    (hc : DCalls P f args [] fun d h' => d = .tup [.c (.own j 0 n), .c (.p x)] ∧ h' = H) (hj : H[j]? = some (.arr k es ro)) (hn : es.length = n) :
    DCalls P f args [] fun d h' => d = .tup [.c (.p (.sl k es)), .c (.p x)] ∧ h' = [] := by
  intro X vals hh hi gd hr
  have key : ∀ v w', Ret X (fun d h' => d = .tup [.c (.own j 0 n), .c (.p x)] ∧ h' = H) v w' → Ret X (fun d h' => d = .tup [.c (.p (.sl k es)), .c (.p x)] ∧ h' = []) v w' := by
    rintro v w' ⟨d, Z, h1, h2, h3, h4, rfl, h5⟩
    rw [← h5] at hj
    obtain ⟨F, f1, f2, f3, f4, f5, f6⟩ := freezes [j] h2
    have h6 := h3.trans h2 f4
    simp only [RelD] at h4
    obtain ⟨vs, hv, hrs⟩ := h4
    have hres : RelEVs ⟨F.w, F.S, fun _ => none, []⟩ [.c (.p (.sl k es)), .c (.p x)] vs := by
      match vs, hrs with
      | [a, b], ⟨ha, hb, _⟩ =>
        simp only [RelEV] at ha hb
        have e1 := pvOf_rel h2 f4 f1 ha (pvOf_row hj hn) f6
        have e2 := pvOf_rel (c := .p x) (x := x) h2 f4 f1 hb rfl (fun id hid => by simp [idOf] at hid)
        refine ⟨?_, ?_, trivial⟩
        · simp only [RelEV, RelC]; exact e1
        · simp only [RelEV, RelC]; exact e2
      | [_], ⟨_, h⟩ => exact h.elim
      | _ :: _ :: _ :: _, ⟨_, _, h⟩ => exact h.elim
    refine ⟨_, ⟨F.w, F.S, fun _ => none, []⟩, by rw [← h1]; exact f1, ⟨f5.slt, fun id db hdb => by simp at hdb, fun id db g' hdb => by simp at hdb, fun id db id' db' g1 g2 hdb => by simp at hdb⟩, ⟨h6.size, h6.os, h6.tape, h6.output, h6.kept, by rw [hh]; simp, fun id db' hl => by rw [hh] at hl; simp at hl, h6.frame, fun id db g' hdb => by simp at hdb, h6.upper⟩, ?_, rfl, rfl⟩
    simp only [RelD]
    exact ⟨vs, hv, hres⟩
  rcases hc X vals hh hi gd hr with ⟨h1, h2⟩ | ⟨v, w', h1, h2⟩
  · exact .inl ⟨h1, h2.mono fun e w' ⟨v, he, hv⟩ => ⟨v, he, key v w' hv⟩⟩
  · exact .inr ⟨v, w', h1, key v w' h2⟩

/-- A contract whose result is known, used in any memory that its arguments do not name. -/
theorem useH {P : Program} {f : FuncId} {h H : DHeap} {args : List DV} {r : DV} {K : DV → DHeap → Prop}
    (hc : DCalls P f args [] fun d h' => d = r ∧ h' = H) (hp : dpures h args = some args) (hn : didss args = []) (hk : K (r.sh h.length) (h ++ H.map (DB.sh h.length))) : DCalls P f args h K := by
  refine DCalls.mono (DCalls.frame h hp hc) fun d h' hd => ?_
  obtain ⟨d0, h0, ⟨rfl, rfl⟩, rfl, rfl⟩ := hd
  rw [hn]
  exact hk

/-- A contract over one row of the caller's, which stays as it is, used in any memory. -/
def lentA (i n : Nat) : Option PV → DV
  | some x => .c (.p x)
  | none => .c (.own i 0 n)
theorem lent_rel {X Y : Ctx} {i n : Nat} (hw : Y.w = X.w) (hS : Y.S = X.S) (ho : ∀ v, RelD X (.c (.own i 0 n)) v → RelD Y (.c (.own 0 0 n)) v) : ∀ {L : List (Option PV)} {vs : List Value}, RelDs X (L.map (lentA i n)) vs → RelDs Y (L.map (lentA 0 n)) vs
  | [], [], _ => True.intro
  | none :: _, _ :: _, h => ⟨ho _ h.1, lent_rel hw hS ho h.2⟩
  | some _ :: _, _ :: _, h => ⟨datD_rel (X := X) (Y := Y) hw hS rfl h.1, lent_rel hw hS ho h.2⟩
  | [], _ :: _, h => h.elim
  | none :: _, [], h => h.elim
  | some _ :: _, [], h => h.elim
theorem DCalls.lent {P : Program} {f : FuncId} {h : DHeap} {i k n : Nat} {es : List (List PV)} (L : List (Option PV)) {r : DV} {K : DV → DHeap → Prop}
    (hc : DCalls P f (L.map (lentA 0 n)) [.arr k es false] fun d h' => d = r ∧ h' = [.arr k es false])
    (h0 : h[i]? = some (.arr k es false)) (hdr : datD r = true) (hk : K r h) :
    DCalls P f (L.map (lentA i n)) h K := by
  intro X vals hh hi gd hr
  subst hh
  have hlt := lt_of_some h0
  have hb0 := hi.blk i _ h0
  let Y : Ctx := ⟨X.w, X.S, fun j => if j = 0 then X.G i else none, [.arr k es false]⟩
  have at0 : ∀ {id : Nat} {db : DB}, Y.h[id]? = some db → id = 0 ∧ db = .arr k es false := fun {id db} h => by
    cases id with
    | zero => simp only [Y, List.getElem?_cons_zero, Option.some.injEq] at h; exact ⟨rfl, h.symm⟩
    | succ n => simp [Y] at h
  have hiY : HInv Y := by
    refine ⟨hi.slt, fun id db hdb => ?_, fun id db g' hdb hl hg' => ?_, fun id db id' db' g1 g2 hdb _ _ hdb' _ _ _ _ => ?_⟩
    · obtain ⟨rfl, rfl⟩ := at0 hdb
      simpa only [RelB, Y, if_true] using hb0
    · obtain ⟨rfl, rfl⟩ := at0 hdb
      have hg2 : X.G i = some g' := by simpa [Y] using hg'
      exact hi.own i _ g' h0 rfl hg2
    · obtain ⟨rfl, _⟩ := at0 hdb
      obtain ⟨rfl, _⟩ := at0 hdb'
      rfl
  have hrY : RelDs Y (L.map (lentA 0 n)) vals := lent_rel (X := X) (Y := Y) rfl rfl (fun v hv => by
    simp only [RelD, RelC] at hv ⊢
    obtain ⟨_, hv1, hv2⟩ := hv
    refine ⟨by simp [Y], hv1, fun k' es' ro' he => ?_⟩
    obtain ⟨_, e⟩ := at0 he
    cases e
    have := hv2 _ _ _ h0
    simpa only [Y, if_true] using this) hr
  have key : ∀ v w', Ret Y (fun d h' => d = r ∧ h' = [.arr k es false]) v w' → Ret X K v w' := by
    rintro v w' ⟨d, Z, h1, h2, h3, h4, rfl, h5⟩
    have hZ0 : Z.h[0]? = some (.arr k es false) := by rw [h5]; rfl
    obtain ⟨db, e1, e2, e3, e4⟩ := h3.ids 0 _ (by simp [Y]) hZ0 rfl
    have hGZ : Z.G 0 = X.G i := by simpa [Y] using e3
    have e4 : ∀ g, X.G i = some g → SameO (X.w.heap[g.1]?) (Z.w.heap[g.1]?) := fun g hg => e4 g (by simpa [Y] using hg)
    have hfr : ∀ b, b < X.w.heap.size → (∀ g, X.G i = some g → b ≠ g.1) → Z.w.heap[b]? = X.w.heap[b]? := fun b hb hne => h3.frame b hb fun id db g' hdb hl hf hg' => by
      obtain ⟨rfl, _⟩ := at0 hdb
      have hg2 : X.G i = some g' := by simpa [Y] using hg'
      exact fun e => hne g' hg2 e.symm
    have apart : ∀ {id : Nat} {db : DB} {g' : Nat × Nat}, id ≠ i → X.h[id]? = some db → db.live = true → X.G id = some g' → ∀ g, X.G i = some g → g'.1 ≠ g.1 := fun {id db g'} hne h' hl hg' g hg e => hne (hi.inj i _ id db g g' h0 rfl rfl h' hl hg hg' e.symm).symm
    have hst : Step X ⟨Z.w, Z.S, X.G, X.h⟩ := by
      refine ⟨h3.size, h3.os, h3.tape, h3.output, h3.kept, Nat.le_refl _, fun id db' hl' hdb' hlv => ⟨db', hdb', SameB.refl hlv, rfl, fun g' hg' => ?_⟩, fun b hb hno => hfr b hb fun g hg e => hno i _ g h0 rfl rfl hg e.symm, fun id db g' hdb hl hf hg' => .inr ⟨id, db, g', hdb, hl, hf, hg', rfl⟩, fun b hb => ?_⟩
      · by_cases hne : id = i
        · subst hne
          exact e4 g' hg'
        · rw [show Z.w.heap[g'.1]? = X.w.heap[g'.1]? from hfr _ (hi.block_lt hdb' hlv hg') (apart hne hdb' hlv hg')]
          exact (hi.blk id db' hdb').same hlv g' hg'
      · rcases h3.upper b hb with h | h | ⟨id, db, g', hdb, hl, hg', e⟩
        · exact .inl h
        · exact .inr (.inl h)
        · obtain ⟨rfl, _⟩ := at0 hdb
          have hg2 : X.G i = some g' := by simpa [Y] using hg'
          exact .inr (.inr ⟨i, _, g', h0, rfl, hg2, e⟩)
    refine ⟨d, ⟨Z.w, Z.S, X.G, X.h⟩, h1, ⟨h2.slt, fun id db hdb => ?_, fun id db g' hdb hl hg' => ?_, fun id db id' db' g1 g2 hdb hl hf hdb' hl' hg1 hg2 he => hi.inj id db id' db' g1 g2 hdb hl hf hdb' hl' hg1 hg2 he⟩, hst, datD_mk hdr h4, hk⟩
    · by_cases hne : id = i
      · subst hne
        have hdb2 : X.h[id]? = some db := hdb
        rw [h0] at hdb2
        cases hdb2
        have := h2.blk 0 _ hZ0
        simp only [RelB, hGZ] at this ⊢
        exact this
      · by_cases hl : db.live = true
        · exact (hi.blk id db hdb).move hst rfl fun g' hg' => hfr _ (hi.block_lt hdb hl hg') (apart hne hdb hl hg')
        · cases db with
          | dead => simp only [RelB]
          | box _ => exact absurd rfl hl
          | arr _ _ _ => exact absurd rfl hl
    · by_cases hne : id = i
      · subst hne
        have hdb2 : X.h[id]? = some db := hdb
        rw [h0] at hdb2
        cases hdb2
        exact h2.own 0 _ g' hZ0 rfl (by rw [hGZ]; exact hg')
      · have ho := hi.own id db g' hdb hl hg'
        refine ⟨fun hf hS => ?_, fun hf => (h3.kept _ (ho.2 hf)).1⟩
        rcases h3.upper _ hS with h | h | ⟨j, d', g2, hdb2, hl2, hg2, e⟩
        · exact ho.1 hf h
        · have := hi.block_lt hdb hl hg'
          have hYw : Y.w.heap.size = X.w.heap.size := rfl
          omega
        · obtain ⟨rfl, _⟩ := at0 hdb2
          have hg3 : X.G i = some g2 := by simpa [Y] using hg2
          exact apart hne hdb hl hg' g2 hg3 e.symm
  have gdY : Gnd P Y := gd
  rcases hc Y _ rfl hiY gdY hrY with ⟨h1, h2⟩ | ⟨v, w', h1, h2⟩
  · exact .inl ⟨h1, h2.mono fun e w' ⟨v, he, hv⟩ => ⟨v, he, key v w' hv⟩⟩
  · exact .inr ⟨v, w', h1, key v w' h2⟩
theorem useL {P : Program} {f : FuncId} {h : DHeap} {i k n : Nat} {es : List (List PV)} {r : DV} {K : DV → DHeap → Prop}
    (hc : DCalls P f [.c (.own 0 0 n)] [.arr k es false] fun d h' => d = r ∧ h' = [.arr k es false])
    (h0 : h[i]? = some (.arr k es false)) (hdr : datD r = true) (hk : K r h) : DCalls P f [.c (.own i 0 n)] h K := DCalls.lent [none] hc h0 hdr hk
theorem useL2 {P : Program} {f : FuncId} {h : DHeap} {i k n : Nat} {es : List (List PV)} {x : PV} {r : DV} {K : DV → DHeap → Prop}
    (hc : DCalls P f [.c (.p x), .c (.own 0 0 n)] [.arr k es false] fun d h' => d = r ∧ h' = [.arr k es false])
    (h0 : h[i]? = some (.arr k es false)) (hdr : datD r = true) (hk : K r h) : DCalls P f [.c (.p x), .c (.own i 0 n)] h K := DCalls.lent [some x, none] hc h0 hdr hk

/-- What a box holds of the call's own rows, taken as data from then on. -/
theorem swp_boxdata {P : Program} {X0 : Ctx} {c : Code} {s : DS} {Q : Exit → DS → Prop} (id : Nat) (cs : List CV) (xs : List PV) (hb : s.h[id]? = some (.box cs)) (hp : pvs s.h cs = some xs)
    (h : SWP P X0 c ⟨s.n, s.t, (frzs s.h (idsOf cs)).set id (.box (xs.map .p))⟩ Q) : SWP P X0 c s Q := by
  intro gd X a hh hi hs ht
  obtain ⟨F, f1, f2, f3, f4, f5, f6⟩ := freezes (idsOf cs) hi
  have h0 : X.h[id]? = some (.box cs) := by rw [hh]; exact hb
  obtain ⟨g, arr, el, fz, k1, k2, k3, k4, k5⟩ := hi.blk id _ h0
  have hbx := boxPs_rel hi f4 f1 k5 (by rw [hh]; exact hp) f6
  have hF0 : F.h[id]? = some (.box cs) := by
    have : ∀ (ids : List Nat) (h : DHeap), h[id]? = some (.box cs) → (frzs h ids)[id]? = some (.box cs) := by
      intro ids
      induction ids with
      | nil => intro h hh; exact hh
      | cons j ids ih =>
        intro h hh
        refine ih _ ?_
        unfold frzH
        split
        · rename_i k' es' ro' he
          rw [List.getElem?_set]
          split
          · rename_i e; subst e; rw [hh] at he; cases he
          · exact hh
        · exact hh
    rw [f2]; exact this _ _ h0
  have hGF : F.G id = some g := by rw [f3]; exact k1
  have rf := Step.refl f5
  have st : Step F ⟨F.w, F.S, F.G, F.h.set id (.box (xs.map .p))⟩ := by
    refine ⟨rf.size, rf.os, rf.tape, rf.output, rf.kept, by simp, fun i db' hl hdb hlv => ?_, rf.frame, fun i db g' hdb hl hf hg' => ?_, rf.upper⟩
    · rcases put_some hdb with ⟨rfl, rfl, _⟩ | ⟨hne, h'⟩
      · exact ⟨_, hF0, True.intro, rfl, fun g' hg' => (f5.blk _ _ hF0).same rfl g' hg'⟩
      · exact ⟨db', h', SameB.refl hlv, rfl, fun g' hg' => (f5.blk i db' h').same hlv g' hg'⟩
    · rcases put_some hdb with ⟨rfl, rfl, _⟩ | ⟨hne, h'⟩
      · exact .inr ⟨_, _, g', hF0, rfl, rfl, hg', rfl⟩
      · exact .inr ⟨i, db, g', h', hl, hf, hg', rfl⟩
  have hi' : HInv ⟨F.w, F.S, F.G, F.h.set id (.box (xs.map .p))⟩ := by
    refine ⟨f5.slt, fun i db hdb => ?_, fun i db g' hdb hl hg' => ?_, fun i db i' db' g1 g2 hdb hl hf hdb' hl' hg1 hg2 he => ?_⟩
    · rcases put_some hdb with ⟨rfl, rfl, _⟩ | ⟨hne, h'⟩
      · have hdat : (xs.map CV.p).all datC = true := by simp [datC]
        exact ⟨g, arr, el, fz, hGF, by rw [f1]; exact k2, by rw [List.length_map, pvs_len hp]; exact k3, k4, datBox_mk hdat hbx⟩
      · exact (f5.blk i db h').move st rfl fun _ _ => rfl
    · rcases put_some hdb with ⟨rfl, rfl, _⟩ | ⟨hne, h'⟩
      · have := f5.own _ (.box cs) g' hF0 rfl hg'
        exact this
      · exact f5.own i db g' h' hl hg'
    · rcases put_some hdb with ⟨rfl, rfl, _⟩ | ⟨hne, h1'⟩ <;> rcases put_some hdb' with ⟨rfl, rfl, _⟩ | ⟨hne', h2'⟩
      · rfl
      · exact f5.inj i _ i' db' g1 g2 hF0 rfl rfl h2' hl' hg1 hg2 he
      · exact f5.inj i db i' _ g1 g2 h1' hl hf hF0 rfl hg1 hg2 he
      · exact f5.inj i db i' db' g1 g2 h1' hl hf h2' hl' hg1 hg2 he
  rw [← f1]
  have hsF := hs.trans hi f4
  exact h gd ⟨F.w, F.S, F.G, F.h.set id (.box (xs.map .p))⟩ a (by simp only [f2, hh]) hi' (hsF.trans f5 st) ⟨ht.size, fun j => ((ht.rel j).step f4).step st, ht.defs⟩

theorem wkRows_rel {X : Ctx} {v : Value} {k : Nat} {es es' : List (List PV)} (hw : wkRows es es') (hr : RelD X (.c (.p (.sl k es))) v) : RelD X (.c (.p (.sl k es'))) v := by
  simp only [RelD, RelC, RelP] at hr ⊢
  obtain ⟨a, c, h1, h2, h3⟩ := hr
  refine ⟨a, c, by rw [hw.len]; exact h1, by rw [hw.len]; exact h2, ?_⟩
  rcases h3 with h3 | ⟨bl, off, h4, h5, h6⟩
  · left
    subst h3
    exact List.eq_nil_of_length_eq_zero hw.len
  · exact .inr ⟨bl, off, h4, h5, hw.relL h6⟩
/-- A slot's row, nil within its elements taken as an empty one. -/
theorem swp_slwk {P : Program} {X0 : Ctx} {c : Code} {s : DS} {Q : Exit → DS → Prop} (i : Nat) {k : Nat} {es es' : List (List PV)} (hl : look s.t i = .c (.p (.sl k es))) (hw : wkRows es es')
    (h : SWP P X0 c ⟨s.n, (i, .c (.p (.sl k es'))) :: s.t, s.h⟩ Q) : SWP P X0 c s Q := by
  intro gd X a hh hi hs ht
  refine h gd X a hh hi hs ⟨ht.size, fun j => ?_, ht.defs⟩
  simp only [look]
  split
  · rename_i hij
    subst hij
    have := ht.rel j
    rw [hl] at this
    exact wkRows_rel hw this
  · exact ht.rel j
theorem qj_dataW {P : Program} {X0 : Ctx} {Q : Exit → DS → Prop} {α : Type} {I : α → DS} {J : α → Prop} {s : DS} (y : α) (i id off len k : Nat) {es es' : List (List PV)} (h1 : J y) (hl : look s.t i = .c (.own id off len)) (hp : pvOf s.h (.own id off len) = some (.sl k es)) (hw : wkRows es es')
    (h3 : Weak X0.h.length ⟨s.n, (i, .c (.p (.sl k es'))) :: (i, .c (.p (.sl k es))) :: s.t, frzs s.h [id]⟩ (I y)) : qjoin P X0 I J Q .normal s :=
  ⟨y, h1, fun _ _ h => swp_data i id off len hl hp (swp_slwk i (k := k) (es := es) (by simp [look]) hw (swp_weak h3 h))⟩
/-- Arguments told in a weaker way. -/
theorem DCalls.wkA {P : Program} {f : FuncId} {args args' : List DV} {h : DHeap} {R : DV → DHeap → Prop} (hw : wkDs args args') (hc : DCalls P f args' h R) : DCalls P f args h R :=
  fun X vals hh hi gd hr => hc X vals hh hi gd (wkDs.rel hw hr)
theorem useLay {P : Program} {f : FuncId} {h : DHeap} {args : List DV} {n : Nat} {es : List (List PV)} {x : PV} {K : DV → DHeap → Prop}
    (hc : DCalls P f args [] fun d h' => d = .tup [.c (.own 3 0 n), .c (.p x)] ∧ h' = [.box [.own 1 0 n], .arr 1 es false, .dead, .arr 1 es false])
    (hp : dpures h args = some args) (hn : didss args = []) (hk : K (.tup [.c (.own (h.length + 3) 0 n), .c (.p x)]) (h ++ [.box [.own (h.length + 1) 0 n], .arr 1 es false, .dead, .arr 1 es false])) : DCalls P f args h K := by
  refine useH hc hp hn ?_
  have e1 : DV.sh h.length (.tup [.c (.own 3 0 n), .c (.p x)]) = .tup [.c (.own (h.length + 3) 0 n), .c (.p x)] := by simp [DV.sh, EV.sh, CV.sh, Nat.add_comm]
  have e2 : List.map (DB.sh h.length) [.box [.own 1 0 n], .arr 1 es false, .dead, .arr 1 es false] = [.box [.own (h.length + 1) 0 n], .arr 1 es false, .dead, .arr 1 es false] := by simp [DB.sh, CV.sh, Nat.add_comm]
  rw [e1, e2]
  exact hk
end Go.Dm
