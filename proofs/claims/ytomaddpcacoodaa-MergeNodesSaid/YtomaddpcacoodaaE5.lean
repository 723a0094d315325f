/-
  The engine, part 5: rows made immutable, numbers forgotten, calls: what a contract over data says, and how it is used in a greater memory. No condition: small laws on the engine's own words.
-/
import Derived.Test.YtomaddpcacoodaaE4
set_option linter.unusedSimpArgs false
set_option linter.unusedVariables false
namespace Go.Dm
open Go

def frzH (h : DHeap) (id : Nat) : DHeap :=
  match h[id]? with
  | some (.arr k es _) => h.set id (.arr k es true)
  | _ => h
def frzs (h : DHeap) : List Nat → DHeap
  | [] => h
  | id :: ids => frzs (frzH h id) ids

theorem frzH_length (h : DHeap) (id : Nat) : (frzH h id).length = h.length := by
  unfold frzH; split <;> simp
theorem frzs_length : ∀ (ids : List Nat) (h : DHeap), (frzs h ids).length = h.length
  | [], _ => rfl
  | id :: ids, h => by simp only [frzs]; rw [frzs_length ids, frzH_length]

theorem frzH_some {h : DHeap} {id i : Nat} {db : DB} (hh : (frzH h id)[i]? = some db) :
    (h[i]? = some db ∧ (i ≠ id ∨ ∀ k es ro, db ≠ .arr k es ro)) ∨ (i = id ∧ ∃ k es ro, h[i]? = some (.arr k es ro) ∧ db = .arr k es true) := by
  unfold frzH at hh
  split at hh
  · rename_i k es ro he
    rcases put_some hh with ⟨rfl, rfl, _⟩ | ⟨hne, h'⟩
    · exact .inr ⟨rfl, k, es, ro, he, rfl⟩
    · exact .inl ⟨h', .inl hne⟩
  · rename_i hno
    refine .inl ⟨hh, ?_⟩
    by_cases hi : i = id
    · subst hi
      right
      intro k es ro e
      subst e
      exact hno k es ro hh
    · exact .inl hi

def Ctx.frz (X : Ctx) (id : Nat) : Ctx :=
  ⟨X.w, fun b => X.S b ∨ ∃ k es ro g, X.h[id]? = some (.arr k es ro) ∧ X.G id = some g ∧ b = g.1, X.G, frzH X.h id⟩

theorem freeze {X : Ctx} (hi : HInv X) (id : Nat) : Step X (X.frz id) ∧ HInv (X.frz id) := by
  have hk : Kept X.w (X.frz id).w X.S (X.frz id).S := fun b hb => ⟨.inl hb, rfl⟩
  have hs : Step X (X.frz id) := by
    refine ⟨Nat.le_refl _, rfl, rfl, rfl, hk, by simp [Ctx.frz, frzH_length], fun i db hlt h hl => ?_, fun _ _ _ => rfl, fun i db g' h hl hf hg' => ?_, fun b hb => ?_⟩
    · rcases frzH_some h with ⟨h1, _⟩ | ⟨rfl, k, es, ro, h1, rfl⟩
      · exact ⟨db, h1, SameB.refl hl, rfl, (hi.blk i db h1).same hl⟩
      · exact ⟨_, h1, ⟨rfl, Nat.le_refl _⟩, rfl, (hi.blk i _ h1).same rfl⟩
    · rcases frzH_some h with ⟨h1, _⟩ | ⟨rfl, k, es, ro, h1, rfl⟩
      · exact .inr ⟨i, db, g', h1, hl, hf, hg', rfl⟩
      · simp [DB.fix] at hf
    · rcases hb with hb | ⟨k, es, ro, g, h1, h2, rfl⟩
      · exact .inl hb
      · exact .inr (.inr ⟨id, _, g, h1, rfl, h2, rfl⟩)
  refine ⟨hs, fun b hb => ?_, fun i db h => ?_, fun i db g' h hl hg' => ?_, fun i d i' d' g1 g1' h hl hfx h' hl' hg1 hg1' he => ?_⟩
  · rcases hb with hb | ⟨k, es, ro, g, h1, h2, rfl⟩
    · exact hi.slt b hb
    · exact hi.block_lt h1 rfl h2
  · rcases frzH_some h with ⟨h1, _⟩ | ⟨rfl, k, es, ro, h1, rfl⟩
    · exact (hi.blk i db h1).move hs rfl fun _ _ => rfl
    · have := (hi.blk i _ h1).move hs rfl fun _ _ => rfl
      simpa only [RelB] using this
  · rcases frzH_some h with ⟨h1, h2⟩ | ⟨rfl, k, es, ro, h1, rfl⟩
    · have := hi.own i db g' h1 hl hg'
      refine ⟨fun hf hb => ?_, fun hf => .inl (this.2 hf)⟩
      rcases hb with hb | ⟨k, es, ro, g, h3, h4, he⟩
      · exact this.1 hf hb
      · have := hi.inj i db id _ g' g h1 hl hf h3 rfl hg' h4 he
        rcases h2 with h2 | h2
        · exact h2 this
        · subst this
          rw [h1] at h3
          cases h3
          exact h2 _ _ _ rfl
    · exact ⟨fun hf => by simp [DB.fix] at hf, fun _ => .inr ⟨k, es, ro, g', h1, hg', rfl⟩⟩
  · rcases frzH_some h with ⟨h1, _⟩ | ⟨rfl, k, es, ro, h1, rfl⟩
    · rcases frzH_some h' with ⟨h2, _⟩ | ⟨rfl, k, es, ro, h2, rfl⟩
      · exact hi.inj i d i' d' g1 g1' h1 hl hfx h2 hl' hg1 hg1' he
      · exact hi.inj i d i' _ g1 g1' h1 hl hfx h2 rfl hg1 hg1' he
    · simp [DB.fix] at hfx

/-- The rows of these numbers stand among what is immutable. -/
def Fixed (X X' : Ctx) (ids : List Nat) : Prop := ∀ id ∈ ids, ∀ k es ro g, X.h[id]? = some (.arr k es ro) → X.G id = some g → X'.S g.1

theorem freezes : ∀ (ids : List Nat) {X : Ctx}, HInv X → ∃ X' : Ctx, X'.w = X.w ∧ X'.h = frzs X.h ids ∧ X'.G = X.G ∧ Step X X' ∧ HInv X' ∧ Fixed X X' ids
  | [], X, hi => ⟨X, rfl, rfl, rfl, Step.refl hi, hi, fun id h => by simp at h⟩
  | id :: ids, X, hi => by
    obtain ⟨hs, hi1⟩ := freeze hi id
    obtain ⟨X', h1, h2, h3, h4, h5, h6⟩ := freezes ids hi1
    refine ⟨X', h1, h2, h3, hs.trans hi1 h4, h5, fun j hj k es ro g hh hg => ?_⟩
    rcases List.mem_cons.1 hj with rfl | hj
    · exact (h4.kept _ (.inr ⟨k, es, ro, g, hh, hg, rfl⟩)).1
    · have : ∃ ro', (X.frz id).h[j]? = some (.arr k es ro') := by
        simp only [Ctx.frz, frzH]
        split
        · rename_i k' es' ro' he
          rw [List.getElem?_set]
          split
          · rename_i hji
            subst hji
            rw [he] at hh
            cases hh
            rw [if_pos (lt_of_some he)]
            exact ⟨true, rfl⟩
          · exact ⟨ro, hh⟩
        · exact ⟨ro, hh⟩
      obtain ⟨ro', hr⟩ := this
      exact h6 j hj k es ro' g hr hg

/-! Data taken out of a memory. -/
def pvOf (h : DHeap) : CV → Option PV
  | .p x => some x
  | .own id off len =>
    match h[id]? with
    | some (.arr k es _) => some (.sl k ((es.drop off).take len))
    | _ => none
  | _ => none
def idOf : CV → List Nat
  | .own id _ _ => [id]
  | _ => []
def pvs (h : DHeap) : List CV → Option (List PV)
  | [] => some []
  | c :: cs => match pvOf h c, pvs h cs with
    | some x, some xs => some (x :: xs)
    | _, _ => none
def idsOf : List CV → List Nat
  | [] => []
  | c :: cs => idOf c ++ idsOf cs

theorem pvOf_rel {X X' : Ctx} (hi : HInv X) (hs : Step X X') (hw : X'.w = X.w) {c : CV} {v : Value} {x : PV} (hr : RelC X c v) (hp : pvOf X.h c = some x) (hf : Fixed X X' (idOf c)) : RelP X'.w X'.S x v := by
  cases c <;> simp only [pvOf, reduceCtorEq, Option.some.injEq] at hp
  case p => subst hp; simp only [RelC] at hr; exact hr.kept hs.kept
  case own id off len =>
    split at hp
    · rename_i k es ro he
      simp only [Option.some.injEq] at hp
      subst hp
      simp only [RelC] at hr
      obtain ⟨_, _, h3⟩ := hr
      obtain ⟨h4, h5⟩ := h3 _ _ _ he
      have hlen : ((es.drop off).take len).length = len := by simp; omega
      have hb := hi.blk id _ he
      simp only [RelB] at hb
      cases hG : X.G id with
      | none =>
        rw [hG] at h5
        simp only [RelP]
        rcases hb with hb | ⟨g, _, _, _, hg, _⟩
        · obtain ⟨_, rfl⟩ := hb
          simp only [List.length_nil] at h4
          have : len = 0 := by omega
          subst this
          exact ⟨none, 0, by simpa using h5, by simp, .inl (by simp)⟩
        · rw [hG] at hg; cases hg
      | some g =>
        rw [hG] at h5
        obtain ⟨cap, o, arr, el, fz, h6, h7, h70, h8, h9, h10⟩ := h5
        rcases hb with hb | ⟨g', _, _, _, hg, _, _, _, hL⟩
        · rw [hG] at hb; cases hb.1
        rw [hG] at hg
        cases hg
        simp only [RelP]
        refine ⟨_, cap, by rw [hlen]; exact h7, by rw [hlen]; exact h8, ?_⟩
        rcases h70 with h70 | h70
        · exact .inl (List.eq_nil_of_length_eq_zero (by omega))
        · exact .inr ⟨g.1, g.2 + off * k, by rw [h70], hf id (by simp [idOf]) k es ro g he hG, ((hL.drop off).take len).move hs.kept (by rw [hw])⟩
    · cases hp

theorem Fixed.sub {X X' : Ctx} {a b : List Nat} (h : Fixed X X' a) (hb : ∀ id ∈ b, id ∈ a) : Fixed X X' b := fun id hid => h id (hb id hid)

theorem pvs_rel {X X' : Ctx} (hi : HInv X) (hs : Step X X') (hw : X'.w = X.w) : ∀ {cs : List CV} {vs : List Value} {xs : List PV}, RelCs X cs vs → pvs X.h cs = some xs → Fixed X X' (idsOf cs) → RelPs X'.w X'.S xs vs
  | [], [], xs, _, hp, _ => by simp only [pvs, Option.some.injEq] at hp; subst hp; exact True.intro
  | c :: cs, v :: vs, xs, hr, hp, hf => by
    simp only [pvs] at hp
    split at hp
    · rename_i x xs' h1 h2
      simp only [Option.some.injEq] at hp
      subst hp
      exact ⟨pvOf_rel hi hs hw hr.1 h1 (hf.sub fun id h => by simp [idsOf, h]), pvs_rel hi hs hw hr.2 h2 (hf.sub fun id h => by simp [idsOf, h])⟩
    · cases hp
  | [], _ :: _, _, h, _, _ => h.elim
  | _ :: _, [], _, h, _, _ => h.elim

def cpure (h : DHeap) : CV → Option CV
  | .clo f [] => some (.clo f [])
  | x => (pvOf h x).map .p
def dpure (h : DHeap) : DV → Option DV
  | .c x => (cpure h x).map .c
  | .agg xs => (pvs h xs).map fun ys => .agg (ys.map .p)
  | _ => none
def dids : DV → List Nat
  | .c x => idOf x
  | .agg xs => idsOf xs
  | _ => []
def dpures (h : DHeap) : List DV → Option (List DV)
  | [] => some []
  | d :: ds => match dpure h d, dpures h ds with
    | some x, some xs => some (x :: xs)
    | _, _ => none
def didss : List DV → List Nat
  | [] => []
  | d :: ds => dids d ++ didss ds

theorem RelCs.of_ps {X : Ctx} : ∀ {xs : List PV} {vs : List Value}, RelPs X.w X.S xs vs → RelCs X (xs.map .p) vs
  | [], [], _ => True.intro
  | _ :: _, _ :: _, h => ⟨h.1, RelCs.of_ps h.2⟩
  | [], _ :: _, h => h.elim
  | _ :: _, [], h => h.elim
theorem RelCs.to_ps {X : Ctx} : ∀ {xs : List PV} {vs : List Value}, RelCs X (xs.map .p) vs → RelPs X.w X.S xs vs
  | [], [], _ => True.intro
  | _ :: _, _ :: _, h => ⟨h.1, RelCs.to_ps h.2⟩
  | [], _ :: _, h => h.elim
  | _ :: _, [], h => h.elim

/-- What is pure reads alike in whatever numbering. -/
theorem cpure_rel {X X' Y : Ctx} (hi : HInv X) (hs : Step X X') (hw : X'.w = X.w) (hYw : Y.w = X'.w) (hYS : Y.S = X'.S) {x y : CV} {v : Value} (hr : RelC X x v) (hp : cpure X.h x = some y) (hf : Fixed X X' (idOf x)) : RelC Y y v := by
  unfold cpure at hp
  split at hp
  · cases hp
    simp only [RelC] at hr ⊢
    obtain ⟨vs, h1, h2⟩ := hr
    refine ⟨vs, h1, ?_⟩
    cases vs with
    | nil => exact True.intro
    | cons _ _ => exact h2.elim
  · obtain ⟨z, hz, rfl⟩ := Option.map_eq_some_iff.1 hp
    simp only [RelC]
    rw [hYw, hYS]
    exact pvOf_rel hi hs hw hr hz hf

theorem dpure_rel {X X' Y : Ctx} (hi : HInv X) (hs : Step X X') (hw : X'.w = X.w) (hYw : Y.w = X'.w) (hYS : Y.S = X'.S) {d d' : DV} {v : Value} (hr : RelD X d v) (hp : dpure X.h d = some d') (hf : Fixed X X' (dids d)) : RelD Y d' v := by
  cases d <;> simp only [dpure, reduceCtorEq] at hp
  case c x =>
    obtain ⟨z, hz, rfl⟩ := Option.map_eq_some_iff.1 hp
    simp only [RelD] at hr ⊢
    exact cpure_rel hi hs hw hYw hYS hr hz hf
  case agg xs =>
    obtain ⟨ys, hy, rfl⟩ := Option.map_eq_some_iff.1 hp
    simp only [RelD] at hr ⊢
    obtain ⟨vs, h1, h2⟩ := hr
    refine ⟨vs, h1, RelCs.of_ps ?_⟩
    rw [hYw, hYS]
    exact pvs_rel hi hs hw h2 hy hf

theorem dpures_rel {X X' Y : Ctx} (hi : HInv X) (hs : Step X X') (hw : X'.w = X.w) (hYw : Y.w = X'.w) (hYS : Y.S = X'.S) : ∀ {ds ds' : List DV} {vs : List Value}, RelDs X ds vs → dpures X.h ds = some ds' → Fixed X X' (didss ds) → RelDs Y ds' vs
  | [], _, [], _, hp, _ => by simp only [dpures, Option.some.injEq] at hp; subst hp; exact True.intro
  | d :: ds, ds', v :: vs, hr, hp, hf => by
    simp only [dpures] at hp
    split at hp
    · rename_i x xs h1 h2
      cases hp
      exact ⟨dpure_rel hi hs hw hYw hYS hr.1 h1 (hf.sub fun id h => by simp [didss, h]), dpures_rel hi hs hw hYw hYS hr.2 h2 (hf.sub fun id h => by simp [didss, h])⟩
    · cases hp
  | [], _, _ :: _, h, _, _ => h.elim
  | _ :: _, _, [], h, _, _ => h.elim

/-! Calls. -/
/-- What a call leaves: a value that reads as a datum of which R holds, in a memory that has gone on from X. -/
def Ret (X : Ctx) (R : DV → DHeap → Prop) (v : Value) (w' : World) : Prop := ∃ d X', X'.w = w' ∧ HInv X' ∧ Step X X' ∧ RelD X' d v ∧ R d X'.h

/-- A contract over data: called with whatever reads as these data, in whatever memory, function f returns what reads as R says. -/
def DCalls (P : Program) (f : FuncId) (args : List DV) (h : DHeap) (R : DV → DHeap → Prop) : Prop :=
  ∀ (X : Ctx) (vals : List Value), X.h = h → HInv X → RelDs X args vals →
    ((callFunc f vals.toArray).run P X.w = .ok (.enter f vals.toArray) X.w ∧ Calls P f vals.toArray X.w fun e w' => ∃ v, e = .returned v ∧ Ret X R v w') ∨
    ∃ v w', (callFunc f vals.toArray).run P X.w = .ok (.value v) w' ∧ Ret X R v w'

theorem Ret.mono {X : Ctx} {R R' : DV → DHeap → Prop} {v : Value} {w' : World} (h : Ret X R v w') (hr : ∀ d h, R d h → R' d h) : Ret X R' v w' := by
  obtain ⟨d, X', h1, h2, h3, h4, h5⟩ := h
  exact ⟨d, X', h1, h2, h3, h4, hr _ _ h5⟩

theorem DCalls.mono {P : Program} {f : FuncId} {args : List DV} {h : DHeap} {R R' : DV → DHeap → Prop} (hc : DCalls P f args h R) (hr : ∀ d h, R d h → R' d h) : DCalls P f args h R' := by
  intro X vals h1 h2 h3
  rcases hc X vals h1 h2 h3 with ⟨h4, h5⟩ | ⟨v, w', h4, h5⟩
  · exact .inl ⟨h4, h5.mono fun e w' ⟨v, he, h⟩ => ⟨v, he, h.mono hr⟩⟩
  · exact .inr ⟨v, w', h4, h5.mono hr⟩

/-- Numbers moved up. -/
def KV.sh (n : Nat) : KV → KV
  | .p x => .p x
  | .ptr id off => .ptr (id + n) off
def CV.sh (n : Nat) : CV → CV
  | .p x => .p x
  | .own id off len => .own (id + n) off len
  | .ptr id off => .ptr (id + n) off
  | .aptr id i j => .aptr (id + n) i j
  | .eptr cs => .eptr cs
  | .clo f cap => .clo f (cap.map (KV.sh n))
def EV.sh (n : Nat) : EV → EV
  | .c x => .c (x.sh n)
  | .agg xs => .agg (xs.map (CV.sh n))
def DV.sh (n : Nat) : DV → DV
  | .jk => .jk
  | .c x => .c (x.sh n)
  | .agg xs => .agg (xs.map (CV.sh n))
  | .tup xs => .tup (xs.map (EV.sh n))
def DB.sh (n : Nat) : DB → DB
  | .dead => .dead
  | .box cells => .box (cells.map (CV.sh n))
  | .arr k es ro => .arr k es ro

theorem DB.sh_live {n : Nat} {db : DB} : (db.sh n).live = db.live := by cases db <;> rfl
theorem DB.sh_fix {n : Nat} {db : DB} : (db.sh n).fix = db.fix := by cases db <;> rfl

/-- Y's memory behind X's numbers. -/
def Ctx.join (X Y : Ctx) : Ctx := ⟨Y.w, Y.S, fun i => if i < X.h.length then X.G i else Y.G (i - X.h.length), X.h ++ Y.h.map (DB.sh X.h.length)⟩

theorem join_lt {X Y : Ctx} {i : Nat} (h : i < X.h.length) : (X.join Y).h[i]? = X.h[i]? := by simp only [Ctx.join]; rw [List.getElem?_append_left h]
theorem join_ge {X Y : Ctx} (i : Nat) : (X.join Y).h[i + X.h.length]? = (Y.h[i]?).map (DB.sh X.h.length) := by
  simp only [Ctx.join]; rw [List.getElem?_append_right (by omega), List.getElem?_map]; congr 2; omega
theorem join_ge_inv {X Y : Ctx} {i : Nat} {db : DB} (h : (X.join Y).h[i]? = some db) : (i < X.h.length ∧ X.h[i]? = some db) ∨ ∃ j db', i = j + X.h.length ∧ Y.h[j]? = some db' ∧ db = db'.sh X.h.length := by
  rcases Nat.lt_or_ge i X.h.length with hi | hi
  · exact .inl ⟨hi, by rw [← join_lt hi]; exact h⟩
  · obtain ⟨j, rfl⟩ : ∃ j, i = j + X.h.length := ⟨i - X.h.length, by omega⟩
    rw [join_ge] at h
    obtain ⟨db', h1, h2⟩ := Option.map_eq_some_iff.1 h
    exact .inr ⟨j, db', rfl, h1, h2.symm⟩
theorem join_G {X Y : Ctx} (i : Nat) : (X.join Y).G (i + X.h.length) = Y.G i := by
  simp only [Ctx.join]; rw [if_neg (by omega)]; congr 1; omega

theorem RelK.join {X Y : Ctx} {c : KV} {v : Value} (h : RelK Y c v) : RelK (X.join Y) (c.sh X.h.length) v := by
  cases c <;> simp only [RelK, KV.sh] at h ⊢
  case p => exact h
  case ptr id off =>
    obtain ⟨h1, h2, h3⟩ := h
    refine ⟨by simp only [Ctx.join, List.length_append, List.length_map]; omega, h2, fun cells hc => ?_⟩
    rw [join_ge] at hc
    obtain ⟨db, h4, h5⟩ := Option.map_eq_some_iff.1 hc
    cases db <;> simp only [DB.sh, reduceCtorEq] at h5
    rw [join_G]; exact h3 _ h4
theorem RelKs.join {X Y : Ctx} : ∀ {cs : List KV} {vs : List Value}, RelKs Y cs vs → RelKs (X.join Y) (cs.map (KV.sh X.h.length)) vs
  | [], [], _ => True.intro
  | _ :: _, _ :: _, h => ⟨h.1.join, RelKs.join h.2⟩
  | [], _ :: _, h => h.elim
  | _ :: _, [], h => h.elim

theorem RelC.join {X Y : Ctx} {c : CV} {v : Value} (h : RelC Y c v) : RelC (X.join Y) (c.sh X.h.length) v := by
  cases c <;> simp only [RelC, CV.sh] at h ⊢
  case p => exact h
  case eptr => exact h
  case own id off len =>
    obtain ⟨h1, h2, h3⟩ := h
    refine ⟨by simp only [Ctx.join, List.length_append, List.length_map]; omega, h2, fun k es ro hc => ?_⟩
    rw [join_ge] at hc
    obtain ⟨db, h4, h5⟩ := Option.map_eq_some_iff.1 hc
    cases db <;> simp only [DB.sh, reduceCtorEq] at h5
    cases h5
    rw [join_G]; exact h3 _ _ _ h4
  case ptr id off =>
    obtain ⟨h1, h2, h3⟩ := h
    refine ⟨by simp only [Ctx.join, List.length_append, List.length_map]; omega, h2, fun cells hc => ?_⟩
    rw [join_ge] at hc
    obtain ⟨db, h4, h5⟩ := Option.map_eq_some_iff.1 hc
    cases db <;> simp only [DB.sh, reduceCtorEq] at h5
    rw [join_G]; exact h3 _ h4
  case aptr id i j =>
    obtain ⟨h1, h2, h3⟩ := h
    refine ⟨by simp only [Ctx.join, List.length_append, List.length_map]; omega, h2, fun k es ro hc => ?_⟩
    rw [join_ge] at hc
    obtain ⟨db, h4, h5⟩ := Option.map_eq_some_iff.1 hc
    cases db <;> simp only [DB.sh, reduceCtorEq] at h5
    cases h5
    rw [join_G]; exact h3 _ _ _ h4
  case clo f cap =>
    obtain ⟨vs, h1, h2⟩ := h
    exact ⟨vs, h1, h2.join⟩
theorem RelCs.join {X Y : Ctx} : ∀ {cs : List CV} {vs : List Value}, RelCs Y cs vs → RelCs (X.join Y) (cs.map (CV.sh X.h.length)) vs
  | [], [], _ => True.intro
  | _ :: _, _ :: _, h => ⟨h.1.join, RelCs.join h.2⟩
  | [], _ :: _, h => h.elim
  | _ :: _, [], h => h.elim
theorem RelEV.join {X Y : Ctx} {c : EV} {v : Value} (h : RelEV Y c v) : RelEV (X.join Y) (c.sh X.h.length) v := by
  cases c <;> simp only [RelEV, EV.sh] at h ⊢
  case c => exact h.join
  case agg => obtain ⟨vs, h1, h2⟩ := h; exact ⟨vs, h1, h2.join⟩
theorem RelEVs.join {X Y : Ctx} : ∀ {cs : List EV} {vs : List Value}, RelEVs Y cs vs → RelEVs (X.join Y) (cs.map (EV.sh X.h.length)) vs
  | [], [], _ => True.intro
  | _ :: _, _ :: _, h => ⟨h.1.join, RelEVs.join h.2⟩
  | [], _ :: _, h => h.elim
  | _ :: _, [], h => h.elim
theorem RelD.join {X Y : Ctx} {c : DV} {v : Value} (h : RelD Y c v) : RelD (X.join Y) (c.sh X.h.length) v := by
  cases c <;> simp only [RelD, DV.sh] at h ⊢
  case c => exact h.join
  case agg => obtain ⟨vs, h1, h2⟩ := h; exact ⟨vs, h1, h2.join⟩
  case tup => obtain ⟨vs, h1, h2⟩ := h; exact ⟨vs, h1, h2.join⟩
theorem RelB.join {X Y : Ctx} {id : Nat} {db : DB} (h : RelB Y id db) : RelB (X.join Y) (id + X.h.length) (db.sh X.h.length) := by
  cases db <;> simp only [RelB, DB.sh] at h ⊢
  case box cells =>
    obtain ⟨g, arr, el, fz, h1, h2, h3, h4, h5⟩ := h
    refine ⟨g, arr, el, fz, by rw [join_G]; exact h1, h2, by simpa using h3, h4, RelBox.mk fun j c hc => ?_⟩
    rw [List.getElem?_map] at hc
    obtain ⟨c', h6, rfl⟩ := Option.map_eq_some_iff.1 hc
    obtain ⟨v, h7, h8⟩ := h5.at_ h6
    exact ⟨v, h7, h8.join⟩
  case arr k es ro =>
    rw [join_G]; exact h

def Ctx.bare (X : Ctx) : Ctx := ⟨X.w, X.S, fun _ => none, []⟩

theorem HInv.bare {X : Ctx} (hi : HInv X) : HInv X.bare := ⟨hi.slt, fun id db h => by simp [Ctx.bare] at h, fun id db g h => by simp [Ctx.bare] at h, fun id db id' db' g g' h => by simp [Ctx.bare] at h⟩

theorem Step.join {X Y : Ctx} (hi : HInv X) (hs : Step X.bare Y) : Step X (X.join Y) := by
  have hblk : ∀ b, b < X.w.heap.size → Y.w.heap[b]? = X.w.heap[b]? := fun b hb => hs.frame b hb fun id db g h => by simp [Ctx.bare] at h
  refine ⟨hs.size, hs.os, hs.tape, hs.output, hs.kept, by simp [Ctx.join], fun i db hlt h hl => ?_, fun b hb _ => hblk b hb, fun i db g h hl hf hg => ?_, fun b hb => ?_⟩
  · rw [join_lt hlt] at h
    refine ⟨db, h, SameB.refl hl, by simp only [Ctx.join]; rw [if_pos hlt], fun g hg => ?_⟩
    rw [show (X.join Y).w.heap[g.1]? = X.w.heap[g.1]? from hblk _ (hi.block_lt h hl hg)]
    exact (hi.blk i db h).same hl g hg
  · rcases join_ge_inv h with ⟨hlt, h1⟩ | ⟨j, db', rfl, h1, rfl⟩
    · simp only [Ctx.join] at hg
      rw [if_pos hlt] at hg
      exact .inr ⟨i, db, g, h1, hl, hf, hg, rfl⟩
    · rw [join_G] at hg
      rw [DB.sh_live] at hl
      rw [DB.sh_fix] at hf
      rcases hs.mine j db' g h1 hl hf hg with h | ⟨_, _, _, h, _⟩
      · exact .inl h
      · simp [Ctx.bare] at h
  · rcases hs.upper b hb with h | h | ⟨_, _, _, h, _⟩
    · exact .inl h
    · exact .inr (.inl h)
    · simp [Ctx.bare] at h

theorem HInv.join {X Y : Ctx} (hi : HInv X) (hs : Step X.bare Y) (hy : HInv Y) : HInv (X.join Y) := by
  have hblk : ∀ b, b < X.w.heap.size → Y.w.heap[b]? = X.w.heap[b]? := fun b hb => hs.frame b hb fun id db g h => by simp [Ctx.bare] at h
  have hst := Step.join hi hs
  have hup : ∀ b, Y.S b → X.S b ∨ X.w.heap.size ≤ b := fun b hb => by
    rcases hs.upper b hb with h | h | ⟨_, _, _, h, _⟩
    · exact .inl h
    · exact .inr h
    · simp [Ctx.bare] at h
  have hmine : ∀ j db g, Y.h[j]? = some db → db.live = true → db.fix = false → Y.G j = some g → X.w.heap.size ≤ g.1 := fun j db g h1 h2 h3 h4 => by
    rcases hs.mine j db g h1 h2 h3 h4 with h | ⟨_, _, _, h, _⟩
    · exact h
    · simp [Ctx.bare] at h
  refine ⟨hy.slt, fun i db h => ?_, fun i db g h hl hg => ?_, fun i d i' d' g g' h hl hf h' hl' hg hg' he => ?_⟩
  · rcases join_ge_inv h with ⟨hlt, h1⟩ | ⟨j, db', rfl, h1, rfl⟩
    · by_cases hl : db.live = true
      · exact (hi.blk i db h1).move hst (by simp only [Ctx.join]; rw [if_pos hlt]) fun g hg => hblk _ (hi.block_lt h1 hl hg)
      · cases db <;> simp_all [DB.live, RelB]
    · exact (hy.blk j db' h1).join
  · rcases join_ge_inv h with ⟨hlt, h1⟩ | ⟨j, db', rfl, h1, rfl⟩
    · simp only [Ctx.join] at hg ⊢
      rw [if_pos hlt] at hg
      have := hi.own i db g h1 hl hg
      refine ⟨fun hf hb => ?_, fun hf => (hs.kept _ (this.2 hf)).1⟩
      rcases hup _ hb with h2 | h2
      · exact this.1 hf h2
      · have := hi.block_lt h1 hl hg; omega
    · rw [join_G] at hg
      rw [DB.sh_live] at hl
      rw [DB.sh_fix]
      exact hy.own j db' g h1 hl hg
  · rcases join_ge_inv h with ⟨hlt, h1⟩ | ⟨j, db, rfl, h1, rfl⟩ <;> rcases join_ge_inv h' with ⟨hlt', h1'⟩ | ⟨j', db', rfl, h1', rfl⟩
    · simp only [Ctx.join] at hg hg'
      rw [if_pos hlt] at hg
      rw [if_pos hlt'] at hg'
      exact hi.inj i d i' d' g g' h1 hl hf h1' hl' hg hg' he
    · simp only [Ctx.join] at hg
      rw [if_pos hlt] at hg
      rw [join_G] at hg'
      rw [DB.sh_live] at hl'
      exfalso
      have hb := hi.block_lt h1 hl hg
      by_cases hfx : db'.fix = false
      · have := hmine j' db' g' h1' hl' hfx hg'; omega
      · have hS := (hy.own j' db' g' h1' hl' hg').2 (by simpa using hfx)
        rw [← he] at hS
        rcases hup _ hS with h2 | h2
        · exact (hi.own i d g h1 hl hg).1 hf h2
        · omega
    · rw [join_G] at hg
      simp only [Ctx.join] at hg'
      rw [if_pos hlt'] at hg'
      rw [DB.sh_live] at hl
      rw [DB.sh_fix] at hf
      exfalso
      have hb := hi.block_lt h1' hl' hg'
      have := hmine j db g h1 hl hf hg
      omega
    · rw [join_G] at hg hg'
      rw [DB.sh_live] at hl hl'
      rw [DB.sh_fix] at hf
      have := hy.inj j db j' db' g g' h1 hl hf h1' hl' hg hg' he
      omega

/-- A contract stated over no memory, used in any: the rows that were handed in are immutable from then on. -/
theorem DCalls.frame {P : Program} {f : FuncId} {args args' : List DV} {R : DV → DHeap → Prop} (h : DHeap) (hp : dpures h args = some args') (hc : DCalls P f args' [] R) :
    DCalls P f args h fun d h' => ∃ d0 h0, R d0 h0 ∧ d = d0.sh h.length ∧ h' = frzs h (didss args) ++ h0.map (DB.sh h.length) := by
  intro X vals hh hi hr
  subst hh
  obtain ⟨Xf, hw, hh, hG, hst, hif, hfx⟩ := freezes (didss args) hi
  have hra : RelDs Xf.bare args' vals := dpures_rel (Y := Xf.bare) hi hst hw rfl rfl hr hp hfx
  have hlen : Xf.h.length = X.h.length := by rw [hh, frzs_length]
  have key : ∀ v w', Ret Xf.bare R v w' → Ret X (fun d h' => ∃ d0 h0, R d0 h0 ∧ d = d0.sh X.h.length ∧ h' = frzs X.h (didss args) ++ h0.map (DB.sh X.h.length)) v w' := by
    rintro v w' ⟨d, Y, h1, h2, h3, h4, h5⟩
    refine ⟨d.sh Xf.h.length, Xf.join Y, h1, HInv.join hif h3 h2, hst.trans hif (Step.join hif h3), h4.join, d, Y.h, h5, by rw [hlen], ?_⟩
    show Xf.h ++ _ = _
    rw [hlen, hh]
  have hwb : Xf.bare.w = X.w := hw
  rcases hc Xf.bare vals rfl hif.bare hra with ⟨h1, h2⟩ | ⟨v, w', h1, h2⟩
  · rw [hwb] at h1 h2
    exact .inl ⟨h1, h2.mono fun e w' ⟨v, he, hv⟩ => ⟨v, he, key v w' hv⟩⟩
  · rw [hwb] at h1
    exact .inr ⟨v, w', h1, key v w' h2⟩

/-! Results that hold no address. -/
def flatP : PV → Bool
  | .sl _ es => es.isEmpty
  | _ => true
def flatC : CV → Bool
  | .p x => flatP x
  | .clo _ [] => true
  | _ => false
def flatE : EV → Bool
  | .c x => flatC x
  | .agg xs => xs.all flatC
def flatD : DV → Bool
  | .jk => true
  | .c x => flatC x
  | .agg xs => xs.all flatC
  | .tup xs => xs.all flatE

theorem flatP_rel {w w' : World} {S S' : Nat → Prop} {x : PV} {v : Value} (hf : flatP x = true) (h : RelP w S x v) : RelP w' S' x v := by
  cases x <;> simp only [flatP] at hf <;> simp only [RelP] at h ⊢ <;> try exact h
  obtain ⟨a, c, h1, h2, _⟩ := h
  exact ⟨a, c, h1, h2, .inl (List.isEmpty_iff.1 hf)⟩
theorem flatC_rel {X Y : Ctx} {x : CV} {v : Value} (hf : flatC x = true) (h : RelC X x v) : RelC Y x v := by
  unfold flatC at hf
  split at hf
  · simp only [RelC] at h ⊢; exact flatP_rel hf h
  · simp only [RelC] at h ⊢
    obtain ⟨vs, h1, h2⟩ := h
    refine ⟨vs, h1, ?_⟩
    cases vs with
    | nil => exact True.intro
    | cons _ _ => exact h2.elim
  · cases hf
theorem flatCs_rel {X Y : Ctx} : ∀ {xs : List CV} {vs : List Value}, xs.all flatC = true → RelCs X xs vs → RelCs Y xs vs
  | [], [], _, _ => True.intro
  | _ :: _, _ :: _, hf, h => by
    simp only [List.all_cons, Bool.and_eq_true] at hf
    exact ⟨flatC_rel hf.1 h.1, flatCs_rel hf.2 h.2⟩
  | [], _ :: _, _, h => h.elim
  | _ :: _, [], _, h => h.elim
theorem flatE_rel {X Y : Ctx} {x : EV} {v : Value} (hf : flatE x = true) (h : RelEV X x v) : RelEV Y x v := by
  cases x <;> simp only [flatE] at hf <;> simp only [RelEV] at h ⊢
  · exact flatC_rel hf h
  · obtain ⟨vs, h1, h2⟩ := h; exact ⟨vs, h1, flatCs_rel hf h2⟩
theorem flatEs_rel {X Y : Ctx} : ∀ {xs : List EV} {vs : List Value}, xs.all flatE = true → RelEVs X xs vs → RelEVs Y xs vs
  | [], [], _, _ => True.intro
  | _ :: _, _ :: _, hf, h => by
    simp only [List.all_cons, Bool.and_eq_true] at hf
    exact ⟨flatE_rel hf.1 h.1, flatEs_rel hf.2 h.2⟩
  | [], _ :: _, _, h => h.elim
  | _ :: _, [], _, h => h.elim
theorem flatD_rel {X Y : Ctx} {x : DV} {v : Value} (hf : flatD x = true) (h : RelD X x v) : RelD Y x v := by
  cases x <;> simp only [flatD] at hf <;> simp only [RelD] at h ⊢
  · exact flatC_rel hf h
  · obtain ⟨vs, h1, h2⟩ := h; exact ⟨vs, h1, flatCs_rel hf h2⟩
  · obtain ⟨vs, h1, h2⟩ := h; exact ⟨vs, h1, flatEs_rel hf h2⟩

theorem HInv.hold {X : Ctx} {w' : World} (hi : HInv X) (hsz : X.w.heap.size ≤ w'.heap.size) (hos : w'.os = X.w.os) (htp : w'.tape = X.w.tape) (hou : w'.output = X.w.output)
    (hblk : ∀ b, b < X.w.heap.size → w'.heap[b]? = X.w.heap[b]?) : Step X ⟨w', X.S, X.G, X.h⟩ ∧ HInv ⟨w', X.S, X.G, X.h⟩ := by
  have hst : Step X ⟨w', X.S, X.G, X.h⟩ := by
    refine ⟨hsz, hos, htp, hou, fun b hb => ⟨hb, hblk b (hi.slt b hb)⟩, Nat.le_refl _, fun i db hlt h hl => ⟨db, h, SameB.refl hl, rfl, fun g hg => ?_⟩, fun b hb _ => hblk b hb, fun i db g h hl hf hg => .inr ⟨i, db, g, h, hl, hf, hg, rfl⟩, fun b hb => .inl hb⟩
    rw [show w'.heap[g.1]? = X.w.heap[g.1]? from hblk _ (hi.block_lt h hl hg)]
    exact (hi.blk i db h).same hl g hg
  refine ⟨hst, fun b hb => Nat.lt_of_lt_of_le (hi.slt b hb) hsz, fun i db h => ?_, hi.own, hi.inj⟩
  by_cases hl : db.live = true
  · exact (hi.blk i db h).move hst rfl fun g hg => hblk _ (hi.block_lt h hl hg)
  · cases db <;> simp_all [DB.live, RelB]

/-- A contract whose result holds no address leaves all rows as they were. -/
theorem DCalls.flat {P : Program} {f : FuncId} {args args' : List DV} {R : DV → DHeap → Prop} (h : DHeap) (hp : dpures h args = some args') (hfl : ∀ d h0, R d h0 → flatD d = true) (hc : DCalls P f args' [] R) :
    DCalls P f args h fun d h' => (∃ h0, R d h0) ∧ h' = h := by
  intro X vals hh hi hr
  subst hh
  obtain ⟨Xf, hw, hh, hG, hst, hif, hfx⟩ := freezes (didss args) hi
  have hra : RelDs Xf.bare args' vals := dpures_rel (Y := Xf.bare) hi hst hw rfl rfl hr hp hfx
  have hwb : Xf.bare.w = X.w := hw
  have key : ∀ v w', Ret Xf.bare R v w' → Ret X (fun d h' => (∃ h0, R d h0) ∧ h' = X.h) v w' := by
    rintro v w' ⟨d, Y, h1, h2, h3, h4, h5⟩
    have hsz := h3.size
    have hfr := h3.frame
    rw [hwb] at hsz hfr
    obtain ⟨h6, h7⟩ := HInv.hold (w' := Y.w) hi hsz (by rw [h3.os, hwb]) (by rw [h3.tape, hwb]) (by rw [h3.output, hwb]) fun b hb => hfr b hb fun id db g h => by simp [Ctx.bare] at h
    exact ⟨d, ⟨Y.w, X.S, X.G, X.h⟩, h1, h7, h6, flatD_rel (hfl _ _ h5) h4, ⟨_, h5⟩, rfl⟩
  rcases hc Xf.bare vals rfl hif.bare hra with ⟨h1, h2⟩ | ⟨v, w', h1, h2⟩
  · rw [hwb] at h1 h2
    exact .inl ⟨h1, h2.mono fun e w' ⟨v, he, hv⟩ => ⟨v, he, key v w' hv⟩⟩
  · rw [hwb] at h1
    exact .inr ⟨v, w', h1, key v w' h2⟩

end Go.Dm
