/-
  A row of the call's own, lent to a callee that reads it as data and answers in plain numbers, truths and strings: it stays the call's own. No condition.
-/
import Derived.Test.YtfpeelbddefhhaaGreatDoorVG
set_option linter.unusedSimpArgs false
set_option linter.unusedVariables false
set_option maxRecDepth 100000
namespace Go.Dm
open Go

def scalP : PV → Bool
  | .sl _ _ => false
  | _ => true
def scalC : CV → Bool
  | .p x => scalP x
  | _ => false
def scalE : EV → Bool
  | .c x => scalC x
  | .agg xs => xs.all scalC
def scalD : DV → Bool
  | .c x => scalC x
  | .tup xs => xs.all scalE
  | _ => false
theorem scalP_rel {w w' : World} {S S' : Nat → Prop} {x : PV} {v : Value} (hs : scalP x = true) (h : RelP w S x v) : RelP w' S' x v := by
  cases x <;> simp only [scalP, Bool.false_eq_true] at hs <;> exact h
theorem scalC_rel {X Y : Ctx} {x : CV} {v : Value} (hs : scalC x = true) (h : RelC X x v) : RelC Y x v := by
  cases x <;> simp only [scalC, Bool.false_eq_true] at hs
  exact scalP_rel hs h
theorem scalCs_rel {X Y : Ctx} : ∀ {xs : List CV} {vs : List Value}, xs.all scalC = true → RelCs X xs vs → RelCs Y xs vs
  | [], [], _, _ => True.intro
  | x :: xs, v :: vs, hs, h => by
    simp only [List.all_cons, Bool.and_eq_true] at hs
    exact ⟨scalC_rel hs.1 h.1, scalCs_rel hs.2 h.2⟩
  | [], _ :: _, _, h => h.elim
  | _ :: _, [], _, h => h.elim
theorem scalE_rel {X Y : Ctx} {x : EV} {v : Value} (hs : scalE x = true) (h : RelEV X x v) : RelEV Y x v := by
  cases x with
  | c x => exact scalC_rel hs h
  | agg xs => obtain ⟨vs, h1, h2⟩ := h; exact ⟨vs, h1, scalCs_rel hs h2⟩
theorem scalEs_rel {X Y : Ctx} : ∀ {xs : List EV} {vs : List Value}, xs.all scalE = true → RelEVs X xs vs → RelEVs Y xs vs
  | [], [], _, _ => True.intro
  | x :: xs, v :: vs, hs, h => by
    simp only [List.all_cons, Bool.and_eq_true] at hs
    exact ⟨scalE_rel hs.1 h.1, scalEs_rel hs.2 h.2⟩
  | [], _ :: _, _, h => h.elim
  | _ :: _, [], _, h => h.elim
theorem scalD_rel {X Y : Ctx} {x : DV} {v : Value} (hs : scalD x = true) (h : RelD X x v) : RelD Y x v := by
  cases x with
  | jk => cases hs
  | c x => exact scalC_rel hs h
  | agg xs => cases hs
  | tup xs => obtain ⟨vs, h1, h2⟩ := h; exact ⟨vs, h1, scalEs_rel hs h2⟩

def lendC : CV → Bool
  | .p _ => true
  | .clo _ [] => true
  | _ => false
def lendD : DV → Bool
  | .c x => lendC x
  | .agg xs => xs.all lendC
  | _ => false
theorem lendC_rel {X Y : Ctx} (hk : Kept X.w Y.w X.S Y.S) {x : CV} {v : Value} (hs : lendC x = true) (h : RelC X x v) : RelC Y x v := by
  cases x <;> simp only [lendC, Bool.false_eq_true] at hs
  case p => exact RelP.kept hk h
  case clo f cap =>
    cases cap with
    | nil =>
      obtain ⟨vs, h1, h2⟩ := h
      cases vs with
      | nil => exact ⟨[], h1, True.intro⟩
      | cons _ _ => exact h2.elim
    | cons _ _ => cases hs
theorem lendCs_rel {X Y : Ctx} (hk : Kept X.w Y.w X.S Y.S) : ∀ {xs : List CV} {vs : List Value}, xs.all lendC = true → RelCs X xs vs → RelCs Y xs vs
  | [], [], _, _ => True.intro
  | x :: xs, v :: vs, hs, h => by
    simp only [List.all_cons, Bool.and_eq_true] at hs
    exact ⟨lendC_rel hk hs.1 h.1, lendCs_rel hk hs.2 h.2⟩
  | [], _ :: _, _, h => h.elim
  | _ :: _, [], _, h => h.elim
theorem lendD_rel {X Y : Ctx} (hk : Kept X.w Y.w X.S Y.S) {x : DV} {v : Value} (hs : lendD x = true) (h : RelD X x v) : RelD Y x v := by
  cases x with
  | jk => cases hs
  | c x => exact lendC_rel hk hs h
  | agg xs => obtain ⟨vs, h1, h2⟩ := h; exact ⟨vs, h1, lendCs_rel hk hs h2⟩
  | tup xs => cases hs

def ownD (i n : Nat) : Option DV → DV
  | some d => d
  | none => .c (.own i 0 n)
def rowD (k : Nat) (es : List (List PV)) : Option DV → DV
  | some d => d
  | none => .c (.p (.sl k es))
theorem lend_rel {X Y : Ctx} (hk : Kept X.w Y.w X.S Y.S) {i n k : Nat} {es : List (List PV)} (ho : ∀ v, RelD X (.c (.own i 0 n)) v → RelD Y (.c (.p (.sl k es))) v) :
    ∀ {L : List (Option DV)} {vs : List Value}, (∀ d, some d ∈ L → lendD d = true) → RelDs X (L.map (ownD i n)) vs → RelDs Y (L.map (rowD k es)) vs
  | [], [], _, _ => True.intro
  | none :: _, _ :: _, hL, h => ⟨ho _ h.1, lend_rel hk ho (fun d hd => hL d (List.mem_cons_of_mem _ hd)) h.2⟩
  | some _ :: _, _ :: _, hL, h => ⟨lendD_rel hk (hL _ List.mem_cons_self) h.1, lend_rel hk ho (fun d hd => hL d (List.mem_cons_of_mem _ hd)) h.2⟩
  | [], _ :: _, _, h => h.elim
  | none :: _, [], _, h => h.elim
  | some _ :: _, [], _, h => h.elim

theorem DCalls.lend {P : Program} {f : FuncId} {h : DHeap} {i k n : Nat} {es : List (List PV)} (L : List (Option DV)) {R : DV → Prop} {K : DV → DHeap → Prop} (hL : ∀ d, some d ∈ L → lendD d = true)
    (hc : DCalls P f (L.map (rowD k (es.take n))) [] fun d h' => R d ∧ h' = []) (h0 : h[i]? = some (.arr k es false)) (hk : ∀ d, R d → scalD d = true ∧ K d h) :
    DCalls P f (L.map (ownD i n)) h K := by
  intro X vals hh hi gd hr
  subst hh
  have hb0 := hi.blk i _ h0
  let Y : Ctx := ⟨X.w, fun b => X.S b ∨ ∃ g, X.G i = some g ∧ b = g.1, fun _ => none, []⟩
  have hiY : HInv Y := ⟨fun b hb => by
    rcases hb with hb | ⟨g, hg, rfl⟩
    · exact hi.slt b hb
    · exact hi.block_lt h0 rfl hg, fun id db hdb => by simp [Y] at hdb, fun id db g hdb => by simp [Y] at hdb, fun id db id' db' g1 g2 hdb => by simp [Y] at hdb⟩
  have hkp : Kept X.w Y.w X.S Y.S := fun b hb => ⟨.inl hb, rfl⟩
  have gdY : Gnd P Y := by
    obtain ⟨W0, g1, g2⟩ := gd
    exact ⟨W0, g1, fun b hb => ⟨.inl (g2 b hb).1, (g2 b hb).2⟩⟩
  have hrY : RelDs Y (L.map (rowD k (es.take n))) vals := lend_rel hkp (fun v hv => by
    obtain ⟨_, _, hv⟩ := hv
    obtain ⟨hv1, hv2⟩ := hv _ _ _ h0
    have hln : (es.take n).length = n := by rw [List.length_take]; omega
    simp only [RelD, RelC, RelP]
    cases hg : X.G i with
    | none =>
      rw [hg] at hv2
      rcases hb0 with ⟨_, rfl⟩ | ⟨g', _, _, _, hq, _⟩
      · simp only [List.take_nil] at hln ⊢
        exact ⟨none, 0, hv2, Nat.le_refl _, .inl trivial⟩
      · rw [hg] at hq; cases hq
    | some g =>
      rw [hg] at hv2
      obtain ⟨cap, o, arr, el, fz, q1, q2, q3, q4, q5, q6⟩ := hv2
      refine ⟨some ⟨g.1, o, none⟩, cap, by rw [hln]; exact q2, by omega, ?_⟩
      by_cases hn : n = 0
      · subst hn; exact .inl List.take_zero
      · right
        have ho : o = g.2 := by rcases q3 with q3 | q3 <;> omega
        subst ho
        refine ⟨g.1, g.2, rfl, .inr ⟨g, hg, rfl⟩, ?_⟩
        rcases hb0 with ⟨hq, _⟩ | ⟨g', arr', el', fz', p1, p2, p3, p4, p5⟩
        · rw [hg] at hq; cases hq
        · rw [hg] at p1; cases p1
          exact (p5.take n).move hkp rfl) hL hr
  have key : ∀ v w', Ret Y (fun d h' => R d ∧ h' = []) v w' → Ret X K v w' := by
    rintro v w' ⟨d, Z, h1, h2, h3, h4, h5, h6⟩
    obtain ⟨hs, hK⟩ := hk d h5
    have hfr : ∀ b, b < X.w.heap.size → Z.w.heap[b]? = X.w.heap[b]? := fun b hb => h3.frame b hb fun id db g hdb => by simp [Y] at hdb
    have hno : ∀ g, X.G i = some g → ¬ X.S g.1 := fun g hg => (hi.own i _ g h0 rfl hg).1 rfl
    let Z' : Ctx := ⟨Z.w, fun b => Z.S b ∧ ∀ g, X.G i = some g → b ≠ g.1, X.G, X.h⟩
    have hst : Step X Z' := by
      refine ⟨h3.size, h3.os, h3.tape, h3.output, fun b hb => ⟨⟨(h3.kept b (.inl hb)).1, fun g hg e => hno g hg (e ▸ hb)⟩, (h3.kept b (.inl hb)).2⟩, Nat.le_refl _, fun id db' hl' hdb' hlv => ⟨db', hdb', SameB.refl hlv, rfl, fun g' hg' => ?_⟩, fun b hb _ => hfr b hb, fun id db g' hdb hl hf hg' => .inr ⟨id, db, g', hdb, hl, hf, hg', rfl⟩, fun b hb => ?_⟩
      · rw [show Z'.w.heap[g'.1]? = X.w.heap[g'.1]? from hfr _ (hi.block_lt hdb' hlv hg')]
        exact (hi.blk id db' hdb').same hlv g' hg'
      · obtain ⟨hb1, hb2⟩ := hb
        rcases h3.upper b hb1 with h | h | ⟨id, db, g', hdb, _⟩
        · rcases h with h | ⟨g, hg, e⟩
          · exact .inl h
          · exact absurd e (hb2 g hg)
        · exact .inr (.inl h)
        · simp [Y] at hdb
    have hi' : HInv Z' := by
      refine ⟨fun b hb => h2.slt b hb.1, fun id db hdb => ?_, fun id db g' hdb hl hg' => ?_, fun id db id' db' g1 g2 hdb hl hf hdb' hl' hg1 hg2 he => hi.inj id db id' db' g1 g2 hdb hl hf hdb' hl' hg1 hg2 he⟩
      · by_cases hl : db.live = true
        · exact (hi.blk id db hdb).move hst rfl fun g' hg' => hfr _ (hi.block_lt hdb hl hg')
        · cases db with
          | dead => simp only [RelB]
          | box _ => exact absurd rfl hl
          | arr _ _ _ => exact absurd rfl hl
      · have ho := hi.own id db g' hdb hl hg'
        refine ⟨fun hf hS => ?_, fun hf => ⟨(h3.kept _ (.inl (ho.2 hf))).1, fun g hg e => hno g hg (e ▸ ho.2 hf)⟩⟩
        rcases h3.upper _ hS.1 with h | h | ⟨j, d', g2, hdb2, _⟩
        · rcases h with h | ⟨g, hg, e⟩
          · exact ho.1 hf h
          · exact hS.2 g hg e
        · have := hi.block_lt hdb hl hg'
          have hYw : Y.w.heap.size = X.w.heap.size := rfl
          omega
        · simp [Y] at hdb2
    exact ⟨d, Z', h1, hi', hst, scalD_rel hs h4, hK⟩
  rcases hc Y _ rfl hiY gdY hrY with ⟨h1, h2⟩ | ⟨v, w', h1, h2⟩
  · exact .inl ⟨h1, h2.mono fun e w' ⟨v, he, hv⟩ => ⟨v, he, key v w' hv⟩⟩
  · exact .inr ⟨v, w', h1, key v w' h2⟩

theorem useO2 {P : Program} {f : FuncId} {h : DHeap} {i k n : Nat} {es es0 : List (List PV)} {x : DV} {R : DV → Prop} {K : DV → DHeap → Prop} (hx : lendD x = true) (hes : es.take n = es0)
    (hc : DCalls P f [.c (.p (.sl k es0)), x] [] fun d h' => R d ∧ h' = []) (h0 : h[i]? = some (.arr k es false)) (hk : ∀ d, R d → scalD d = true ∧ K d h) : DCalls P f [.c (.own i 0 n), x] h K := by
  subst hes
  exact DCalls.lend [none, some x] (by simpa using hx) hc h0 hk
end Go.Dm
