/-
  The engine, part 15: code seen from data: rules for regions, sequences, tests, blocks, loops; and how a function's contract follows from its body. No condition beyond the table of types being the program's.
-/
import Derived.Test.YtomaddpcacoodaaE14
import Derived.Deep.LoopGhost
set_option linter.unusedSimpArgs false
set_option linter.unusedVariables false
namespace Go.Dm
open Go

structure TInv (X : Ctx) (s : DS) (a : Act) : Prop where
  size : a.tmps.size = s.n
  rel : ∀ i : Nat, RelD X (look s.t i) (a.tmps.getD i undef)
  defs : a.defers = []

theorem TInv.step {X X' : Ctx} (hs : Step X X') {s : DS} {a : Act} (h : TInv X s a) : TInv X' s a := ⟨h.size, fun i => (h.rel i).step hs, h.defs⟩
theorem TInv.ev {X : Ctx} {s : DS} {a : Act} (h : TInv X s a) (x : Operand) : RelD X (evD s.t x) (a.eval x) := evD_rel h.rel x

theorem TInv.put {X : Ctx} {s : DS} {a : Act} (h : TInv X s a) {d : DV} {v : Value} (hd : RelD X d v) (o : Option Tmp) (h' : DHeap) : TInv X (s.put o d h') (a.put o v) := by
  cases o with
  | none => exact ⟨h.size, h.rel, h.defs⟩
  | some i =>
    simp only [Act.put, DS.put]
    by_cases hlt : i < s.n
    · rw [if_pos hlt]
      refine ⟨by simp [h.size], fun j => ?_, h.defs⟩
      simp only [look]
      rw [Array.getD_eq_getD_getElem?]
      by_cases hij : j = i
      · subst hij
        rw [if_pos rfl, Array.getElem?_setIfInBounds_self_of_lt (by rw [h.size]; exact hlt)]
        exact hd
      · rw [if_neg hij, Array.getElem?_setIfInBounds_ne (fun e => hij e.symm), ← Array.getD_eq_getD_getElem?]
        exact h.rel j
    · rw [if_neg hlt]
      refine ⟨by simp [h.size], fun j => ?_, h.defs⟩
      have := h.rel j
      have hset : a.tmps.setIfInBounds i v = a.tmps := Array.setIfInBounds_eq_of_size_le (by rw [h.size]; exact Nat.le_of_not_lt hlt)
      rw [hset]; exact this

/-- What holds behind a piece of code. -/
def Post (X0 : Ctx) (Q : Exit → DS → Prop) : Exit → Act → World → Prop := fun e a w => ∃ s X, Q e s ∧ X.w = w ∧ X.h = s.h ∧ HInv X ∧ Step X0 X ∧ TInv X s a

/-- A piece of code, run from whatever reads as s, ends as Q says. -/
def SWP (P : Program) (X0 : Ctx) (c : Code) (s : DS) (Q : Exit → DS → Prop) : Prop :=
  ∀ (X : Ctx) (a : Act), X.h = s.h → HInv X → Step X0 X → TInv X s a → c.wp P (Post X0 Q) a X.w

section rules
variable {P : Program} {T : Tab} {X0 : Ctx} {s : DS} {Q : Exit → DS → Prop}

theorem dops_sound (hT : TabOK P T) {ops : Array Oper} : ∀ (l : List Oper) {s : DS} {X : Ctx} {a : Act}, X.h = s.h → HInv X → Step X0 X → TInv X s a → dops P T ops l s (fun s' => Q .normal s') → wpList P ops (Post X0 Q) l a X.w
  | [], s, X, a, hh, hi, hs, ht, h => wpList_nil ⟨s, X, h, rfl, hh, hi, hs, ht⟩
  | o :: rest, s, X, a, hh, hi, hs, ht, h => by
    refine wpList_step fun K hK => ?_
    have go : dop P T o.op s.t s.h (fun d h' => dops P T ops rest (s.put o.dst d h') (fun s' => Q .normal s')) → o.wp P a X.w K (Post X0 Q) := by
      intro hd
      rw [← hh] at hd
      refine dop_sound hT hi ht.ev hd fun d v X' h1 h2 h3 h4 => hK _ _ ?_
      refine dops_sound hT rest (s := s.put o.dst d X'.h) ?_ h1 (hs.trans hi h2) ?_ h4
      · unfold DS.put; split <;> (try split) <;> rfl
      · exact (ht.step h2).put h3 o.dst X'.h
    have skip : dops P T ops rest (s.put o.dst (.tup []) s.h) (fun s' => Q .normal s') → K (a.put o.dst undef) X.w := by
      intro hd
      refine hK _ _ (dops_sound hT rest (s := s.put o.dst (.tup []) s.h) (by rw [hh]; unfold DS.put; split <;> (try split) <;> rfl) hi hs (ht.put (d := .tup []) (v := undef) ⟨[], rfl, True.intro⟩ o.dst s.h) hd)
    simp only [dops] at h
    split at h
    · rename_i hg
      rw [if_pos (by simp [Region.wanted, hg])]
      exact go h
    · rename_i j want hg
      have hy : ∀ d, ((ops[j]?).bind (·.dst)).map (fun i => look s.t i) = some d → ∃ i, (ops[j]?).bind (·.dst) = some i ∧ RelD X d (a.tmps.getD i undef) := by
        intro d hd
        obtain ⟨i, h1, h2⟩ := Option.map_eq_some_iff.1 hd
        exact ⟨i, h1, h2 ▸ ht.rel i⟩
      split at h
      · rename_i v hd
        obtain ⟨i, h1, h3⟩ := hy _ hd
        simp only [RelD, RelC, RelP] at h3
        have hv : a.tmps[i]? = some (.bool v) := by
          rcases Nat.lt_or_ge i a.tmps.size with hlt' | hge
          · rw [Array.getElem?_eq_getElem hlt']
            simp only [Array.getD, hlt', dif_pos] at h3
            congr 1
          · rw [Array.getD_eq_getD_getElem?, Array.getElem?_eq_none hge] at h3
            cases h3
        have hyd : yielded ops a.tmps j = some v := by
          unfold yielded
          rw [h1]
          simp only [Option.bind_some, hv]
        by_cases hw : v = want
        · rw [if_pos (by simp [Region.wanted, hg, hyd, hw])]
          exact go (h.1 hw)
        · rw [if_neg (by simp [Region.wanted, hg, hyd, hw])]
          exact skip (h.2 hw)
      · rename_i hd
        obtain ⟨i, h1, vs, hv, hr⟩ := hy _ hd
        have hvs : vs = [] := by
          cases vs with
          | nil => rfl
          | cons _ _ => exact hr.elim
        subst hvs
        have hyd : yielded ops a.tmps j = none := by
          unfold yielded
          rw [h1]
          simp only [Option.bind_some]
          rw [Array.getD_eq_getD_getElem?] at hv
          cases hx : a.tmps[i]? with
          | none => rfl
          | some u => rw [hx] at hv; simp only [Option.getD_some] at hv; rw [hv]
        rw [if_neg (by simp [Region.wanted, hg, hyd])]
        exact skip h
      · exact h.elim

theorem swp_region (hT : TabOK P T) {id : Nat} {ops : Array Oper} (h : dops P T ops ops.toList s (fun s' => Q .normal s')) : SWP P X0 (.region id ops false) s Q :=
  fun _ _ hh hi hs ht => wp_region_list (dops_sound hT ops.toList hh hi hs ht h)

theorem swp_mono {c : Code} {Q' : Exit → DS → Prop} (h : SWP P X0 c s Q) (hq : ∀ e s, Q e s → Q' e s) : SWP P X0 c s Q' :=
  fun X a hh hi hs ht => wp_mono (h X a hh hi hs ht) fun _ _ _ ⟨s', X', h1, h2⟩ => ⟨s', X', hq _ _ h1, h2⟩

theorem swp_seq {x y : Code} (h : SWP P X0 x s fun e s' => match e with | .normal => SWP P X0 y s' Q | e => Q e s') : SWP P X0 (.seq x y) s Q := by
  intro X a hh hi hs ht
  refine wp_seq (wp_mono (h X a hh hi hs ht) fun e a w hp => ?_)
  obtain ⟨s', X', h1, rfl, h3, h4, h5, h6⟩ := hp
  cases e <;> simp only [Exit.then] at h1 ⊢
  case normal => exact h1 X' a h3 h4 h5 h6
  all_goals exact ⟨s', X', h1, rfl, h3, h4, h5, h6⟩

theorem swp_skip (h : Q .normal s) : SWP P X0 .skip s Q := fun X _ hh hi hs ht => wp_skip ⟨s, X, h, rfl, hh, hi, hs, ht⟩
theorem swp_ret (h : Q .ret s) : SWP P X0 .ret s Q := fun X _ hh hi hs ht => wp_ret ⟨s, X, h, rfl, hh, hi, hs, ht⟩
theorem swp_exit {id : Nat} (h : Q (.exit id) s) : SWP P X0 (.exit id) s Q := fun X _ hh hi hs ht => wp_exit ⟨s, X, h, rfl, hh, hi, hs, ht⟩

theorem swp_cond {c : Operand} {x y : Code} {t : Bool} (hc : evD s.t c = .c (.p (.b t))) (h1 : t = true → SWP P X0 x s Q) (h2 : t = false → SWP P X0 y s Q) : SWP P X0 (.cond c x y) s Q := by
  intro X a hh hi hs ht
  have := ht.ev c
  rw [hc] at this
  simp only [RelD, RelC, RelP] at this
  exact wp_cond_split this (fun e => h1 e X a hh hi hs ht) (fun e => h2 e X a hh hi hs ht)

theorem swp_block {id : Nat} {c : Code} (h : SWP P X0 c s fun e s' => match e with | .exit id' => if id' = id then Q .normal s' else Q (.exit id') s' | e => Q e s') : SWP P X0 (.block id c) s Q := by
  intro X a hh hi hs ht
  refine wp_block (wp_mono (h X a hh hi hs ht) fun e a w hp => ?_)
  obtain ⟨s', X', h1, rfl, h3, h4, h5, h6⟩ := hp
  cases e <;> simp only [Exit.inBlock] at h1 ⊢
  case exit id' =>
    split
    · rename_i he
      rw [if_pos he] at h1
      exact ⟨s', X', h1, rfl, h3, h4, h5, h6⟩
    · rename_i he
      rw [if_neg he] at h1
      exact ⟨s', X', h1, rfl, h3, h4, h5, h6⟩
  all_goals exact ⟨s', X', h1, rfl, h3, h4, h5, h6⟩

/-! Less said of a state. -/
def closedK (n : Nat) : KV → Bool
  | .p _ => true
  | .ptr id _ => decide (id < n)
def closedC (n : Nat) : CV → Bool
  | .p _ => true
  | .own id _ _ => decide (id < n)
  | .ptr id _ => decide (id < n)
  | .aptr id _ _ => decide (id < n)
  | .eptr _ => true
  | .clo _ cap => cap.all (closedK n)
def closedE (n : Nat) : EV → Bool
  | .c x => closedC n x
  | .agg xs => xs.all (closedC n)
def closedD (n : Nat) : DV → Bool
  | .jk => true
  | .c x => closedC n x
  | .agg xs => xs.all (closedC n)
  | .tup xs => xs.all (closedE n)
def closedB (n : Nat) : DB → Bool
  | .dead => true
  | .box cells => cells.all (closedC n)
  | .arr _ _ _ => true

def Ctx.cut (X : Ctx) (n : Nat) : Ctx := ⟨X.w, X.S, X.G, X.h.take n⟩

theorem cut_some {X : Ctx} {n i : Nat} {db : DB} (h : (X.cut n).h[i]? = some db) : X.h[i]? = some db ∧ i < n := by
  simp only [Ctx.cut] at h
  rw [List.getElem?_take] at h
  split at h
  · rename_i hlt; exact ⟨h, hlt⟩
  · cases h

theorem cut_len {X : Ctx} {n i : Nat} (h1 : i < X.h.length) (h2 : i < n) : i < (X.cut n).h.length := by simp only [Ctx.cut, List.length_take]; omega

theorem RelK.cut {X : Ctx} {n : Nat} {c : KV} {v : Value} (hc : closedK n c = true) (h : RelK X c v) : RelK (X.cut n) c v := by
  cases c <;> simp only [closedK, decide_eq_true_eq] at hc <;> simp only [RelK] at h ⊢
  case p => exact h
  case ptr id off => exact ⟨cut_len h.1 hc, h.2.1, fun cells hh => h.2.2 cells (cut_some hh).1⟩
theorem RelKs.cut {X : Ctx} {n : Nat} : ∀ {cs : List KV} {vs : List Value}, cs.all (closedK n) = true → RelKs X cs vs → RelKs (X.cut n) cs vs
  | [], [], _, _ => True.intro
  | _ :: _, _ :: _, hc, h => by
    simp only [List.all_cons, Bool.and_eq_true] at hc
    exact ⟨h.1.cut hc.1, RelKs.cut hc.2 h.2⟩
  | [], _ :: _, _, h => h.elim
  | _ :: _, [], _, h => h.elim
theorem RelC.cut {X : Ctx} {n : Nat} {c : CV} {v : Value} (hc : closedC n c = true) (h : RelC X c v) : RelC (X.cut n) c v := by
  cases c <;> simp only [closedC, decide_eq_true_eq] at hc <;> simp only [RelC] at h ⊢
  case p => exact h
  case own id off len => exact ⟨cut_len h.1 hc, h.2.1, fun k es ro hh => h.2.2 k es ro (cut_some hh).1⟩
  case ptr id off => exact ⟨cut_len h.1 hc, h.2.1, fun cells hh => h.2.2 cells (cut_some hh).1⟩
  case aptr id i j => exact ⟨cut_len h.1 hc, h.2.1, fun k es ro hh => h.2.2 k es ro (cut_some hh).1⟩
  case eptr => exact h
  case clo f cap => obtain ⟨vs, h1, h2⟩ := h; exact ⟨vs, h1, h2.cut hc⟩
theorem RelCs.cut {X : Ctx} {n : Nat} : ∀ {cs : List CV} {vs : List Value}, cs.all (closedC n) = true → RelCs X cs vs → RelCs (X.cut n) cs vs
  | [], [], _, _ => True.intro
  | _ :: _, _ :: _, hc, h => by
    simp only [List.all_cons, Bool.and_eq_true] at hc
    exact ⟨h.1.cut hc.1, RelCs.cut hc.2 h.2⟩
  | [], _ :: _, _, h => h.elim
  | _ :: _, [], _, h => h.elim
theorem RelEV.cut {X : Ctx} {n : Nat} {c : EV} {v : Value} (hc : closedE n c = true) (h : RelEV X c v) : RelEV (X.cut n) c v := by
  cases c <;> simp only [closedE] at hc <;> simp only [RelEV] at h ⊢
  · exact h.cut hc
  · obtain ⟨vs, h1, h2⟩ := h; exact ⟨vs, h1, h2.cut hc⟩
theorem RelEVs.cut {X : Ctx} {n : Nat} : ∀ {cs : List EV} {vs : List Value}, cs.all (closedE n) = true → RelEVs X cs vs → RelEVs (X.cut n) cs vs
  | [], [], _, _ => True.intro
  | _ :: _, _ :: _, hc, h => by
    simp only [List.all_cons, Bool.and_eq_true] at hc
    exact ⟨h.1.cut hc.1, RelEVs.cut hc.2 h.2⟩
  | [], _ :: _, _, h => h.elim
  | _ :: _, [], _, h => h.elim
theorem RelD.cut {X : Ctx} {n : Nat} {d : DV} {v : Value} (hc : closedD n d = true) (h : RelD X d v) : RelD (X.cut n) d v := by
  cases d <;> simp only [closedD] at hc <;> simp only [RelD] at h ⊢
  · exact h.cut hc
  · obtain ⟨vs, h1, h2⟩ := h; exact ⟨vs, h1, h2.cut hc⟩
  · obtain ⟨vs, h1, h2⟩ := h; exact ⟨vs, h1, h2.cut hc⟩

theorem all_at {α : Type} {p : α → Bool} {l : List α} {i : Nat} {x : α} (h : l.all p = true) (hx : l[i]? = some x) : p x = true := List.all_eq_true.1 h x (List.mem_of_getElem? hx)

theorem HInv.cut {X : Ctx} (hi : HInv X) {n : Nat} (hc : (X.h.take n).all (closedB n) = true) : HInv (X.cut n) where
  slt := hi.slt
  blk := fun id db h => by
    have hcl := all_at hc h
    obtain ⟨h1, h2⟩ := cut_some h
    have hb := hi.blk id db h1
    cases db <;> simp only [RelB] at hb ⊢
    case box cells =>
      obtain ⟨g, arr, el, fz, h3, h4, h5, h6, h7⟩ := hb
      refine ⟨g, arr, el, fz, h3, h4, h5, h6, RelBox.mk fun j c hj => ?_⟩
      obtain ⟨v, h8, h9⟩ := h7.at_ hj
      exact ⟨v, h8, h9.cut (all_at (show cells.all (closedC n) = true from hcl) hj)⟩
    case arr => exact hb
  own := fun id db g h hl hg => hi.own id db g (cut_some h).1 hl hg
  inj := fun id db id' db' g g' h hl hf h' hl' hg hg' he => hi.inj id db id' db' g g' (cut_some h).1 hl hf (cut_some h').1 hl' hg hg' he

theorem Step.cut {X0 X : Ctx} (hs : Step X0 X) {n : Nat} (hn : X0.h.length ≤ n) : Step X0 (X.cut n) where
  size := hs.size
  os := hs.os
  tape := hs.tape
  output := hs.output
  kept := hs.kept
  len := by simp only [Ctx.cut, List.length_take]; have := hs.len; omega
  ids := fun id db' hid h hl => hs.ids id db' hid (cut_some h).1 hl
  frame := hs.frame
  mine := fun id db g h hl hf hg => hs.mine id db g (cut_some h).1 hl hf hg
  upper := hs.upper

/-- What is said of a frame's slots is so of another one's. -/
def WkT (n : Nat) (t : Fr) : Fr → Prop
  | [] => True
  | p :: t' => (look t p.1 = p.2 ∧ closedD n p.2 = true) ∧ WkT n t t'

theorem WkT.look {n : Nat} {t : Fr} : ∀ {t' : Fr}, WkT n t t' → ∀ i, look t' i = .jk ∨ (look t' i = Dm.look t i ∧ closedD n (look t' i) = true)
  | [], _, _ => .inl rfl
  | p :: t', h, i => by
    simp only [Dm.look]
    split
    · rename_i hi
      subst hi
      exact .inr ⟨h.1.1.symm, h.1.2⟩
    · exact WkT.look h.2 i

/-- Weaker: slots forgotten, numbers from the end let go. -/
def Weak (n0 : Nat) (s s' : DS) : Prop := s'.n = s.n ∧ n0 ≤ s'.h.length ∧ s'.h = s.h.take s'.h.length ∧ s'.h.all (closedB s'.h.length) = true ∧ WkT s'.h.length s.t s'.t

theorem Weak.use {n0 : Nat} {s s' : DS} (h : Weak n0 s s') {X0 X : Ctx} {a : Act} (hn : X0.h.length = n0) (hh : X.h = s.h) (hi : HInv X) (hs : Step X0 X) (ht : TInv X s a) : ∃ X', X'.w = X.w ∧ X'.h = s'.h ∧ HInv X' ∧ Step X0 X' ∧ TInv X' s' a := by
  obtain ⟨h0, h1, h2, h3, h4⟩ := h
  have hcut : (X.cut s'.h.length).h = s'.h := by simp only [Ctx.cut]; rw [hh]; exact h2.symm
  refine ⟨X.cut s'.h.length, rfl, hcut, hi.cut (by rw [hh, ← h2]; exact h3), hs.cut (by omega), ht.size.trans h0.symm, fun i => ?_, ht.defs⟩
  rcases h4.look i with h5 | ⟨h5, h6⟩
  · rw [h5]; exact True.intro
  · have := ht.rel i
    rw [← h5] at this
    exact this.cut h6

theorem swp_weak {c : Code} {s' : DS} (hw : Weak X0.h.length s s') (h : SWP P X0 c s' Q) : SWP P X0 c s Q := by
  intro X a hh hi hs ht
  obtain ⟨X', h1, h2, h3, h4, h5⟩ := hw.use rfl hh hi hs ht
  rw [← h1]
  exact h X' a h2 h3 h4 h5

/-- A nil slice in a frame taken as an empty row. -/
theorem swp_virt {c : Code} (i k : Nat) (hn : look s.t i = .c (.p .nil)) (h : SWP P X0 c ⟨s.n, (i, .c (.own s.h.length 0 0)) :: s.t, s.h ++ [.arr k [] false]⟩ Q) : SWP P X0 c s Q := by
  intro X a hh hi hs ht
  obtain ⟨h1, h2⟩ := virt hi k
  refine h (X.virt k) a (by simp [Ctx.virt, hh]) h2 (hs.trans hi h1) ⟨ht.size, fun j => ?_, ht.defs⟩
  simp only [look]
  split
  · rename_i hij
    subst hij
    have := ht.rel j
    rw [hn] at this
    rw [← hh]
    exact relC (virt_nil (X := X) (k := k) this)
  · exact (ht.rel j).step h1

theorem swp_loop {α : Type} {c : Code} (I : α → DS) (J : α → Prop) (μ : α → Nat) (x0 : α) (hJ : J x0) (hw : Weak X0.h.length s (I x0))
    (h : ∀ x, J x → SWP P X0 c (I x) fun e s' => match e with | .normal => ∃ y, J y ∧ μ y < μ x ∧ Weak X0.h.length s' (I y) | e => Q e s') : SWP P X0 (.loop c) s Q := by
  intro X a hh hi hs ht
  obtain ⟨X', h1, h2, h3, h4, h5⟩ := hw.use rfl hh hi hs ht
  rw [← h1]
  refine wp_loop_ghost (fun n a w => ∃ x X, μ x = n ∧ J x ∧ X.w = w ∧ X.h = (I x).h ∧ HInv X ∧ Step X0 X ∧ TInv X (I x) a) (μ x0) ⟨x0, X', rfl, hJ, rfl, h2, h3, h4, h5⟩ ?_
  rintro n a' w' ⟨x, Y, rfl, k1, rfl, k2, k3, k4, k5⟩
  refine wp_mono (h x k1 Y a' k2 k3 k4 k5) fun e a w hp => ?_
  obtain ⟨s', Z, p1, rfl, p3, p4, p5, p6⟩ := hp
  cases e <;> simp only [Exit.then] at p1 ⊢
  case normal =>
    obtain ⟨y, q1, q2, q3⟩ := p1
    obtain ⟨Z', r1, r2, r3, r4, r5⟩ := q3.use rfl p3 p4 p5 p6
    exact ⟨μ y, q2, y, Z', rfl, q1, r1, r2, r3, r4, r5⟩
  all_goals exact ⟨s', Z, p1, rfl, p3, p4, p5, p6⟩

end rules

end Go.Dm
