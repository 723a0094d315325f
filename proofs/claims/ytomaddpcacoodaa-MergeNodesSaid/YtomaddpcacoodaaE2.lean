/-
  The engine, part 2: what is seen from within a call: cells, frames, the invariant of memory, and how one moment leads to a later one. No condition: definitions and small laws.
-/
import Derived.Test.YtomaddpcacoodaaE1
set_option linter.unusedSimpArgs false
set_option linter.unusedVariables false
namespace Go.Dm
open Go

def RelK (X : Ctx) : KV → Value → Prop
  | .p x, v => RelP X.w X.S x v
  | .ptr id off, v => id < X.h.length ∧ v.oneCell' = true ∧ ∀ cells, X.h[id]? = some (.box cells) → ∃ g, X.G id = some g ∧ v = .pointer (some ⟨g.1, g.2 + off, none⟩)

def RelKs (X : Ctx) : List KV → List Value → Prop
  | [], [] => True
  | c :: cs, v :: vs => RelK X c v ∧ RelKs X cs vs
  | _, _ => False

def RelC (X : Ctx) : CV → Value → Prop
  | .p x, v => RelP X.w X.S x v
  | .own id off len, v => id < X.h.length ∧ v.oneCell' = true ∧ ∀ k es ro, X.h[id]? = some (.arr k es ro) →
      off + len ≤ es.length ∧ (match X.G id with
        | none => v = .slice none 0 0
        | some g => ∃ cap o arr el fz, X.w.heap[g.1]? = some (.cells arr el fz) ∧ v = .slice (some ⟨g.1, o, none⟩) len cap ∧ (cap = 0 ∨ o = g.2 + off * k) ∧ len ≤ cap ∧ cap ≤ maxLen ∧ g.2 + (off + cap) * k ≤ arr.size)
  | .ptr id off, v => id < X.h.length ∧ v.oneCell' = true ∧ ∀ cells, X.h[id]? = some (.box cells) → ∃ g, X.G id = some g ∧ v = .pointer (some ⟨g.1, g.2 + off, none⟩)
  | .aptr id i j, v => id < X.h.length ∧ v.oneCell' = true ∧ ∀ k es ro, X.h[id]? = some (.arr k es ro) → ∃ g, X.G id = some g ∧ v = .pointer (some ⟨g.1, g.2 + i * k + j, none⟩)
  | .eptr cs, v => ∃ bl off, v = .pointer (some ⟨bl, off, none⟩) ∧ X.S bl ∧ RelE X.w X.S bl off cs
  | .clo f cap, v => ∃ vs : List Value, v = .func (.func f) #[] vs.toArray ∧ RelKs X cap vs

def RelCs (X : Ctx) : List CV → List Value → Prop
  | [], [] => True
  | c :: cs, v :: vs => RelC X c v ∧ RelCs X cs vs
  | _, _ => False

def RelEV (X : Ctx) : EV → Value → Prop
  | .c x, v => RelC X x v
  | .agg xs, v => ∃ vs : List Value, v = .agg vs.toArray ∧ RelCs X xs vs

def RelEVs (X : Ctx) : List EV → List Value → Prop
  | [], [] => True
  | c :: cs, v :: vs => RelEV X c v ∧ RelEVs X cs vs
  | _, _ => False

def RelD (X : Ctx) : DV → Value → Prop
  | .jk, _ => True
  | .c x, v => RelC X x v
  | .agg xs, v => ∃ vs : List Value, v = .agg vs.toArray ∧ RelCs X xs vs
  | .tup xs, v => ∃ vs : List Value, v = .tuple vs.toArray ∧ RelEVs X xs vs

def RelDs (X : Ctx) : List DV → List Value → Prop
  | [], [] => True
  | c :: cs, v :: vs => RelD X c v ∧ RelDs X cs vs
  | _, _ => False

theorem oneCell_of_relC {X : Ctx} {x : CV} {v : Value} (h : RelC X x v) : v.oneCell' = true := by
  cases x <;> simp only [RelC] at h
  case p => exact oneCell_of_relP h
  case own => exact h.2.1
  case ptr => exact h.2.1
  case aptr => exact h.2.1
  case eptr => obtain ⟨_, _, rfl, _⟩ := h; rfl
  case clo => obtain ⟨_, rfl, _⟩ := h; rfl

/-- No cell of block 'b' from 'lo' up to 'hi' is marked as a string's. -/
def Free (fz : Nat × Nat) (_lo hi : Nat) : Prop := fz.1 = fz.2 ∨ hi ≤ fz.1
theorem Free.at_ {fz : Nat × Nat} {lo hi : Nat} (h : Free fz lo hi) (o : Nat) (_ : lo ≤ o) (h2 : o < hi) : ¬ (fz.1 ≤ o ∧ o < fz.2) := by
  rcases h with h | h <;> omega

/-- The cells of a box, as they lie. -/
def RelBox (X : Ctx) (bl : Nat) : Nat → List CV → Prop
  | _, [] => True
  | off, c :: cs => (∃ v, X.w.cell? ⟨bl, off, none⟩ = some v ∧ RelC X c v) ∧ RelBox X bl (off + 1) cs

def RelB (X : Ctx) (id : Nat) : DB → Prop
  | .dead => True
  | .box cells => ∃ g arr el fz, X.G id = some g ∧ X.w.heap[g.1]? = some (.cells arr el fz) ∧ g.2 + cells.length ≤ arr.size ∧ Free fz g.2 arr.size ∧ RelBox X g.1 g.2 cells
  | .arr k es _ => (X.G id = none ∧ es = []) ∨ ∃ g arr el fz, X.G id = some g ∧ X.w.heap[g.1]? = some (.cells arr el fz) ∧ g.2 + es.length * k ≤ arr.size ∧ Free fz g.2 arr.size ∧ RelL X.w X.S k g.1 g.2 es

structure HInv (X : Ctx) : Prop where
  slt : ∀ b, X.S b → b < X.w.heap.size
  blk : ∀ id db, X.h[id]? = some db → RelB X id db
  own : ∀ id db g, X.h[id]? = some db → db.live = true → X.G id = some g → (db.fix = false → ¬ X.S g.1) ∧ (db.fix = true → X.S g.1)
  inj : ∀ id db id' db' g g', X.h[id]? = some db → db.live = true → db.fix = false → X.h[id']? = some db' → db'.live = true → X.G id = some g → X.G id' = some g' → g.1 = g'.1 → id = id'

/-- What a later block bears of an earlier one under the same number. -/
def SameB : DB → DB → Prop
  | .box _, .box _ => True
  | .arr k es _, .arr k' es' _ => k' = k ∧ es.length ≤ es'.length
  | _, _ => False

/-- Two contents of one block of memory that go for the same to whoever holds an address in it. -/
def SameO (o o' : Option Obj) : Prop := ∃ arr el fz arr' el' fz', o = some (.cells arr el fz) ∧ o' = some (.cells arr' el' fz') ∧ arr'.size = arr.size

structure Step (X X' : Ctx) : Prop where
  size : X.w.heap.size ≤ X'.w.heap.size
  os : X'.w.os = X.w.os
  tape : X'.w.tape = X.w.tape
  output : X'.w.output = X.w.output
  kept : Kept X.w X'.w X.S X'.S
  len : X.h.length ≤ X'.h.length
  ids : ∀ id db', id < X.h.length → X'.h[id]? = some db' → db'.live = true → ∃ db, X.h[id]? = some db ∧ SameB db db' ∧ X'.G id = X.G id ∧ ∀ g, X.G id = some g → SameO (X.w.heap[g.1]?) (X'.w.heap[g.1]?)
  frame : ∀ b, b < X.w.heap.size → (∀ id db g, X.h[id]? = some db → db.live = true → db.fix = false → X.G id = some g → g.1 ≠ b) → X'.w.heap[b]? = X.w.heap[b]?
  mine : ∀ id db g, X'.h[id]? = some db → db.live = true → db.fix = false → X'.G id = some g → X.w.heap.size ≤ g.1 ∨ ∃ id0 db0 g0, X.h[id0]? = some db0 ∧ db0.live = true ∧ db0.fix = false ∧ X.G id0 = some g0 ∧ g0.1 = g.1
  upper : ∀ b, X'.S b → X.S b ∨ X.w.heap.size ≤ b ∨ ∃ id db g, X.h[id]? = some db ∧ db.live = true ∧ X.G id = some g ∧ g.1 = b

theorem SameB.live {a b : DB} (h : SameB a b) : a.live = true := by cases a <;> cases b <;> simp_all [SameB, DB.live]
theorem SameB.trans {a b c : DB} (h : SameB a b) (k : SameB b c) : SameB a c := by
  cases a <;> cases b <;> cases c <;> simp_all [SameB]
  omega
theorem SameO.trans {a b c : Option Obj} (h : SameO a b) (k : SameO b c) : SameO a c := by
  obtain ⟨a1, e1, f1, a2, e2, f2, rfl, rfl, hs⟩ := h
  obtain ⟨a3, e3, f3, a4, e4, f4, h3, rfl, hs'⟩ := k
  injection h3 with h3
  injection h3 with h3 _ _
  subst h3
  exact ⟨_, _, _, _, _, _, rfl, rfl, hs'.trans hs⟩

theorem Kept.refl (w : World) (S : Nat → Prop) : Kept w w S S := fun _ h => ⟨h, rfl⟩
theorem Kept.trans {a b c : World} {S T U : Nat → Prop} (h : Kept a b S T) (k : Kept b c T U) : Kept a c S U :=
  fun x hx => ⟨(k x (h x hx).1).1, (k x (h x hx).1).2.trans (h x hx).2⟩

theorem lt_of_some {α : Type} {l : List α} {i : Nat} {x : α} (h : l[i]? = some x) : i < l.length := (List.getElem?_eq_some_iff.1 h).1

theorem RelB.same {X : Ctx} {id : Nat} {db : DB} (h : RelB X id db) (hl : db.live = true) : ∀ g, X.G id = some g → SameO (X.w.heap[g.1]?) (X.w.heap[g.1]?) := by
  intro g hg
  cases db <;> simp only [DB.live, RelB, Bool.false_eq_true] at hl h
  case box => obtain ⟨g', arr, el, fz, h0, h, _⟩ := h; rw [h0] at hg; cases hg; exact ⟨_, _, _, _, _, _, h, h, rfl⟩
  case arr =>
    rcases h with h | ⟨g', arr, el, fz, h0, h, _⟩
    · rw [h.1] at hg; cases hg
    · rw [h0] at hg; cases hg; exact ⟨_, _, _, _, _, _, h, h, rfl⟩

theorem SameB.refl {a : DB} (h : a.live = true) : SameB a a := by cases a <;> simp_all [SameB, DB.live]

theorem Step.refl {X : Ctx} (hi : HInv X) : Step X X where
  size := Nat.le_refl _
  os := rfl
  tape := rfl
  output := rfl
  kept := Kept.refl _ _
  len := Nat.le_refl _
  ids := fun id db' _ h hl => ⟨db', h, SameB.refl hl, rfl, (hi.blk id db' h).same hl⟩
  frame := fun _ _ _ => rfl
  mine := fun id db g h hl hf hg => .inr ⟨id, db, g, h, hl, hf, hg, rfl⟩
  upper := fun _ h => .inl h

theorem HInv.block_lt {X : Ctx} (hi : HInv X) {id : Nat} {db : DB} {g : Nat × Nat} (h : X.h[id]? = some db) (hl : db.live = true) (hg : X.G id = some g) : g.1 < X.w.heap.size := by
  obtain ⟨a, _, _, _, _, _, he, _, _⟩ := (hi.blk id db h).same hl g hg
  exact (Array.getElem?_eq_some_iff.1 he).1

theorem RelK.step {X X' : Ctx} (hs : Step X X') {x : KV} {v : Value} (h : RelK X x v) : RelK X' x v := by
  cases x <;> simp only [RelK] at h ⊢
  case p => exact RelP.kept hs.kept h
  case ptr id off =>
    obtain ⟨h1, h2, h3⟩ := h
    refine ⟨Nat.lt_of_lt_of_le h1 hs.len, h2, fun cells hc => ?_⟩
    obtain ⟨db, hd, hsb, hg, _⟩ := hs.ids id _ h1 hc rfl
    cases db <;> simp only [SameB] at hsb
    rw [hg]; exact h3 _ hd

theorem RelKs.step {X X' : Ctx} (hs : Step X X') : ∀ {xs : List KV} {vs : List Value}, RelKs X xs vs → RelKs X' xs vs
  | [], [], _ => True.intro
  | _ :: _, _ :: _, h => ⟨h.1.step hs, RelKs.step hs h.2⟩
  | [], _ :: _, h => h.elim
  | _ :: _, [], h => h.elim

theorem RelC.step {X X' : Ctx} (hs : Step X X') {x : CV} {v : Value} (h : RelC X x v) : RelC X' x v := by
  cases x <;> simp only [RelC] at h ⊢
  case p => exact RelP.kept hs.kept h
  case own id off len =>
    obtain ⟨h1, h2, h3⟩ := h
    refine ⟨Nat.lt_of_lt_of_le h1 hs.len, h2, fun k es ro hc => ?_⟩
    obtain ⟨db, hd, hsb, hg, hso⟩ := hs.ids id _ h1 hc rfl
    cases db <;> simp only [SameB] at hsb
    obtain ⟨rfl, hlen⟩ := hsb
    obtain ⟨h4, h5⟩ := h3 _ _ _ hd
    rw [hg]
    refine ⟨by omega, ?_⟩
    cases hG : X.G id with
    | none => rw [hG] at h5; exact h5
    | some g =>
      rw [hG] at h5
      obtain ⟨cap, o, arr, el, fz, h5, h6, h60, h7, h8, h9⟩ := h5
      obtain ⟨a1, e1, f1, a2, e2, f2, hx, hy, hz⟩ := hso g hG
      rw [h5] at hx
      injection hx with hx
      injection hx with hx _ _
      subst hx
      exact ⟨cap, o, a2, e2, f2, hy, h6, h60, h7, h8, by omega⟩
  case ptr id off =>
    obtain ⟨h1, h2, h3⟩ := h
    refine ⟨Nat.lt_of_lt_of_le h1 hs.len, h2, fun cells hc => ?_⟩
    obtain ⟨db, hd, hsb, hg, _⟩ := hs.ids id _ h1 hc rfl
    cases db <;> simp only [SameB] at hsb
    rw [hg]; exact h3 _ hd
  case aptr id i j =>
    obtain ⟨h1, h2, h3⟩ := h
    refine ⟨Nat.lt_of_lt_of_le h1 hs.len, h2, fun k es ro hc => ?_⟩
    obtain ⟨db, hd, hsb, hg, _⟩ := hs.ids id _ h1 hc rfl
    cases db <;> simp only [SameB] at hsb
    obtain ⟨rfl, _⟩ := hsb
    rw [hg]; exact h3 _ _ _ hd
  case eptr cs =>
    obtain ⟨bl, off, h1, h2, h3⟩ := h
    exact ⟨bl, off, h1, (hs.kept bl h2).1, RelE.kept hs.kept h2 h3⟩
  case clo f cap =>
    obtain ⟨vs, h1, h2⟩ := h
    exact ⟨vs, h1, h2.step hs⟩

theorem RelCs.step {X X' : Ctx} (hs : Step X X') : ∀ {xs : List CV} {vs : List Value}, RelCs X xs vs → RelCs X' xs vs
  | [], [], _ => True.intro
  | _ :: _, _ :: _, h => ⟨h.1.step hs, RelCs.step hs h.2⟩
  | [], _ :: _, h => h.elim
  | _ :: _, [], h => h.elim

theorem RelEV.step {X X' : Ctx} (hs : Step X X') {x : EV} {v : Value} (h : RelEV X x v) : RelEV X' x v := by
  cases x <;> simp only [RelEV] at h ⊢
  case c => exact h.step hs
  case agg => obtain ⟨vs, h1, h2⟩ := h; exact ⟨vs, h1, h2.step hs⟩

theorem RelEVs.step {X X' : Ctx} (hs : Step X X') : ∀ {xs : List EV} {vs : List Value}, RelEVs X xs vs → RelEVs X' xs vs
  | [], [], _ => True.intro
  | _ :: _, _ :: _, h => ⟨h.1.step hs, RelEVs.step hs h.2⟩
  | [], _ :: _, h => h.elim
  | _ :: _, [], h => h.elim

theorem RelD.step {X X' : Ctx} (hs : Step X X') {x : DV} {v : Value} (h : RelD X x v) : RelD X' x v := by
  cases x <;> simp only [RelD] at h ⊢
  case c => exact h.step hs
  case agg => obtain ⟨vs, h1, h2⟩ := h; exact ⟨vs, h1, h2.step hs⟩
  case tup => obtain ⟨vs, h1, h2⟩ := h; exact ⟨vs, h1, h2.step hs⟩

theorem RelDs.step {X X' : Ctx} (hs : Step X X') : ∀ {xs : List DV} {vs : List Value}, RelDs X xs vs → RelDs X' xs vs
  | [], [], _ => True.intro
  | _ :: _, _ :: _, h => ⟨h.1.step hs, RelDs.step hs h.2⟩
  | [], _ :: _, h => h.elim
  | _ :: _, [], h => h.elim

theorem Step.trans {X Y Z : Ctx} (hy : HInv Y) (h : Step X Y) (k : Step Y Z) : Step X Z where
  size := Nat.le_trans h.size k.size
  os := k.os.trans h.os
  tape := k.tape.trans h.tape
  output := k.output.trans h.output
  kept := h.kept.trans k.kept
  len := Nat.le_trans h.len k.len
  ids := fun id db' hid hz hl => by
    obtain ⟨db, hd, hsb, hg, hso⟩ := k.ids id db' (Nat.lt_of_lt_of_le hid h.len) hz hl
    obtain ⟨db0, hd0, hsb0, hg0, hso0⟩ := h.ids id db hid hd hsb.live
    exact ⟨db0, hd0, hsb0.trans hsb, hg.trans hg0, fun g hx => (hso0 g hx).trans (hso g (hg0.trans hx))⟩
  frame := fun b hb hno => by
    refine (k.frame b (Nat.lt_of_lt_of_le hb h.size) fun id db g hd hl hf hg => ?_).trans (h.frame b hb hno)
    rcases h.mine id db g hd hl hf hg with hge | ⟨id0, db0, g0, h0, hl0, hf0, hg0, he⟩
    · omega
    · rw [← he]; exact hno id0 db0 g0 h0 hl0 hf0 hg0
  mine := fun id db g hd hl hf hg => by
    rcases k.mine id db g hd hl hf hg with hge | ⟨id0, db0, g0, h0, hl0, hf0, hg0, he⟩
    · exact .inl (Nat.le_trans h.size hge)
    · rcases h.mine id0 db0 g0 h0 hl0 hf0 hg0 with hge | ⟨id1, db1, g1, h1, hl1, hf1, hg1, he1⟩
      · exact .inl (he ▸ hge)
      · exact .inr ⟨id1, db1, g1, h1, hl1, hf1, hg1, he1.trans he⟩
  upper := fun b hb => by
    rcases k.upper b hb with hb | hb | ⟨id, db, g, hd, hl, hg, he⟩
    · exact h.upper b hb
    · exact .inr (.inl (Nat.le_trans h.size hb))
    · by_cases hf : db.fix = false
      · rcases h.mine id db g hd hl hf hg with hge | ⟨id0, db0, g0, h0, hl0, hf0, hg0, he0⟩
        · exact .inr (.inl (he ▸ hge))
        · exact .inr (.inr ⟨id0, db0, g0, h0, hl0, hg0, he0.trans he⟩)
      · exact h.upper b (he ▸ (hy.own id db g hd hl hg).2 (by simpa using hf))

end Go.Dm
