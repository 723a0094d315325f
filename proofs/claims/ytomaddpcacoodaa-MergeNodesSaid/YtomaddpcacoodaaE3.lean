/-
  The engine, part 3: what may happen to memory: a new block, a write into a box or a row of the call's own, a row made immutable, a row that grows. No condition: small laws on the engine's own words.
-/
import Derived.Test.YtomaddpcacoodaaE2
set_option linter.unusedSimpArgs false
set_option linter.unusedVariables false
namespace Go.Dm
open Go

theorem RelBox.at_ {X : Ctx} {bl : Nat} : ∀ {cs : List CV} {off j : Nat} {c : CV}, RelBox X bl off cs → cs[j]? = some c → ∃ v, X.w.cell? ⟨bl, off + j, none⟩ = some v ∧ RelC X c v
  | [], _, _, _, _, h => by simp at h
  | c :: cs, off, 0, d, h, hj => by
    simp only [RelBox] at h
    simp only [List.getElem?_cons_zero, Option.some.injEq] at hj
    subst hj; exact h.1
  | c :: cs, off, j + 1, d, h, hj => by
    simp only [RelBox] at h
    simp only [List.getElem?_cons_succ] at hj
    obtain ⟨v, h1, h2⟩ := RelBox.at_ h.2 hj
    exact ⟨v, by rw [show off + (j + 1) = off + 1 + j by omega]; exact h1, h2⟩
theorem RelBox.mk {X : Ctx} {bl : Nat} : ∀ {cs : List CV} {off : Nat}, (∀ j c, cs[j]? = some c → ∃ v, X.w.cell? ⟨bl, off + j, none⟩ = some v ∧ RelC X c v) → RelBox X bl off cs
  | [], _, _ => by simp only [RelBox]
  | c :: cs, off, h => by
    simp only [RelBox]
    refine ⟨by simpa using h 0 c rfl, RelBox.mk fun j d hj => ?_⟩
    obtain ⟨v, h1, h2⟩ := h (j + 1) d (by simpa using hj)
    exact ⟨v, by rw [show off + 1 + j = off + (j + 1) by omega]; exact h1, h2⟩

theorem RelCs.length {X : Ctx} : ∀ {xs : List CV} {vs : List Value}, RelCs X xs vs → xs.length = vs.length
  | [], [], _ => rfl
  | _ :: _, _ :: _, h => by simp [RelCs.length h.2]
  | [], _ :: _, h => h.elim
  | _ :: _, [], h => h.elim
theorem RelCs.at_ {X : Ctx} : ∀ {xs : List CV} {vs : List Value} {j : Nat} {c : CV}, RelCs X xs vs → xs[j]? = some c → ∃ v, vs[j]? = some v ∧ RelC X c v
  | [], [], _, _, _, hj => by simp at hj
  | c :: xs, v :: vs, 0, d, h, hj => by
    simp only [List.getElem?_cons_zero, Option.some.injEq] at hj
    subst hj
    exact ⟨v, rfl, h.1⟩
  | c :: xs, v :: vs, j + 1, d, h, hj => by
    simp only [List.getElem?_cons_succ] at hj ⊢
    exact RelCs.at_ h.2 hj
  | [], _ :: _, _, _, h, _ => h.elim
  | _ :: _, [], _, _, h, _ => h.elim
theorem RelCs.mk {X : Ctx} : ∀ {xs : List CV} {vs : List Value}, xs.length = vs.length → (∀ (j : Nat) (c : CV) (v : Value), xs[j]? = some c → vs[j]? = some v → RelC X c v) → RelCs X xs vs
  | [], [], _, _ => True.intro
  | c :: xs, v :: vs, hl, h => ⟨h 0 c v rfl rfl, RelCs.mk (by simpa using hl) fun j d u hj hu => h (j + 1) d u (by simpa using hj) (by simpa using hu)⟩
  | [], _ :: _, hl, _ => by simp at hl
  | _ :: _, [], hl, _ => by simp at hl
theorem RelCs.oneCell {X : Ctx} : ∀ {xs : List CV} {vs : List Value}, RelCs X xs vs → ∀ v ∈ vs, v.oneCell' = true
  | [], [], _, _, h => by simp at h
  | _ :: _, _ :: _, h, v, hv => by
    rcases List.mem_cons.1 hv with rfl | hv
    · exact oneCell_of_relC h.1
    · exact RelCs.oneCell h.2 v hv
  | [], _ :: _, h, _, _ => h.elim
  | _ :: _, [], h, _, _ => h.elim

theorem RelBox.move {X X' : Ctx} (hs : Step X X') {bl : Nat} (hb : X'.w.heap[bl]? = X.w.heap[bl]?) {off : Nat} {cs : List CV} (h : RelBox X bl off cs) : RelBox X' bl off cs :=
  RelBox.mk fun j c hj => by
    obtain ⟨v, h1, h2⟩ := h.at_ hj
    exact ⟨v, by rw [World.cell?_of_block (a := ⟨bl, off + j, none⟩) hb]; exact h1, h2.step hs⟩

/-- A block that is as it was. -/
theorem RelB.move {X X' : Ctx} (hs : Step X X') {id : Nat} (hG : X'.G id = X.G id) (hb : ∀ g, X.G id = some g → X'.w.heap[g.1]? = X.w.heap[g.1]?) {db : DB} (h : RelB X id db) : RelB X' id db := by
  cases db <;> simp only [RelB] at h ⊢
  case box =>
    obtain ⟨g, arr, el, fz, h1, h2, h3, h4, h5⟩ := h
    exact ⟨g, arr, el, fz, hG.trans h1, (hb g h1).trans h2, h3, h4, h5.move hs (hb g h1)⟩
  case arr =>
    rcases h with h | ⟨g, arr, el, fz, h1, h2, h3, h4, h5⟩
    · exact .inl ⟨hG.trans h.1, h.2⟩
    · exact .inr ⟨g, arr, el, fz, hG.trans h1, (hb g h1).trans h2, h3, h4, h5.move hs.kept (hb g h1)⟩

/-- The same memory, another count of draws. -/
structure Alike (w w' : World) : Prop where
  heap : w'.heap = w.heap
  os : w'.os = w.os
  tape : w'.tape = w.tape
  output : w'.output = w.output

def Ctx.at_ (X : Ctx) (w' : World) : Ctx := ⟨w', X.S, X.G, X.h⟩

theorem Step.alike {X : Ctx} (hi : HInv X) {w' : World} (hw : Alike X.w w') : Step X (X.at_ w') where
  size := by simp only [Ctx.at_, hw.heap]; exact Nat.le_refl _
  os := hw.os
  tape := hw.tape
  output := hw.output
  kept := fun b hb => ⟨hb, by simp only [Ctx.at_, hw.heap]⟩
  len := Nat.le_refl _
  ids := fun id db' _ h hl => ⟨db', h, SameB.refl hl, rfl, fun g hg => by
    simp only [Ctx.at_, hw.heap]; exact (hi.blk id db' h).same hl g hg⟩
  frame := fun b _ _ => by simp only [Ctx.at_, hw.heap]
  mine := fun id db g h hl hf hg => .inr ⟨id, db, g, h, hl, hf, hg, rfl⟩
  upper := fun _ h => .inl h

theorem HInv.alike {X : Ctx} (hi : HInv X) {w' : World} (hw : Alike X.w w') : HInv (X.at_ w') where
  slt := fun b hb => by simp only [Ctx.at_, hw.heap]; exact hi.slt b hb
  blk := fun id db h => (hi.blk id db h).move (Step.alike hi hw) rfl fun g _ => by simp only [Ctx.at_, hw.heap]
  own := hi.own
  inj := hi.inj

/-- One new block. -/
structure Grew (w w' : World) (o : Obj) : Prop where
  heap : w'.heap = w.heap.push o
  os : w'.os = w.os
  tape : w'.tape = w.tape
  output : w'.output = w.output

theorem Grew.old {w w' : World} {o : Obj} (h : Grew w w' o) {b : Nat} (hb : b < w.heap.size) : w'.heap[b]? = w.heap[b]? := by
  rw [h.heap, Array.getElem?_push, if_neg (by omega)]
theorem Grew.new {w w' : World} {o : Obj} (h : Grew w w' o) : w'.heap[w.heap.size]? = some o := by
  rw [h.heap, Array.getElem?_push, if_pos rfl]
theorem Grew.size {w w' : World} {o : Obj} (h : Grew w w' o) : w'.heap.size = w.heap.size + 1 := by rw [h.heap, Array.size_push]

def Ctx.push (X : Ctx) (w' : World) (db : DB) : Ctx := ⟨w', X.S, fun id => if id = X.h.length then some (X.w.heap.size, 0) else X.G id, X.h ++ [db]⟩

theorem getElem?_push_lt {α : Type} {l : List α} {x : α} {i : Nat} (h : i < l.length) : (l ++ [x])[i]? = l[i]? := by
  rw [List.getElem?_append_left h]
theorem getElem?_push_inv {α : Type} {l : List α} {x y : α} {i : Nat} (h : (l ++ [x])[i]? = some y) : (i < l.length ∧ l[i]? = some y) ∨ (i = l.length ∧ y = x) := by
  rcases Nat.lt_or_ge i l.length with hi | hi
  · exact .inl ⟨hi, by rw [← getElem?_push_lt hi]; exact h⟩
  · have := lt_of_some h
    simp only [List.length_append, List.length_cons, List.length_nil] at this
    have hi' : i = l.length := by omega
    subst hi'
    simp only [List.getElem?_concat_length, Option.some.injEq] at h
    exact .inr ⟨rfl, h.symm⟩

theorem Step.push {X : Ctx} (hi : HInv X) {w' : World} {o : Obj} (hw : Grew X.w w' o) (db : DB) : Step X (X.push w' db) where
  size := by simp only [Ctx.push, hw.size]; omega
  os := hw.os
  tape := hw.tape
  output := hw.output
  kept := fun b hb => ⟨hb, hw.old (hi.slt b hb)⟩
  len := by simp [Ctx.push]
  ids := fun id db' hid h hl => by
    simp only [Ctx.push] at h ⊢
    rw [getElem?_push_lt hid] at h
    refine ⟨db', h, SameB.refl hl, by rw [if_neg (by omega)], fun g hg => ?_⟩
    rw [hw.old (hi.block_lt h hl hg)]
    exact (hi.blk id db' h).same hl g hg
  frame := fun b hb _ => hw.old hb
  mine := fun id d g h hl hf hg => by
    simp only [Ctx.push] at h hg
    rcases getElem?_push_inv h with ⟨hlt, h'⟩ | ⟨rfl, rfl⟩
    · rw [if_neg (by omega)] at hg
      exact .inr ⟨id, d, g, h', hl, hf, hg, rfl⟩
    · rw [if_pos rfl] at hg
      cases hg
      exact .inl (Nat.le_refl _)
  upper := fun _ h => .inl h

theorem HInv.push {X : Ctx} (hi : HInv X) {w' : World} {o : Obj} (hw : Grew X.w w' o) {db : DB} (hb : RelB (X.push w' db) X.h.length db) (hf : db.fix = false) : HInv (X.push w' db) where
  slt := fun b hb => by have := hi.slt b hb; simp only [Ctx.push, hw.size]; omega
  blk := fun id d h => by
    rcases getElem?_push_inv h with ⟨hlt, h'⟩ | ⟨rfl, rfl⟩
    · by_cases hl : d.live = true
      · exact (hi.blk id d h').move (Step.push hi hw db) (by simp only [Ctx.push]; rw [if_neg (by omega)]) fun g hg => hw.old (hi.block_lt h' hl hg)
      · cases d <;> simp_all [DB.live, RelB]
    · exact hb
  own := fun id d g h hl hg => by
    simp only [Ctx.push] at h hg ⊢
    rcases getElem?_push_inv h with ⟨hlt, h'⟩ | ⟨rfl, rfl⟩
    · rw [if_neg (by omega)] at hg
      exact hi.own id d g h' hl hg
    · rw [if_pos rfl] at hg
      cases hg
      refine ⟨fun _ hs => ?_, fun h => ?_⟩
      · have := hi.slt _ hs; simp at this
      · rw [hf] at h; cases h
  inj := fun id d id' d' g g' h hl hf0 h' hl' hg hg' he => by
    simp only [Ctx.push] at h hg h' hg'
    rcases getElem?_push_inv h with ⟨hlt, h1⟩ | ⟨rfl, rfl⟩ <;> rcases getElem?_push_inv h' with ⟨hlt', h1'⟩ | ⟨rfl, rfl⟩
    · rw [if_neg (by omega)] at hg hg'
      exact hi.inj id d id' d' g g' h1 hl hf0 h1' hl' hg hg' he
    · rw [if_neg (by omega)] at hg
      rw [if_pos rfl] at hg'
      cases hg'
      have := hi.block_lt h1 hl hg
      simp only at he
      omega
    · rw [if_neg (by omega)] at hg'
      rw [if_pos rfl] at hg
      cases hg
      have := hi.block_lt h1' hl' hg'
      simp only at he
      omega
    · rfl

/-- A number let go. -/
def Ctx.kill (X : Ctx) (id : Nat) : Ctx := ⟨X.w, X.S, X.G, X.h.set id .dead⟩

theorem kill_some {X : Ctx} {id i : Nat} {db : DB} (h : (X.h.set id .dead)[i]? = some db) (hl : db.live = true) : i ≠ id ∧ X.h[i]? = some db := by
  rw [List.getElem?_set] at h
  split at h
  · split at h
    · cases h; simp [DB.live] at hl
    · cases h
  · exact ⟨fun e => by omega, h⟩

theorem Step.kill {X : Ctx} (hi : HInv X) (id : Nat) : Step X (X.kill id) where
  size := Nat.le_refl _
  os := rfl
  tape := rfl
  output := rfl
  kept := Kept.refl _ _
  len := by simp [Ctx.kill]
  ids := fun i db' _ h hl => by
    obtain ⟨_, h'⟩ := kill_some h hl
    exact ⟨db', h', SameB.refl hl, rfl, (hi.blk i db' h').same hl⟩
  frame := fun _ _ _ => rfl
  mine := fun i db g h hl hf hg => by
    obtain ⟨_, h'⟩ := kill_some h hl
    exact .inr ⟨i, db, g, h', hl, hf, hg, rfl⟩
  upper := fun _ h => .inl h

theorem HInv.kill {X : Ctx} (hi : HInv X) (id : Nat) : HInv (X.kill id) where
  slt := hi.slt
  blk := fun i db h => by
    by_cases hl : db.live = true
    · obtain ⟨_, h'⟩ := kill_some h hl
      exact (hi.blk i db h').move (Step.kill hi id) rfl fun _ _ => rfl
    · cases db <;> simp_all [DB.live, RelB]
  own := fun i db g h hl hg => by
    obtain ⟨_, h'⟩ := kill_some h hl
    exact hi.own i db g h' hl hg
  inj := fun i d i' d' g g' h hl hf0 h' hl' hg hg' he => by
    obtain ⟨_, h1⟩ := kill_some h hl
    obtain ⟨_, h1'⟩ := kill_some h' hl'
    exact hi.inj i d i' d' g g' h1 hl hf0 h1' hl' hg hg' he

/-- Cells of one block written. -/
structure Wrote (w w' : World) (bl off : Nat) (vs : List Value) : Prop where
  os : w'.os = w.os
  tape : w'.tape = w.tape
  output : w'.output = w.output
  size : w'.heap.size = w.heap.size
  other : ∀ b, b ≠ bl → w'.heap[b]? = w.heap[b]?
  here : ∃ arr el fz arr', w.heap[bl]? = some (.cells arr el fz) ∧ w'.heap[bl]? = some (.cells arr' el fz) ∧ arr'.size = arr.size ∧
    ∀ j : Nat, arr'[j]? = if off ≤ j ∧ j < off + vs.length then vs[j - off]? else arr[j]?

theorem Wrote.cell_in {w w' : World} {bl off : Nat} {vs : List Value} (h : Wrote w w' bl off vs) {j : Nat} (h1 : off ≤ j) (h2 : j < off + vs.length) : w'.cell? ⟨bl, j, none⟩ = vs[j - off]? := by
  obtain ⟨arr, el, fz, arr', ha, hb, hs, hj⟩ := h.here
  simp only [World.cell?, hb, Option.isSome_none, Bool.false_eq_true, if_false]
  rw [hj, if_pos ⟨h1, h2⟩]
theorem Wrote.cell_out {w w' : World} {bl off : Nat} {vs : List Value} (h : Wrote w w' bl off vs) {b j : Nat} (hj : b ≠ bl ∨ j < off ∨ off + vs.length ≤ j) : w'.cell? ⟨b, j, none⟩ = w.cell? ⟨b, j, none⟩ := by
  by_cases hb : b = bl
  · subst hb
    obtain ⟨arr, el, fz, arr', ha, hb, hs, hh⟩ := h.here
    simp only [World.cell?, hb, ha, Option.isSome_none, Bool.false_eq_true, if_false]
    rw [hh, if_neg (by omega)]
  · exact World.cell?_of_block (a := ⟨b, j, none⟩) (h.other b hb)

def splice {α : Type} (cells : List α) (off : Nat) (ys : List α) : List α := cells.take off ++ ys ++ cells.drop (off + ys.length)

theorem splice_length {α : Type} (cells : List α) (off : Nat) (ys : List α) (h : off + ys.length ≤ cells.length) : (splice cells off ys).length = cells.length := by
  simp [splice]; omega
theorem splice_at {α : Type} (cells : List α) (off : Nat) (ys : List α) (h : off + ys.length ≤ cells.length) (j : Nat) :
    (splice cells off ys)[j]? = if off ≤ j ∧ j < off + ys.length then ys[j - off]? else cells[j]? := by
  unfold splice
  by_cases h1 : j < off
  · rw [if_neg (by omega), List.append_assoc, List.getElem?_append_left (by simp; omega), List.getElem?_take, if_pos h1]
  · by_cases h2 : j < off + ys.length
    · rw [if_pos ⟨by omega, h2⟩, List.append_assoc, List.getElem?_append_right (by simp; omega), List.getElem?_append_left (by simp; omega)]
      congr 1; simp; omega
    · rw [if_neg (by omega), List.getElem?_append_right (by simp; omega), List.getElem?_drop]
      congr 1; simp; omega

/-- A row or box of the call's own with another content. -/
def Ctx.put (X : Ctx) (w' : World) (id : Nat) (db : DB) : Ctx := ⟨w', X.S, X.G, X.h.set id db⟩

theorem put_some {l : DHeap} {id i : Nat} {d db : DB} (h : (l.set id d)[i]? = some db) : (i = id ∧ db = d ∧ i < l.length) ∨ (i ≠ id ∧ l[i]? = some db) := by
  rw [List.getElem?_set] at h
  split at h
  · split at h
    · cases h; rename_i e _; exact .inl ⟨e.symm, rfl, by omega⟩
    · cases h
  · rename_i e; exact .inr ⟨fun e' => e e'.symm, h⟩

/-- One block of memory is another, of the same length. -/
structure Touched (w w' : World) (bl : Nat) : Prop where
  os : w'.os = w.os
  tape : w'.tape = w.tape
  output : w'.output = w.output
  size : w'.heap.size = w.heap.size
  other : ∀ b, b ≠ bl → w'.heap[b]? = w.heap[b]?
  here : SameO (w.heap[bl]?) (w'.heap[bl]?)
theorem Wrote.touched {w w' : World} {bl off : Nat} {vs : List Value} (h : Wrote w w' bl off vs) : Touched w w' bl :=
  ⟨h.os, h.tape, h.output, h.size, h.other, by obtain ⟨arr, el, fz, arr', ha, hb, hs, _⟩ := h.here; exact ⟨arr, el, fz, arr', el, fz, ha, hb, hs⟩⟩

theorem Step.put {X : Ctx} (hi : HInv X) {w' : World} {id : Nat} {g : Nat × Nat} {d0 d : DB} (h0 : X.h[id]? = some d0) (hl0 : d0.live = true) (hf0 : d0.fix = false) (hg : X.G id = some g)
    (hw : Touched X.w w' g.1) (hsb : SameB d0 d) (hf : d.fix = false) : Step X (X.put w' id d) where
  size := by simp only [Ctx.put, hw.size]; exact Nat.le_refl _
  os := hw.os
  tape := hw.tape
  output := hw.output
  kept := fun b hb => ⟨hb, hw.other b fun e => (hi.own id d0 g h0 hl0 hg).1 hf0 (e ▸ hb)⟩
  len := by simp [Ctx.put]
  ids := fun i db' _ h hl => by
    rcases put_some h with ⟨rfl, rfl, _⟩ | ⟨hne, h'⟩
    · refine ⟨d0, h0, hsb, rfl, fun g' hg' => ?_⟩
      rw [hg] at hg'
      cases hg'
      exact hw.here
    · refine ⟨db', h', SameB.refl hl, rfl, fun g' hg' => ?_⟩
      rw [show (X.put w' id d).w.heap[g'.1]? = X.w.heap[g'.1]? from hw.other _ fun e => hne (hi.inj id d0 i db' g g' h0 hl0 hf0 h' hl hg hg' e.symm).symm]
      exact (hi.blk i db' h').same hl g' hg'
  frame := fun b _ hno => hw.other b fun e => hno id d0 g h0 hl0 hf0 hg e.symm
  mine := fun i db g' h hl hf' hg' => by
    rcases put_some h with ⟨rfl, rfl, _⟩ | ⟨hne, h'⟩
    · exact .inr ⟨i, d0, g', h0, hl0, hf0, hg', rfl⟩
    · exact .inr ⟨i, db, g', h', hl, hf', hg', rfl⟩
  upper := fun _ h => .inl h

theorem HInv.put {X : Ctx} (hi : HInv X) {w' : World} {id : Nat} {g : Nat × Nat} {d0 d : DB} (h0 : X.h[id]? = some d0) (hl0 : d0.live = true) (hf0 : d0.fix = false) (hg : X.G id = some g)
    (hw : Touched X.w w' g.1) (hsb : SameB d0 d) (hf : d.fix = false) (hb : RelB (X.put w' id d) id d) : HInv (X.put w' id d) where
  slt := fun b hb => by have := hi.slt b hb; simp only [Ctx.put, hw.size]; exact this
  blk := fun i db h => by
    rcases put_some h with ⟨rfl, rfl, _⟩ | ⟨hne, h'⟩
    · exact hb
    · by_cases hl : db.live = true
      · exact (hi.blk i db h').move (Step.put hi h0 hl0 hf0 hg hw hsb hf) rfl fun g' hg' => hw.other _ fun e => hne (hi.inj id d0 i db g g' h0 hl0 hf0 h' hl hg hg' e.symm).symm
      · cases db <;> simp_all [DB.live, RelB]
  own := fun i db g' h hl hg' => by
    rcases put_some h with ⟨rfl, rfl, _⟩ | ⟨hne, h'⟩
    · have := hi.own i d0 g' h0 hl0 hg'
      rw [hf0] at this; rw [hf]
      exact this
    · exact hi.own i db g' h' hl hg'
  inj := fun i d1 i' d1' g1 g1' h hl hfx h' hl' hg1 hg1' he => by
    rcases put_some h with ⟨rfl, rfl, _⟩ | ⟨hne, h1⟩ <;> rcases put_some h' with ⟨rfl, rfl, _⟩ | ⟨hne', h1'⟩
    · rfl
    · exact hi.inj i d0 i' d1' g1 g1' h0 hl0 hf0 h1' hl' hg1 hg1' he
    · exact hi.inj i d1 i' d0 g1 g1' h1 hl hfx h0 hl0 hg1 hg1' he
    · exact hi.inj i d1 i' d1' g1 g1' h1 hl hfx h1' hl' hg1 hg1' he

/-- A store into a box. -/
theorem box_store {X : Ctx} (hi : HInv X) {w' : World} {id : Nat} {g : Nat × Nat} {off : Nat} {vs : List Value} {cells ys : List CV} (h0 : X.h[id]? = some (.box cells)) (hg : X.G id = some g)
    (hle : off + ys.length ≤ cells.length) (hr : RelCs X ys vs) (hw : Wrote X.w w' g.1 (g.2 + off) vs) :
    Step X (X.put w' id (.box (splice cells off ys))) ∧ HInv (X.put w' id (.box (splice cells off ys))) := by
  have hlen := hr.length
  have hs : Step X (X.put w' id (.box (splice cells off ys))) := Step.put hi h0 rfl rfl hg hw.touched True.intro rfl
  refine ⟨hs, HInv.put hi h0 rfl rfl hg hw.touched True.intro rfl ?_⟩
  have hb := hi.blk id _ h0
  simp only [RelB] at hb ⊢
  obtain ⟨g', arr, el, fz, h1, h2, h3, h4, h5⟩ := hb
  rw [hg] at h1
  cases h1
  obtain ⟨arr0, el0, fz0, arr', ha, hb', hsz, hj⟩ := hw.here
  rw [h2] at ha
  cases ha
  refine ⟨g, arr', el, fz, hg, hb', by rw [splice_length _ _ _ hle, hsz]; exact h3, by rw [hsz]; exact h4, RelBox.mk fun j c hc => ?_⟩
  rw [splice_at _ _ _ hle] at hc
  split at hc
  · rename_i hin
    obtain ⟨v, hv, hrc⟩ := hr.at_ hc
    refine ⟨v, ?_, hrc.step hs⟩
    show w'.cell? _ = _
    rw [hw.cell_in (by omega) (by omega), ← hv]
    congr 1; omega
  · rename_i hout
    obtain ⟨v, hv, hrc⟩ := h5.at_ hc
    refine ⟨v, ?_, hrc.step hs⟩
    show w'.cell? _ = _
    rw [hw.cell_out (by omega)]
    exact hv

end Go.Dm
