/-
  The engine, part 1: data values (immutable data by value, boxes and owned rows by number), and when a value in the model's memory is such a data value. No condition: definitions and small laws.
-/
import Derived.WalkKit
set_option linter.unusedSimpArgs false
set_option linter.unusedVariables false
namespace Go.Dm
open Go

/-- Immutable data of one cell. -/
inductive PV where
  | b (x : Bool)
  | i (k : IntKind) (n : Int)
  | s (l : List UInt8)
  | f (bits : Nat)
  | nil
  | sl (k : Nat) (es : List (List PV))
  | o (x : Value)

/-- What a closure holds. -/
inductive KV where
  | p (x : PV)
  | ptr (id off : Nat)

/-- What one cell may hold, seen from within a call. -/
inductive CV where
  | p (x : PV)
  | own (id off len : Nat)
  | ptr (id off : Nat)
  | aptr (id i j : Nat)
  | eptr (cs : List PV)
  | clo (f : FuncId) (cap : List KV)

inductive EV where
  | c (x : CV)
  | agg (xs : List CV)

inductive DV where
  | jk
  | c (x : CV)
  | agg (xs : List CV)
  | tup (xs : List EV)

inductive DB where
  | dead
  | box (cells : List CV)
  | arr (k : Nat) (es : List (List PV)) (ro : Bool)

abbrev DHeap := List DB

def DB.live : DB → Bool
  | .dead => false
  | _ => true
def DB.fix : DB → Bool
  | .arr _ _ r => r
  | _ => false

structure Ctx where
  w : World
  S : Nat → Prop
  G : Nat → Option (Nat × Nat)
  h : DHeap

mutual
def RelP (w : World) (S : Nat → Prop) : PV → Value → Prop
  | .b x, v => v = .bool x
  | .i k n, v => v = .int k n
  | .s l, v => v = .string ⟨l.toArray⟩
  | .f x, v => v = .float .f64 x
  | .nil, v => v = .slice none 0 0
  | .sl k es, v => ∃ a c, v = .slice a es.length c ∧ es.length ≤ c ∧ (es = [] ∨ ∃ bl off, a = some ⟨bl, off, none⟩ ∧ S bl ∧ RelL w S k bl off es)
  | .o x, v => v = x ∧ x.oneCell' = true
def RelE (w : World) (S : Nat → Prop) (bl : Nat) (off : Nat) : List PV → Prop
  | [] => True
  | c :: cs => (∃ v, w.cell? ⟨bl, off, none⟩ = some v ∧ RelP w S c v) ∧ RelE w S bl (off + 1) cs
def RelL (w : World) (S : Nat → Prop) (k : Nat) (bl : Nat) (off : Nat) : List (List PV) → Prop
  | [] => True
  | e :: es => (e.length = k ∧ RelE w S bl off e) ∧ RelL w S k bl (off + k) es
end

theorem oneCell_of_relP {w : World} {S : Nat → Prop} {x : PV} {v : Value} (h : RelP w S x v) : v.oneCell' = true := by
  cases x <;> simp only [RelP] at h
  case b => subst h; rfl
  case i => subst h; rfl
  case s => subst h; rfl
  case f => subst h; rfl
  case nil => subst h; rfl
  case sl => obtain ⟨a, c, rfl, _⟩ := h; rfl
  case o => rw [h.1]; exact h.2

/-- The heap part on which immutable data stand: it only grows. -/
def Kept (w w' : World) (S S' : Nat → Prop) : Prop := ∀ b, S b → S' b ∧ w'.heap[b]? = w.heap[b]?

theorem Kept.cell {w w' : World} {S S' : Nat → Prop} (h : Kept w w' S S') {b : Nat} (hb : S b) (o : Nat) : w'.cell? ⟨b, o, none⟩ = w.cell? ⟨b, o, none⟩ :=
  World.cell?_of_block (h b hb).2

theorem RelP.nilOf {w : World} {S : Nat → Prop} {v : Value} (k : Nat) (h : RelP w S .nil v) : RelP w S (.sl k []) v := by
  simp only [RelP] at h ⊢
  exact ⟨none, 0, h, Nat.le_refl _, .inl trivial⟩

mutual
theorem RelP.kept {w w' : World} {S S' : Nat → Prop} (hk : Kept w w' S S') : ∀ {x : PV} {v : Value}, RelP w S x v → RelP w' S' x v
  | .b _, _, h => h
  | .i _ _, _, h => h
  | .s _, _, h => h
  | .f _, _, h => h
  | .nil, _, h => h
  | .sl k es, v, h => by
    simp only [RelP] at h ⊢
    obtain ⟨a, c, hv, hc, hs⟩ := h
    refine ⟨a, c, hv, hc, ?_⟩
    rcases hs with hs | ⟨bl, off, ha, hb, hl⟩
    · exact .inl hs
    · exact .inr ⟨bl, off, ha, (hk bl hb).1, RelL.move hk (hk bl hb).2 hl⟩
  | .o _, _, h => h
/-- A row whose block is as it was reads as it did. -/
theorem RelE.move {w w' : World} {S S' : Nat → Prop} (hk : Kept w w' S S') {bl : Nat} (hb : w'.heap[bl]? = w.heap[bl]?) : ∀ {off : Nat} {cs : List PV}, RelE w S bl off cs → RelE w' S' bl off cs
  | _, [], _ => by simp only [RelE]
  | off, c :: cs, h => by
    simp only [RelE] at h ⊢
    obtain ⟨⟨v, hv, hr⟩, ht⟩ := h
    exact ⟨⟨v, by rw [World.cell?_of_block (a := ⟨bl, off, none⟩) hb]; exact hv, RelP.kept hk hr⟩, RelE.move hk hb ht⟩
theorem RelL.move {w w' : World} {S S' : Nat → Prop} (hk : Kept w w' S S') {k bl : Nat} (hb : w'.heap[bl]? = w.heap[bl]?) : ∀ {off : Nat} {es : List (List PV)}, RelL w S k bl off es → RelL w' S' k bl off es
  | _, [], _ => by simp only [RelL]
  | off, e :: es, h => by
    simp only [RelL] at h ⊢
    exact ⟨⟨h.1.1, RelE.move hk hb h.1.2⟩, RelL.move hk hb h.2⟩
end

theorem RelE.kept {w w' : World} {S S' : Nat → Prop} (hk : Kept w w' S S') {bl : Nat} (hb : S bl) {off : Nat} {cs : List PV} (h : RelE w S bl off cs) : RelE w' S' bl off cs := h.move hk (hk bl hb).2
theorem RelL.kept {w w' : World} {S S' : Nat → Prop} (hk : Kept w w' S S') {k bl : Nat} (hb : S bl) {off : Nat} {es : List (List PV)} (h : RelL w S k bl off es) : RelL w' S' k bl off es := h.move hk (hk bl hb).2

theorem RelE.at_ {w : World} {S : Nat → Prop} {bl : Nat} : ∀ {cs : List PV} {off j : Nat} {c : PV}, RelE w S bl off cs → cs[j]? = some c → ∃ v, w.cell? ⟨bl, off + j, none⟩ = some v ∧ RelP w S c v
  | [], _, _, _, _, h => by simp at h
  | c :: cs, off, 0, d, h, hj => by
    simp only [RelE] at h
    simp only [List.getElem?_cons_zero, Option.some.injEq] at hj
    subst hj; exact h.1
  | c :: cs, off, j + 1, d, h, hj => by
    simp only [RelE] at h
    simp only [List.getElem?_cons_succ] at hj
    obtain ⟨v, h1, h2⟩ := RelE.at_ h.2 hj
    exact ⟨v, by rw [show off + (j + 1) = off + 1 + j by omega]; exact h1, h2⟩
theorem RelE.mk {w : World} {S : Nat → Prop} {bl : Nat} : ∀ {cs : List PV} {off : Nat}, (∀ j c, cs[j]? = some c → ∃ v, w.cell? ⟨bl, off + j, none⟩ = some v ∧ RelP w S c v) → RelE w S bl off cs
  | [], _, _ => by simp only [RelE]
  | c :: cs, off, h => by
    simp only [RelE]
    refine ⟨by simpa using h 0 c rfl, RelE.mk fun j d hj => ?_⟩
    obtain ⟨v, h1, h2⟩ := h (j + 1) d (by simpa using hj)
    exact ⟨v, by rw [show off + 1 + j = off + (j + 1) by omega]; exact h1, h2⟩
theorem RelE.drop {w : World} {S : Nat → Prop} {bl : Nat} {cs : List PV} {off : Nat} (h : RelE w S bl off cs) (n : Nat) : RelE w S bl (off + n) (cs.drop n) :=
  RelE.mk fun j c hj => by
    rw [List.getElem?_drop] at hj
    obtain ⟨v, h1, h2⟩ := h.at_ hj
    exact ⟨v, by rw [Nat.add_assoc]; exact h1, h2⟩
theorem RelE.take {w : World} {S : Nat → Prop} {bl : Nat} {cs : List PV} {off : Nat} (h : RelE w S bl off cs) (n : Nat) : RelE w S bl off (cs.take n) :=
  RelE.mk fun j c hj => by
    rw [List.getElem?_take] at hj
    split at hj
    · exact h.at_ hj
    · simp at hj
theorem RelL.at_ {w : World} {S : Nat → Prop} {k bl : Nat} : ∀ {es : List (List PV)} {off j : Nat} {e : List PV}, RelL w S k bl off es → es[j]? = some e → e.length = k ∧ RelE w S bl (off + j * k) e
  | [], _, _, _, _, h => by simp at h
  | c :: cs, off, 0, d, h, hj => by
    simp only [RelL] at h
    simp only [List.getElem?_cons_zero, Option.some.injEq] at hj
    subst hj; simpa using h.1
  | c :: cs, off, j + 1, d, h, hj => by
    simp only [RelL] at h
    simp only [List.getElem?_cons_succ] at hj
    obtain ⟨h1, h2⟩ := RelL.at_ h.2 hj
    exact ⟨h1, by rw [show off + (j + 1) * k = off + k + j * k by rw [Nat.add_mul, Nat.one_mul]; omega]; exact h2⟩
theorem RelL.mk {w : World} {S : Nat → Prop} {k bl : Nat} : ∀ {es : List (List PV)} {off : Nat}, (∀ j e, es[j]? = some e → e.length = k ∧ RelE w S bl (off + j * k) e) → RelL w S k bl off es
  | [], _, _ => by simp only [RelL]
  | c :: cs, off, h => by
    simp only [RelL]
    refine ⟨by simpa using h 0 c rfl, RelL.mk fun j d hj => ?_⟩
    obtain ⟨h1, h2⟩ := h (j + 1) d (by simpa using hj)
    exact ⟨h1, by rw [show off + k + j * k = off + (j + 1) * k by rw [Nat.add_mul, Nat.one_mul]; omega]; exact h2⟩
theorem RelL.drop {w : World} {S : Nat → Prop} {k bl : Nat} {es : List (List PV)} {off : Nat} (h : RelL w S k bl off es) (n : Nat) : RelL w S k bl (off + n * k) (es.drop n) :=
  RelL.mk fun j c hj => by
    rw [List.getElem?_drop] at hj
    obtain ⟨h1, h2⟩ := h.at_ hj
    exact ⟨h1, by rw [Nat.add_assoc, ← Nat.add_mul]; exact h2⟩
theorem RelL.take {w : World} {S : Nat → Prop} {k bl : Nat} {es : List (List PV)} {off : Nat} (h : RelL w S k bl off es) (n : Nat) : RelL w S k bl off (es.take n) :=
  RelL.mk fun j c hj => by
    rw [List.getElem?_take] at hj
    split at hj
    · exact h.at_ hj
    · simp at hj

end Go.Dm
