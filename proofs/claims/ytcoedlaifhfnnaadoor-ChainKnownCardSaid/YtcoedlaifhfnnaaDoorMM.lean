import Derived.Test.YtcoedlaifhfnnaaDoorVE
import Derived.StringKeys

section
/-
  Maps from strings to truth values, held beside the data: the operations on them. No condition beyond keys that a string may be.
-/

set_option linter.unusedSimpArgs false
set_option linter.unusedVariables false
namespace Go.Dm
open Go Go.WideMaps Go.MapKept Go.WideShapes

def strV (k : List UInt8) : Value := .string ⟨k.toArray⟩
/-- Block b is a map in which just the keys ks are true. -/
def MapAt (w : World) (b : Nat) (ks : List (List UInt8)) : Prop := ∃ es clock, w.heap[b]? = some (.map es clock) ∧
  (∀ e ∈ es.toList, ∃ k ∈ ks, e.key = strV k ∧ e.val = .bool true) ∧ ∀ k ∈ ks, k.length ≤ maxLen ∧ ∃ e ∈ es.toList, e.key = strV k

theorem MapAt.keys {P : Program} {kt : TypeId} (hk : P.underlying kt = some .string) {es : Array MapEntry} {ks : List (List UInt8)} (h1 : ∀ e ∈ es.toList, ∃ k ∈ ks, e.key = strV k ∧ e.val = .bool true) (h2 : ∀ k ∈ ks, k.length ≤ maxLen ∧ ∃ e ∈ es.toList, e.key = strV k) :
    ∀ e ∈ es.toList, ∃ l, keyOf P kt e.key = some l := fun e he => by
  obtain ⟨k, hk', he1, _⟩ := h1 e he
  rw [he1]
  exact ⟨_, keyOf_string_mk hk (by show k.toArray.size ≤ maxLen; simpa using (h2 k hk').1)⟩

/-! A block of memory that no data stand on. -/
def Away (X : Ctx) (b : Nat) : Prop := b < X.w.heap.size ∧ ¬ X.S b ∧ ∀ id db g, X.h[id]? = some db → db.live = true → X.G id = some g → g.1 ≠ b

theorem Away.step {X X' : Ctx} {b : Nat} (ha : Away X b) (hi' : HInv X') (hs : Step X X') : Away X' b ∧ X'.w.heap[b]? = X.w.heap[b]? := by
  obtain ⟨h1, h2, h3⟩ := ha
  have hS : ¬ X'.S b := fun h => by
    rcases hs.upper b h with h | h | ⟨id, db, g, hd, hl, hg, e⟩
    · exact h2 h
    · omega
    · exact h3 id db g hd hl hg e
  refine ⟨⟨Nat.lt_of_lt_of_le h1 hs.size, hS, fun id db g hd hl hg e => ?_⟩, hs.frame b h1 fun id db g hd hl _ hg => h3 id db g hd hl hg⟩
  cases hf : db.fix
  · rcases hs.mine id db g hd hl hf hg with h | ⟨id0, db0, g0, hd0, hl0, _, hg0, e0⟩
    · omega
    · exact h3 id0 db0 g0 hd0 hl0 hg0 (e0.trans e)
  · exact hS (e ▸ (hi'.own id db g hd hl hg).2 hf)

theorem MapAt.same {w w' : World} {b : Nat} {ks : List (List UInt8)} (h : MapAt w b ks) (e : w'.heap[b]? = w.heap[b]?) : MapAt w' b ks := by
  obtain ⟨es, c, h1, h2⟩ := h
  exact ⟨es, c, e.trans h1, h2⟩

section put
variable {X : Ctx} {b : Nat} {o : Obj}
end put

end Go.Dm

end

section
/-
  Code that uses a map beside the data: contracts of pieces, told with what the map holds. No condition beyond the engine's.
-/

set_option linter.unusedSimpArgs false
set_option linter.unusedVariables false
namespace Go.Dm
open Go

section rules
variable {P : Program} {T : Tab} {X0 : Ctx} {b : Nat}

/-- Operations ahead of others of one region. -/
theorem dops_then (hT : TabOK P T) (gd : Gnd P X0) {ops : Array Oper} {l2 : List Oper} {Q' : Exit → Act → World → Prop} : ∀ (l : List Oper) {s : DS} {X : Ctx} {a : Act}, X.h = s.h → HInv X → Step X0 X → TInv X s a →
    dops P T ops l s (fun s' => ∀ X' a', X'.h = s'.h → HInv X' → Step X0 X' → TInv X' s' a' → wpList P ops Q' l2 a' X'.w) → wpList P ops Q' (l ++ l2) a X.w
  | [], s, X, a, hh, hi, hs, ht, h => h X a hh hi hs ht
  | o :: rest, s, X, a, hh, hi, hs, ht, h => by
    refine wpList_step fun K hK => ?_
    have go : dop P T o.op s.t s.h (fun d h' => dops P T ops rest (s.put o.dst d h') (fun s' => ∀ X' a', X'.h = s'.h → HInv X' → Step X0 X' → TInv X' s' a' → wpList P ops Q' l2 a' X'.w)) → o.wp P a X.w K Q' := by
      intro hd
      rw [← hh] at hd
      refine dop_sound hT hi (gd.step hs) ht.ev hd fun d v X' h1 h2 h3 h4 => hK _ _ ?_
      refine dops_then hT gd rest (s := s.put o.dst d X'.h) ?_ h1 (hs.trans hi h2) ?_ h4
      · unfold DS.put; split <;> (try split) <;> rfl
      · exact (ht.step h2).put h3 o.dst X'.h
    have skip : dops P T ops rest (s.put o.dst (.tup []) s.h) (fun s' => ∀ X' a', X'.h = s'.h → HInv X' → Step X0 X' → TInv X' s' a' → wpList P ops Q' l2 a' X'.w) → K (a.put o.dst undef) X.w := by
      intro hd
      refine hK _ _ (dops_then hT gd rest (s := s.put o.dst (.tup []) s.h) (by rw [hh]; unfold DS.put; split <;> (try split) <;> rfl) hi hs (ht.put (d := .tup []) (v := undef) ⟨[], rfl, True.intro⟩ o.dst s.h) hd)
    simp only [dops] at h
    split at h
    · rename_i hg
      rw [if_pos (by simp [Region.wanted, hg])]
      exact go h
    · rename_i j want hg
      have hy : ∀ d, ((ops[j]?).bind (·.dst)).map (fun i => look s.t i) = some d → ∃ i, (ops[j]?).bind (·.dst) = some i ∧ RelD X d (a.tmps.getD i undef) := by
        intro d hd
        obtain ⟨i, h1, h2⟩ := Option.map_eq_some_iff.1 hd
        exact ⟨i, h1, h2 ▸ ht.rel i⟩
      split at h
      · rename_i v hd
        obtain ⟨i, h1, h3⟩ := hy _ hd
        simp only [RelD, RelC, RelP] at h3
        have hv : a.tmps[i]? = some (.bool v) := by
          rcases Nat.lt_or_ge i a.tmps.size with hlt' | hge
          · rw [Array.getElem?_eq_getElem hlt']
            simp only [Array.getD, hlt', dif_pos] at h3
            congr 1
          · rw [Array.getD_eq_getD_getElem?, Array.getElem?_eq_none hge] at h3
            cases h3
        have hyd : yielded ops a.tmps j = some v := by
          unfold yielded
          rw [h1]
          simp only [Option.bind_some, hv]
        by_cases hw : v = want
        · rw [if_pos (by simp [Region.wanted, hg, hyd, hw])]
          exact go (h.1 hw)
        · rw [if_neg (by simp [Region.wanted, hg, hyd, hw])]
          exact skip (h.2 hw)
      · rename_i hd
        obtain ⟨i, h1, vs, hv, hr⟩ := hy _ hd
        have hvs : vs = [] := by
          cases vs with
          | nil => rfl
          | cons _ _ => exact hr.elim
        subst hvs
        have hyd : yielded ops a.tmps j = none := by
          unfold yielded
          rw [h1]
          simp only [Option.bind_some]
          rw [Array.getD_eq_getD_getElem?] at hv
          cases hx : a.tmps[i]? with
          | none => rfl
          | some u => rw [hx] at hv; simp only [Option.getD_some] at hv; rw [hv]
        rw [if_neg (by simp [Region.wanted, hg, hyd])]
        exact skip h
      · exact h.elim

def MPost (b : Nat) (X0 : Ctx) (Q : List (List UInt8) → Exit → DS → Prop) : Exit → Act → World → Prop := fun e a w =>
  ∃ s X ks, Q ks e s ∧ X.w = w ∧ X.h = s.h ∧ HInv X ∧ Step X0 X ∧ TInv X s a ∧ Away X b ∧ MapAt X.w b ks
/-- A piece of code beside a map: run where block b holds just the keys ks, it ends as Q says. -/
def SWPM (P : Program) (b : Nat) (X0 : Ctx) (c : Code) (s : DS) (ks : List (List UInt8)) (Q : List (List UInt8) → Exit → DS → Prop) : Prop :=
  Gnd P X0 → X0.w.heap.size ≤ b → ∀ (X : Ctx) (a : Act), X.h = s.h → HInv X → Step X0 X → TInv X s a → Away X b → MapAt X.w b ks → c.wp P (MPost b X0 Q) a X.w
def qmap (P : Program) (b : Nat) (X0 : Ctx) (y : Code) (ks : List (List UInt8)) (Q : List (List UInt8) → Exit → DS → Prop) : Exit → DS → Prop := fun e s' => match e with
  | .normal => SWPM P b X0 y s' ks Q
  | e => Q ks e s'
variable {s : DS} {ks : List (List UInt8)} {Q : List (List UInt8) → Exit → DS → Prop}
theorem qm_n {y : Code} {s : DS} : qmap P b X0 y ks Q .normal s = SWPM P b X0 y s ks Q := nr rfl
theorem qm_r {y : Code} {s : DS} : qmap P b X0 y ks Q .ret s = Q ks .ret s := nr rfl
theorem qm_e {y : Code} {id : Nat} {s : DS} : qmap P b X0 y ks Q (.exit id) s = Q ks (.exit id) s := nr rfl

theorem Away.cut {X : Ctx} (ha : Away X b) (n : Nat) : Away (X.cut n) b := ⟨ha.1, ha.2.1, fun id db g hd hl hg => ha.2.2 id db g (cut_some hd).1 hl hg⟩
theorem Away.ren {X : Ctx} (ha : Away X b) {p q : Nat} (hpq : p ≠ q) {k : Nat} {es : List (List PV)} (hq : X.h[q]? = some (.arr k es false)) : Away (X.ren p q) b := ⟨ha.1, ha.2.1, fun id db g hd hl hg => by
  rcases renH_at hpq hd hl with ⟨rfl, h1, _⟩ | ⟨h1, h2, x, h3, rfl⟩
  · simp only [Ctx.ren, if_true] at hg
    exact ha.2.2 q _ g h1 hl hg
  · simp only [Ctx.ren, if_neg h1] at hg
    refine ha.2.2 id x g h3 ?_ hg
    cases x <;> simp_all [DB.live, renB]⟩
def qloopM {α : Type} (n0 : Nat) (I : α → DS) (Kf : α → List (List UInt8)) (J : α → Prop) (μ : α → Nat) (x : α) (Q : List (List UInt8) → Exit → DS → Prop) (ks : List (List UInt8)) : Exit → DS → Prop := fun e s' => match e with
  | .normal => ∃ y, J y ∧ μ y < μ x ∧ ks = Kf y ∧ WeakR n0 s' (I y)
  | e => Q ks e s'
theorem qlm_r {α : Type} {n0 : Nat} {I : α → DS} {Kf : α → List (List UInt8)} {J : α → Prop} {μ : α → Nat} {x : α} {s : DS} : qloopM n0 I Kf J μ x Q ks .ret s = Q ks .ret s := nr rfl
theorem qlm_e {α : Type} {n0 : Nat} {I : α → DS} {Kf : α → List (List UInt8)} {J : α → Prop} {μ : α → Nat} {x : α} {id : Nat} {s : DS} : qloopM n0 I Kf J μ x Q ks (.exit id) s = Q ks (.exit id) s := nr rfl

/-! The same, at states that stand written out. -/
end rules

attribute [go_sem] qm_n qm_r qm_e qlm_r qlm_e

end Go.Dm

end
