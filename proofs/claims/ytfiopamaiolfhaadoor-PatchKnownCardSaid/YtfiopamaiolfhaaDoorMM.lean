/-
  Maps from strings to truth values, held beside the data: the operations on them. No condition beyond keys that a string may be.
-/
import Derived.Test.YtfiopamaiolfhaaDoorVE
import Derived.StringKeys
set_option linter.unusedSimpArgs false
set_option linter.unusedVariables false
namespace Go.Dm
open Go Go.WideMaps Go.MapKept Go.WideShapes

def strV (k : List UInt8) : Value := .string ⟨k.toArray⟩
theorem strV_inj {k k' : List UInt8} (h : strV k = strV k') : k = k' := by
  simp only [strV, Value.string.injEq, ByteArray.mk.injEq] at h
  exact List.toArray_inj h

/-- Block b is a map in which just the keys ks are true. -/
def MapAt (w : World) (b : Nat) (ks : List (List UInt8)) : Prop := ∃ es clock, w.heap[b]? = some (.map es clock) ∧
  (∀ e ∈ es.toList, ∃ k ∈ ks, e.key = strV k ∧ e.val = .bool true) ∧ ∀ k ∈ ks, k.length ≤ maxLen ∧ ∃ e ∈ es.toList, e.key = strV k

theorem MapAt.keys {P : Program} {kt : TypeId} (hk : P.underlying kt = some .string) {es : Array MapEntry} {ks : List (List UInt8)} (h1 : ∀ e ∈ es.toList, ∃ k ∈ ks, e.key = strV k ∧ e.val = .bool true) (h2 : ∀ k ∈ ks, k.length ≤ maxLen ∧ ∃ e ∈ es.toList, e.key = strV k) :
    ∀ e ∈ es.toList, ∃ l, keyOf P kt e.key = some l := fun e he => by
  obtain ⟨k, hk', he1, _⟩ := h1 e he
  rw [he1]
  exact ⟨_, keyOf_string_mk hk (by show k.toArray.size ≤ maxLen; simpa using (h2 k hk').1)⟩

theorem map_look {P : Program} {t kt et : TypeId} (ht : P.underlying t = some (.map kt et)) (hk : P.underlying kt = some .string) {w : World} {b : Nat} {ks : List (List UInt8)} (hz : (zeroValue et).run P w = .ok (.bool false) w) (h : MapAt w b ks) {k : List UInt8} (hl : k.length ≤ maxLen) :
    (Instr.lookup t (.map (some b)) (strV k) false).run P w = .ok (.bool (ks.contains k)) w := by
  obtain ⟨es, clock, hb, h1, h2⟩ := h
  have K := string_law hk
  have hkey : keyOf P kt (strV k) = some (.string k) := keyOf_string_mk hk (by show k.toArray.size ≤ maxLen; simpa using hl)
  rcases K.find w hkey es.toList (MapAt.keys hk h1 h2) with ⟨f1, f2⟩ | ⟨j, e, f1, f2, f3⟩
  · have hc : ks.contains k = false := by
      rw [Bool.eq_false_iff]
      intro hc
      obtain ⟨_, e, he, hek⟩ := h2 k (by simpa using hc)
      exact f2 e he hek
    rw [hc]
    simp [Instr.lookup, run_underlying ht, MapKept.run_getObj_map hb, K.check w _ hkey, f1, hz, Result.andThen]
  · obtain ⟨k', hk', he1, he2⟩ := h1 e (List.mem_of_getElem? f2)
    have : k' = k := strV_inj (he1.symm.trans f3)
    subst this
    have hc : ks.contains k' = true := by simpa using hk'
    rw [hc]
    simp [Instr.lookup, run_underlying ht, MapKept.run_getObj_map hb, K.check w _ hkey, f1, he2, Result.andThen]

theorem map_put {P : Program} {t kt et : TypeId} (ht : P.underlying t = some (.map kt et)) (hk : P.underlying kt = some .string) {w : World} {b : Nat} {ks : List (List UInt8)} (h : MapAt w b ks) {k : List UInt8} (hl : k.length ≤ maxLen) :
    ∃ o, (Instr.mapUpdate t (.map (some b)) (strV k) (.bool true)).run P w = .ok () { w with heap := w.heap.setIfInBounds b o } ∧ MapAt { w with heap := w.heap.setIfInBounds b o } b (k :: ks) := by
  obtain ⟨es, clock, hb, h1, h2⟩ := h
  have K := string_law hk
  have hlt : b < w.heap.size := (Array.getElem?_eq_some_iff.1 hb).1
  have hat : ∀ o : Obj, ({ w with heap := w.heap.setIfInBounds b o } : World).heap[b]? = some o := fun o => by
    show (w.heap.setIfInBounds b o)[b]? = some o
    rw [Array.getElem?_setIfInBounds_self_of_lt hlt]
  have hkey : keyOf P kt (strV k) = some (.string k) := keyOf_string_mk hk (by show k.toArray.size ≤ maxLen; simpa using hl)
  rcases K.find w hkey es.toList (MapAt.keys hk h1 h2) with ⟨f1, f2⟩ | ⟨j, e, f1, f2, f3⟩
  · refine ⟨.map (es.push { key := strV k, val := .bool true, born := clock }) (clock + 1), ?_, _, _, hat _, fun e he => ?_, fun k' hk' => ?_⟩
    · simp [Instr.mapUpdate, run_underlying ht, MapKept.run_getObj_map hb, K.check w _ hkey, f1, MapKept.run_setObj_map _ hb, Result.andThen]
    · simp only [Array.toList_push, List.mem_append, List.mem_singleton] at he
      rcases he with he | rfl
      · obtain ⟨k', g1, g2⟩ := h1 e he
        exact ⟨k', List.mem_cons_of_mem _ g1, g2⟩
      · exact ⟨k, List.mem_cons_self, rfl, rfl⟩
    · rcases List.mem_cons.1 hk' with rfl | hk'
      · exact ⟨hl, { key := strV k', val := .bool true, born := clock }, by simp, rfl⟩
      · obtain ⟨g1, e, g2, g3⟩ := h2 k' hk'
        exact ⟨g1, e, by simp at g2 ⊢; exact .inl g2, g3⟩
  · have hj : es[j]? = some e := by simpa using f2
    obtain ⟨k', hk', he1, he2⟩ := h1 e (List.mem_of_getElem? f2)
    have : k' = k := strV_inj (he1.symm.trans f3)
    subst this
    refine ⟨.map (es.modify j fun e => { e with key := strV k', val := .bool true }) clock, ?_, _, _, hat _, fun e' he => ?_, fun k2 hk2 => ?_⟩
    · have hs : (Instr.keyThatStays (strV k') (strV k')).run P w = .ok (strV k') w := K.stays w hkey
      simp [Instr.mapUpdate, run_underlying ht, MapKept.run_getObj_map hb, K.check w _ hkey, f1, hj, f3, hs, MapKept.run_setObj_map _ hb, Result.andThen]
    · obtain ⟨i, hi⟩ := List.mem_iff_getElem?.1 he
      rw [Array.getElem?_toList, Array.getElem?_modify] at hi
      split at hi
      · cases hx : es[i]? with
        | none => rw [hx] at hi; cases hi
        | some x =>
          rw [hx] at hi
          simp only [Option.map_some, Option.some.injEq] at hi
          subst hi
          exact ⟨k', List.mem_cons_self, rfl, rfl⟩
      · obtain ⟨k2, g1, g2⟩ := h1 e' (List.mem_iff_getElem?.2 ⟨i, by rw [Array.getElem?_toList]; exact hi⟩)
        exact ⟨k2, List.mem_cons_of_mem _ g1, g2⟩
    · have key : k2.length ≤ maxLen ∧ ∃ e ∈ es.toList, e.key = strV k2 := by
        rcases List.mem_cons.1 hk2 with rfl | hk2
        · exact ⟨hl, e, List.mem_of_getElem? f2, f3⟩
        · exact h2 k2 hk2
      obtain ⟨g1, e2, g2, g3⟩ := key
      refine ⟨g1, ?_⟩
      obtain ⟨i, hi⟩ := List.mem_iff_getElem?.1 g2
      rw [Array.getElem?_toList] at hi
      by_cases hij : j = i
      · subst hij
        rw [hj] at hi
        cases hi
        refine ⟨{ e with key := strV k', val := .bool true }, List.mem_iff_getElem?.2 ⟨j, ?_⟩, f3.symm.trans g3⟩
        rw [Array.getElem?_toList, Array.getElem?_modify, if_pos rfl, hj]; rfl
      · refine ⟨e2, List.mem_iff_getElem?.2 ⟨i, ?_⟩, g3⟩
        rw [Array.getElem?_toList, Array.getElem?_modify, if_neg hij, hi]

/-! A block of memory that no data stand on. -/
def Away (X : Ctx) (b : Nat) : Prop := b < X.w.heap.size ∧ ¬ X.S b ∧ ∀ id db g, X.h[id]? = some db → db.live = true → X.G id = some g → g.1 ≠ b

theorem Away.step {X X' : Ctx} {b : Nat} (ha : Away X b) (hi' : HInv X') (hs : Step X X') : Away X' b ∧ X'.w.heap[b]? = X.w.heap[b]? := by
  obtain ⟨h1, h2, h3⟩ := ha
  have hS : ¬ X'.S b := fun h => by
    rcases hs.upper b h with h | h | ⟨id, db, g, hd, hl, hg, e⟩
    · exact h2 h
    · omega
    · exact h3 id db g hd hl hg e
  refine ⟨⟨Nat.lt_of_lt_of_le h1 hs.size, hS, fun id db g hd hl hg e => ?_⟩, hs.frame b h1 fun id db g hd hl _ hg => h3 id db g hd hl hg⟩
  cases hf : db.fix
  · rcases hs.mine id db g hd hl hf hg with h | ⟨id0, db0, g0, hd0, hl0, _, hg0, e0⟩
    · omega
    · exact h3 id0 db0 g0 hd0 hl0 hg0 (e0.trans e)
  · exact hS (e ▸ (hi'.own id db g hd hl hg).2 hf)

theorem MapAt.same {w w' : World} {b : Nat} {ks : List (List UInt8)} (h : MapAt w b ks) (e : w'.heap[b]? = w.heap[b]?) : MapAt w' b ks := by
  obtain ⟨es, c, h1, h2⟩ := h
  exact ⟨es, c, e.trans h1, h2⟩

section put
variable {X : Ctx} {b : Nat} {o : Obj}
def Ctx.setB (X : Ctx) (b : Nat) (o : Obj) : Ctx := X.at_ { X.w with heap := X.w.heap.setIfInBounds b o }
theorem setB_ne {c : Nat} (h : c ≠ b) : (X.setB b o).w.heap[c]? = X.w.heap[c]? := by
  show (X.w.heap.setIfInBounds b o)[c]? = _
  rw [Array.getElem?_setIfInBounds_ne (Ne.symm h)]
theorem setB_kept (ha : Away X b) : Kept X.w (X.setB b o).w X.S X.S := fun c hc => ⟨hc, setB_ne fun e => ha.2.1 (e ▸ hc)⟩
theorem relK_setB (ha : Away X b) {x : KV} {v : Value} (h : RelK X x v) : RelK (X.setB b o) x v := by
  cases x <;> simp only [RelK] at h ⊢
  case p => exact RelP.kept (setB_kept ha) h
  case ptr => exact h
theorem relKs_setB (ha : Away X b) : ∀ {xs : List KV} {vs : List Value}, RelKs X xs vs → RelKs (X.setB b o) xs vs
  | [], [], _ => True.intro
  | _ :: _, _ :: _, h => ⟨relK_setB ha h.1, relKs_setB ha h.2⟩
  | [], _ :: _, h => h.elim
  | _ :: _, [], h => h.elim
theorem relC_setB (ha : Away X b) {x : CV} {v : Value} (h : RelC X x v) : RelC (X.setB b o) x v := by
  cases x <;> simp only [RelC] at h ⊢
  case p => exact RelP.kept (setB_kept ha) h
  case own id off len =>
    obtain ⟨h1, h2, h3⟩ := h
    refine ⟨h1, h2, fun k es ro hd => ?_⟩
    obtain ⟨h4, h5⟩ := h3 k es ro hd
    refine ⟨h4, ?_⟩
    show match X.G id with | none => _ | some g => _
    cases hg : X.G id with
    | none => rw [hg] at h5; exact h5
    | some g =>
      rw [hg] at h5
      obtain ⟨cap, q, arr, el, fz, h6, h7⟩ := h5
      exact ⟨cap, q, arr, el, fz, (setB_ne (ha.2.2 id _ g hd rfl hg)).trans h6, h7⟩
  case ptr => exact h
  case aptr => exact h
  case eptr =>
    obtain ⟨bl, off, h1, h2, h3⟩ := h
    exact ⟨bl, off, h1, h2, RelE.kept (setB_kept ha) h2 h3⟩
  case full =>
    obtain ⟨a, h1, h2⟩ := h
    refine ⟨a, h1, h2.imp id ?_⟩
    rintro ⟨bl, off, h3, h4, h5⟩
    exact ⟨bl, off, h3, h4, RelL.kept (setB_kept ha) h4 h5⟩
  case clo =>
    obtain ⟨vs, h1, h2⟩ := h
    exact ⟨vs, h1, relKs_setB ha h2⟩
theorem relCs_setB (ha : Away X b) : ∀ {xs : List CV} {vs : List Value}, RelCs X xs vs → RelCs (X.setB b o) xs vs
  | [], [], _ => True.intro
  | _ :: _, _ :: _, h => ⟨relC_setB ha h.1, relCs_setB ha h.2⟩
  | [], _ :: _, h => h.elim
  | _ :: _, [], h => h.elim
theorem relEV_setB (ha : Away X b) {x : EV} {v : Value} (h : RelEV X x v) : RelEV (X.setB b o) x v := by
  cases x <;> simp only [RelEV] at h ⊢
  case c => exact relC_setB ha h
  case agg => obtain ⟨vs, h1, h2⟩ := h; exact ⟨vs, h1, relCs_setB ha h2⟩
theorem relEVs_setB (ha : Away X b) : ∀ {xs : List EV} {vs : List Value}, RelEVs X xs vs → RelEVs (X.setB b o) xs vs
  | [], [], _ => True.intro
  | _ :: _, _ :: _, h => ⟨relEV_setB ha h.1, relEVs_setB ha h.2⟩
  | [], _ :: _, h => h.elim
  | _ :: _, [], h => h.elim
theorem relD_setB (ha : Away X b) {x : DV} {v : Value} (h : RelD X x v) : RelD (X.setB b o) x v := by
  cases x <;> simp only [RelD] at h ⊢
  case c => exact relC_setB ha h
  case agg => obtain ⟨vs, h1, h2⟩ := h; exact ⟨vs, h1, relCs_setB ha h2⟩
  case tup => obtain ⟨vs, h1, h2⟩ := h; exact ⟨vs, h1, relEVs_setB ha h2⟩
theorem relB_setB (ha : Away X b) {id : Nat} {db : DB} (hd : X.h[id]? = some db) (h : RelB X id db) : RelB (X.setB b o) id db := by
  cases db <;> simp only [RelB] at h ⊢
  case box =>
    obtain ⟨g, arr, el, fz, h1, h2, h3, h4, h5⟩ := h
    have hb : (X.setB b o).w.heap[g.1]? = X.w.heap[g.1]? := setB_ne (ha.2.2 id _ g hd rfl h1)
    refine ⟨g, arr, el, fz, h1, hb.trans h2, h3, h4, RelBox.mk fun j c hj => ?_⟩
    obtain ⟨v, g1, g2⟩ := h5.at_ hj
    exact ⟨v, by rw [World.cell?_of_block (a := ⟨g.1, g.2 + j, none⟩) hb]; exact g1, relC_setB ha g2⟩
  case arr =>
    rcases h with h | ⟨g, arr, el, fz, h1, h2, h3, h4, h5⟩
    · exact .inl h
    · have hb : (X.setB b o).w.heap[g.1]? = X.w.heap[g.1]? := setB_ne (ha.2.2 id _ g hd rfl h1)
      exact .inr ⟨g, arr, el, fz, h1, hb.trans h2, h3, h4, h5.move (setB_kept ha) hb⟩
theorem HInv.setB (hi : HInv X) (ha : Away X b) : HInv (X.setB b o) where
  slt := fun c hc => by
    show c < (X.w.heap.setIfInBounds b o).size
    rw [Array.size_setIfInBounds]; exact hi.slt c hc
  blk := fun id db h => relB_setB ha h (hi.blk id db h)
  own := hi.own
  inj := hi.inj
theorem Away.setB (ha : Away X b) : Away (X.setB b o) b :=
  ⟨by show b < (X.w.heap.setIfInBounds b o).size; rw [Array.size_setIfInBounds]; exact ha.1, ha.2⟩
theorem Step.setB {X0 : Ctx} (hs : Step X0 X) (h0 : X0.w.heap.size ≤ b) (ha : Away X b) : Step X0 (X.setB b o) where
  size := by
    show _ ≤ (X.w.heap.setIfInBounds b o).size
    rw [Array.size_setIfInBounds]; exact hs.size
  os := hs.os
  tape := hs.tape
  output := hs.output
  kept := fun c hc => ⟨(hs.kept c hc).1, (setB_ne (show c ≠ b from fun e => ha.2.1 (e ▸ (hs.kept c hc).1))).trans (hs.kept c hc).2⟩
  len := hs.len
  ids := fun id db' hid hd hl => by
    obtain ⟨db, h1, h2, h3, h4⟩ := hs.ids id db' hid hd hl
    exact ⟨db, h1, h2, h3, fun g hg => by rw [setB_ne (ha.2.2 id db' g hd hl (h3.trans hg))]; exact h4 g hg⟩
  frame := fun c hc hn => (setB_ne (by omega)).trans (hs.frame c hc hn)
  mine := hs.mine
  upper := hs.upper
theorem TInv.setB {s : DS} {a : Act} (ha : Away X b) (ht : TInv X s a) : TInv (X.setB b o) s a := ⟨ht.size, fun i => relD_setB ha (ht.rel i), ht.defs⟩
end put

end Go.Dm
