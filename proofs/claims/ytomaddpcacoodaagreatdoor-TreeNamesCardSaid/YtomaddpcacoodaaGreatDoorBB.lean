/-
  The bridges to the shelf's contracts over slices of strings. No condition.
-/
import Derived.Test.YtomaddpcacoodaaGreatDoorSA
import Derived.Sort.Grow
import Derived.Sort.Row
import Derived.Sort.EncStr
import Derived.Lib.SlicesCompact
import Derived.Laws.AppendOwn
import Derived.Test.YtomaddpcacoodaaGreatDoorSB
import Derived.Shelf.Small.Strs
set_option linter.unusedSimpArgs false
set_option linter.unusedVariables false

section
/-
  The bridge to the shelf's contracts over a slice of strings: the sort. No condition.
-/
namespace Go.Dm
open Go Go.Sort Go.Proofs

theorem relL_strs {w : World} {S : Nat → Prop} {bl : Nat} : ∀ {ss : List (List UInt8)} {off : Nat}, RelL w S 1 bl off (encS ss) ↔ ∀ j (hj : j < ss.length), w.cell? ⟨bl, off + j, none⟩ = some (.string ⟨ss[j].toArray⟩)
  | [], off => by simp [encS, RelL]
  | a :: ss, off => by
    have ih := @relL_strs w S bl ss (off + 1)
    show ((([PV.s a] : List PV).length = 1 ∧ RelE w S bl off [.s a]) ∧ RelL w S 1 bl (off + 1) (encS ss)) ↔ _
    rw [ih]
    simp only [RelE, RelP, List.length_cons, List.length_nil, and_true, true_and]
    constructor
    · rintro ⟨⟨v, h1, rfl⟩, h2⟩ j hj
      cases j with
      | zero => exact h1
      | succ j => simpa [Nat.add_assoc, Nat.add_comm 1 j] using h2 j (by simpa using hj)
    · intro h
      refine ⟨⟨_, by simpa using h 0 (by simp), rfl⟩, fun j hj => ?_⟩
      have := h (j + 1) (by simpa using hj)
      rw [show off + (j + 1) = off + 1 + j by omega] at this
      exact this

theorem grow_old {w : World} {os : Array Obj} {b : Nat} (hb : b < w.heap.size) : (grow w os).heap[b]? = w.heap[b]? := by
  simp only [grow]; exact Array.getElem?_append_left hb
theorem SameO.lt {w : World} {b : Nat} {o : Option Obj} (h : SameO (w.heap[b]?) o) : b < w.heap.size := by
  obtain ⟨arr, el, fz, _, _, _, h1, _⟩ := h
  rcases Nat.lt_or_ge b w.heap.size with hb | hb
  · exact hb
  · rw [Array.getElem?_eq_none hb] at h1; cases h1
theorem Step.grew {X : Ctx} (hi : HInv X) (os : Array Obj) : Step X (X.at_ (grow X.w os)) where
  size := by simp only [Ctx.at_, grow, Array.size_append]; omega
  os := rfl
  tape := rfl
  output := rfl
  kept := fun b hb => ⟨hb, grow_old (hi.slt b hb)⟩
  len := Nat.le_refl _
  ids := fun id db' _ h hl => ⟨db', h, SameB.refl hl, rfl, fun g hg => by
    have h1 := (hi.blk id db' h).same hl g hg
    rw [show (X.at_ (grow X.w os)).w.heap[g.1]? = X.w.heap[g.1]? from grow_old h1.lt]; exact h1⟩
  frame := fun b hb _ => grow_old hb
  mine := fun id db g h hl hf hg => .inr ⟨id, db, g, h, hl, hf, hg, rfl⟩
  upper := fun _ h => .inl h
theorem HInv.grew {X : Ctx} (hi : HInv X) (os : Array Obj) : HInv (X.at_ (grow X.w os)) where
  slt := fun b hb => by have := hi.slt b hb; simp only [Ctx.at_, grow, Array.size_append]; omega
  blk := fun id db h => by
    by_cases hl : db.live = true
    · exact (hi.blk id db h).move (Step.grew hi os) rfl fun g hg => grow_old ((hi.blk id db h).same hl g hg).lt
    · cases db <;> simp_all [DB.live, RelB]
  own := hi.own
  inj := hi.inj

theorem holds_strs {w : World} {S : Nat → Prop} {bl off : Nat} {ss : List (List UInt8)} {arr : Array Value} {el : TypeId} {fz : Nat × Nat} (hb : w.heap[bl]? = some (.cells arr el fz)) (hf : Free fz off arr.size) (hs : off + ss.length ≤ arr.size) (hl : RelL w S 1 bl off (encS ss)) : Holds encStr w bl off ss.toArray := by
  intro j hj
  have hj' : j < ss.length := by simpa using hj
  refine ⟨?_, ?_⟩
  · rw [relL_strs.1 hl j hj']
    simp [hj']
  · have := hf.at_ (off + j) (by omega) (by omega)
    simp only [World.frozen?, hb]
    simpa using this
theorem touched_putRow {w : World} {n bl off : Nat} {d : Array (List UInt8)} {arr : Array Value} {el : TypeId} {fz : Nat × Nat} (hb : w.heap[bl]? = some (.cells arr el fz)) : Touched w (putRow encStr (Sort.ahead w n) bl off d) bl where
  os := rfl
  tape := rfl
  output := rfl
  size := by simp
  other := fun b hne => by simp [putRow, mapBlock, Array.getElem?_modify, Ne.symm hne]
  here := ⟨arr, el, fz, putCells encStr off d arr, el, fz, hb, by simp [putRow, mapBlock, Array.getElem?_modify, hb, onCells], by simp [putCells]⟩

/-- The sort's contract over data, out of the shelf's one. -/
theorem dcalls_sort {P : Program} {f : FuncId} (hen : ∀ (vals : List Value) (w : World), (callFunc f vals.toArray).run P w = .ok (.enter f vals.toArray) w)
    (hS : ∀ (blk off cap : Nat) (ss : List (List UInt8)) (w : World), Holds encStr w blk off ss.toArray → blk < w.heap.size → ss.length < 4611686018427387904 →
      Calls P f #[.slice (some ⟨blk, off, none⟩) ss.length cap] w fun e w' => e = .returned (.tuple #[]) ∧ ∃ n os, w' = grow (putRow encStr (Sort.ahead w n) blk off (ss.mergeSort fun x y => decide (x ≤ y)).toArray) os)
    (hN : ∀ (p : Option Addr) (cap : Nat) (w : World), Calls P f #[.slice p 0 cap] w fun e w' => e = .returned (.tuple #[]) ∧ w' = w)
    {h : DHeap} {id : Nat} {ss : List (List UInt8)} (hid : h[id]? = some (.arr 1 (encS ss) false)) (hsz : ss.length < 4611686018427387904) :
    DCalls P f [.c (.own id 0 ss.length)] h fun d h' => d = .tup [] ∧ h' = h.set id (.arr 1 (encS (ss.mergeSort fun x y => decide (x ≤ y))) false) := by
  intro X vals hh hi gd hr
  subst hh
  obtain ⟨v, rfl, hv⟩ : ∃ v, vals = [v] ∧ RelD X (.c (.own id 0 ss.length)) v := by
    cases vals with
    | nil => exact hr.elim
    | cons v vs => cases vs with
      | nil => exact ⟨v, rfl, hr.1⟩
      | cons _ _ => exact hr.2.elim
  refine .inl ⟨hen _ _, ?_⟩
  obtain ⟨h1, h2, h3⟩ := hv
  obtain ⟨h4, h5⟩ := h3 _ _ _ hid
  have hb := hi.blk id _ hid
  have e0 : ss = [] → X.h.set id (.arr 1 (encS (ss.mergeSort fun x y => decide (x ≤ y))) false) = X.h := by
    rintro rfl
    rw [List.mergeSort_nil]
    exact (List.getElem?_eq_some_iff.1 hid).elim fun hlt he => by rw [← he]; exact List.set_getElem_self hlt
  have fin0 : ss = [] → ∀ (p : Option Addr) (cap : Nat), v = .slice p 0 cap → Calls P f [v].toArray X.w fun e w' => ∃ v, e = .returned v ∧ Ret X (fun d h' => d = .tup [] ∧ h' = X.h.set id (.arr 1 (encS (ss.mergeSort fun x y => decide (x ≤ y))) false)) v w' := by
    rintro hs p cap rfl
    refine (hN p cap X.w).mono ?_
    rintro e w' ⟨rfl, rfl⟩
    exact ⟨_, rfl, .tup [], X, rfl, hi, Step.refl hi, ⟨[], rfl, True.intro⟩, rfl, (e0 hs).symm⟩
  cases hg : X.G id with
  | none =>
    rw [hg] at h5
    simp only at h5
    have hs : ss = [] := by
      rcases hb with hb | ⟨g, _, _, _, hb, _⟩
      · simpa [encS] using hb.2
      · rw [hg] at hb; cases hb
    exact fin0 hs _ _ h5
  | some g =>
    rw [hg] at h5
    simp only at h5
    obtain ⟨cap, o, arr, el, fz, k1, k2, k3, k4, k5, k6⟩ := h5
    by_cases hz : ss.length = 0
    · rw [hz] at k2
      exact fin0 (List.length_eq_zero_iff.1 hz) _ _ k2
    · have ho : o = g.2 := by rcases k3 with k3 | k3 <;> omega
      subst ho
      rcases hb with hb | ⟨g', arr', el', fz', b1, b2, b3, b4, b5⟩
      · rw [hg] at hb; cases hb.1
      rw [hg] at b1; cases b1
      rw [k1] at b2; cases b2
      rw [encS_len, Nat.mul_one] at b3
      have hH := holds_strs k1 b4 b3 b5
      have hlt : g.1 < X.w.heap.size := by
        rcases Nat.lt_or_ge g.1 X.w.heap.size with hb | hb
        · exact hb
        · rw [Array.getElem?_eq_none hb] at k1; cases k1
      subst k2
      refine (hS g.1 g.2 cap ss X.w hH hlt hsz).mono ?_
      rintro e w' ⟨rfl, n, os, rfl⟩
      generalize hst : (ss.mergeSort fun x y => decide (x ≤ y)) = st
      have hsl : st.length = ss.length := by rw [← hst]; exact List.length_mergeSort ..
      have ht := touched_putRow (n := n) (off := g.2) (d := st.toArray) k1
      have hsb : SameB (.arr 1 (encS ss) false) (.arr 1 (encS st) false) := ⟨rfl, by rw [encS_len, encS_len]; omega⟩
      have hbb : RelB (X.put (putRow encStr (Sort.ahead X.w n) g.1 g.2 st.toArray) id (.arr 1 (encS st) false)) id (.arr 1 (encS st) false) := by
        refine .inr ⟨g, putCells encStr g.2 st.toArray arr, el, fz, hg, by simp [Ctx.put, putRow, mapBlock, Array.getElem?_modify, k1, onCells], ?_, ?_, ?_⟩
        · rw [encS_len, Nat.mul_one, hsl]; simpa [putCells] using b3
        · simpa [putCells] using b4
        · refine relL_strs.2 fun j hj => ?_
          have := cell?_putRow encStr (Sort.ahead X.w n) g.1 g.2 ss.toArray st.toArray (fun j hj => hH j hj) (by simpa using hsl) j (by simpa using hj)
          show (putRow encStr (Sort.ahead X.w n) g.1 g.2 st.toArray).cell? _ = _
          rw [this]
          simp [hj]
      have hi1 := HInv.put hi hid rfl rfl hg ht hsb rfl hbb
      have hs1 := Step.put hi hid rfl rfl hg ht hsb rfl
      exact ⟨_, rfl, .tup [], _, rfl, HInv.grew hi1 os, hs1.trans hi1 (Step.grew hi1 os), ⟨[], rfl, True.intro⟩, rfl, rfl⟩
end Go.Dm
end

section
/-
  The bridge to the shelf's contracts over a slice of strings: the compaction. No condition.
-/
namespace Go.Dm
open Go Go.Sort Go.Proofs

/-- The compaction's contract over data, out of the shelf's one. -/
theorem dcalls_compact {P : Program} {f : FuncId} (hen : ∀ (vals : List Value) (w : World), (callFunc f vals.toArray).run P w = .ok (.enter f vals.toArray) w)
    (hS : ∀ (blk off cap : Nat) (ss : List (List UInt8)) (w : World), Holds encStr w blk off ss.toArray → ss.length ≤ 9223372036854775807 → ss.length ≤ cap →
      Calls P f #[.slice (some ⟨blk, off, none⟩) ss.length cap] w fun e w' => e = .returned (.slice (some ⟨blk, off, none⟩) (Lib.compact ss).length cap) ∧ ∃ q, w' = putRow encStr (Sort.ahead w q) blk off (Lib.compact ss ++ List.replicate (ss.length - (Lib.compact ss).length) []).toArray)
    (hN : ∀ (p : Option Addr) (cap : Nat) (w : World), Calls P f #[.slice p 0 cap] w fun e w' => e = .returned (.slice p 0 cap) ∧ w' = w)
    {h : DHeap} {id : Nat} {ss : List (List UInt8)} (hid : h[id]? = some (.arr 1 (encS ss) false)) (hsz : ss.length < 4611686018427387904) (hcl : ∀ l : List (List UInt8), (Lib.compact l).length ≤ l.length) :
    DCalls P f [.c (.own id 0 ss.length)] h fun d h' => d = .c (.own id 0 (Lib.compact ss).length) ∧ h' = h.set id (.arr 1 (encS (Lib.compact ss ++ List.replicate (ss.length - (Lib.compact ss).length) [])) false) := by
  intro X vals hh hi gd hr
  subst hh
  obtain ⟨v, rfl, hv⟩ : ∃ v, vals = [v] ∧ RelD X (.c (.own id 0 ss.length)) v := by
    cases vals with
    | nil => exact hr.elim
    | cons v vs => cases vs with
      | nil => exact ⟨v, rfl, hr.1⟩
      | cons _ _ => exact hr.2.elim
  refine .inl ⟨hen _ _, ?_⟩
  obtain ⟨h1, h2, h3⟩ := hv
  obtain ⟨h4, h5⟩ := h3 _ _ _ hid
  have hb := hi.blk id _ hid
  have e0 : ss = [] → X.h.set id (.arr 1 (encS (Lib.compact ss ++ List.replicate (ss.length - (Lib.compact ss).length) [])) false) = X.h := by
    rintro rfl
    rw [show (Lib.compact [] ++ List.replicate (List.length ([] : List (List UInt8)) - (Lib.compact ([] : List (List UInt8))).length) [] : List (List UInt8)) = [] from rfl]
    exact (List.getElem?_eq_some_iff.1 hid).elim fun hlt he => by rw [← he]; exact List.set_getElem_self hlt
  have fin0 : ss = [] → ∀ (p : Option Addr) (cap : Nat), v = .slice p 0 cap → Calls P f [v].toArray X.w fun e w' => ∃ v, e = .returned v ∧ Ret X (fun d h' => d = .c (.own id 0 (Lib.compact ss).length) ∧ h' = X.h.set id (.arr 1 (encS (Lib.compact ss ++ List.replicate (ss.length - (Lib.compact ss).length) [])) false)) v w' := by
    rintro hs p cap rfl
    refine (hN p cap X.w).mono ?_
    rintro e w' ⟨rfl, rfl⟩
    refine ⟨_, rfl, .c (.own id 0 (Lib.compact ss).length), X, rfl, hi, Step.refl hi, ?_, rfl, (e0 hs).symm⟩
    subst hs; exact ⟨h1, h2, h3⟩
  cases hg : X.G id with
  | none =>
    rw [hg] at h5
    simp only at h5
    have hs : ss = [] := by
      rcases hb with hb | ⟨g, _, _, _, hb, _⟩
      · simpa [encS] using hb.2
      · rw [hg] at hb; cases hb
    exact fin0 hs _ _ h5
  | some g =>
    rw [hg] at h5
    simp only at h5
    obtain ⟨cap, o, arr, el, fz, k1, k2, k3, k4, k5, k6⟩ := h5
    by_cases hz : ss.length = 0
    · rw [hz] at k2
      exact fin0 (List.length_eq_zero_iff.1 hz) _ _ k2
    · have ho : o = g.2 := by rcases k3 with k3 | k3 <;> omega
      subst ho
      rcases hb with hb | ⟨g', arr', el', fz', b1, b2, b3, b4, b5⟩
      · rw [hg] at hb; cases hb.1
      rw [hg] at b1; cases b1
      rw [k1] at b2; cases b2
      rw [encS_len, Nat.mul_one] at b3
      have hH := holds_strs k1 b4 b3 b5
      have hlt : g.1 < X.w.heap.size := by
        rcases Nat.lt_or_ge g.1 X.w.heap.size with hb | hb
        · exact hb
        · rw [Array.getElem?_eq_none hb] at k1; cases k1
      subst k2
      refine (hS g.1 g.2 cap ss X.w hH (by omega) k4).mono ?_
      rintro e w' ⟨rfl, n, rfl⟩
      generalize hst : (Lib.compact ss ++ List.replicate (ss.length - (Lib.compact ss).length) []) = st
      have hsl : st.length = ss.length := by rw [← hst]; have := hcl ss; simp; omega
      have ht := touched_putRow (n := n) (off := g.2) (d := st.toArray) k1
      have hsb : SameB (.arr 1 (encS ss) false) (.arr 1 (encS st) false) := ⟨rfl, by rw [encS_len, encS_len]; omega⟩
      have hbb : RelB (X.put (putRow encStr (Sort.ahead X.w n) g.1 g.2 st.toArray) id (.arr 1 (encS st) false)) id (.arr 1 (encS st) false) := by
        refine .inr ⟨g, putCells encStr g.2 st.toArray arr, el, fz, hg, by simp [Ctx.put, putRow, mapBlock, Array.getElem?_modify, k1, onCells], ?_, ?_, ?_⟩
        · rw [encS_len, Nat.mul_one, hsl]; simpa [putCells] using b3
        · simpa [putCells] using b4
        · refine relL_strs.2 fun j hj => ?_
          have := cell?_putRow encStr (Sort.ahead X.w n) g.1 g.2 ss.toArray st.toArray (fun j hj => hH j hj) (by simpa using hsl) j (by simpa using hj)
          show (putRow encStr (Sort.ahead X.w n) g.1 g.2 st.toArray).cell? _ = _
          rw [this]
          simp [hj]
      have hi1 := HInv.put hi hid rfl rfl hg ht hsb rfl hbb
      have hs1 := Step.put hi hid rfl rfl hg ht hsb rfl
      refine ⟨_, rfl, .c (.own id 0 (Lib.compact ss).length), _, rfl, hi1, hs1, ⟨by simpa [Ctx.put] using h1, rfl, fun k es ro hd => ?_⟩, rfl, rfl⟩
      rcases put_some hd with ⟨_, he, _⟩ | ⟨hne, _⟩
      · cases he
        have := hcl ss
        refine ⟨by rw [encS_len]; omega, ?_⟩
        rw [show (X.put (putRow encStr (Sort.ahead X.w n) g.1 g.2 st.toArray) id (.arr 1 (encS st) false)).G id = some g from hg]
        refine ⟨cap, g.2, putCells encStr g.2 st.toArray arr, el, fz, by simp [Ctx.put, putRow, mapBlock, Array.getElem?_modify, k1, onCells], rfl, .inr (by omega), by omega, k5, by simpa [putCells] using k6⟩
      · exact absurd rfl hne
end Go.Dm
end

section
/-
  The bridge to the shelf's contract of slices.Grow at a nil slice. No condition.
-/
namespace Go.Dm
open Go Go.Lib Go.Proofs

theorem dcalls_grow {P : Program} {T : Tab} (hT : TabOK P T) {f : FuncId} {e : Nat} (hk : (T e).k ≠ .no) (hs : 0 < (T e).size)
    (hen : ∀ (vals : List Value) (w : World), (callFunc f vals.toArray).run P w = .ok (.enter f vals.toArray) w)
    (hR : ∀ w : World, Calls P f #[.slice none 0 0, .int .i64 (0 : Nat)] w fun e w' => e = .returned (.slice none 0 0) ∧ w' = w)
    (hG : ∀ (i0 : TypeInfo) (z : Value) (n : Nat) (w : World), P.info? e = some i0 → i0.zero = some z → 0 < i0.size → 0 < n → n * i0.bytes ≤ 140737488355328 → n ≤ 4611686018427387904 →
      Calls P f #[.slice none 0 0, .int .i64 n] w fun e' w' => e' = .returned (.slice (some ⟨w.heap.size, 0, none⟩) 0 (grownCap w n 0 e)) ∧
        w' = w.drew.alloc (.cells (#[] ++ Builtin.zeroCells z.cells n ++ Builtin.zeroCells z.cells (grownCap w n 0 e - n)) e))
    {h : DHeap} {n : Nat} (hb : n * (T e).bytes ≤ 140737488355328) (hn : n ≤ 4611686018427387904) :
    DCalls P f [.c (.p .nil), .c (.p (.i .i64 n))] h fun d h' => d = .c (.own h.length 0 0) ∧ h' = h ++ [.arr (T e).size [] false] := by
  intro X vals hh hi gd hr
  subst hh
  obtain ⟨rfl⟩ : vals = [.slice none 0 0, .int .i64 n] := by
    cases vals with
    | nil => exact hr.elim
    | cons v vs => cases vs with
      | nil => exact hr.2.elim
      | cons u us => cases us with
        | cons _ _ => exact hr.2.2.elim
        | nil =>
          have h1 : v = .slice none 0 0 := hr.1
          have h2 : u = .int .i64 n := hr.2.1
          rw [h1, h2]
  refine .inl ⟨hen _ _, ?_⟩
  rcases Nat.eq_zero_or_pos n with rfl | hp
  · refine (hR X.w).mono ?_
    rintro e w' ⟨rfl, rfl⟩
    obtain ⟨h1, h2⟩ := virt hi (T _).size
    exact ⟨_, rfl, .c (.own X.h.length 0 0), X.virt _, rfl, h2, h1, virt_nil rfl, rfl, rfl⟩
  · obtain ⟨_, i, z, g1, g2, g3, g4, g5, g6, g7, g8⟩ := tab_info hT hk
    have hz : z.cells.size = (T e).size := by
      have := congrArg List.length g5
      simp only [List.length_map] at this
      rw [g6, this]; simp
    refine (hG i z n X.w g1 g4 (by omega) hp (by rw [g3]; exact hb) hn).mono ?_
    rintro e' w' ⟨rfl, rfl⟩
    have hc1 := grownCap_ge X.w n 0 e
    have hc2 := grownCap_le_maxLen X.w n 0 e (by unfold maxLen; omega)
    generalize grownCap X.w n 0 e = c at hc1 hc2
    have hgw := (Grew.alloc X.w.drew (.cells (#[] ++ Builtin.zeroCells z.cells n ++ Builtin.zeroCells z.cells (c - n)) e)).drew
    obtain ⟨k1, k2⟩ := new_row (k := (T e).size) (es := []) (vs := []) hi hgw (fun x hx => by simp at hx) True.intro (fun j v hj => by simp at hj) (by simp) (Free.zero _ _)
    exact ⟨_, rfl, _, _, rfl, k2, k1, own_new (k := (T e).size) (es := []) hgw (by simp) (by omega) hc2 (by
      have hq : n * (T e).size + (c - n) * (T e).size = c * (T e).size := by rw [← Nat.add_mul]; congr 1; omega
      simp only [Array.size_append, size_zeroCells, hz, List.size_toArray, List.length_nil]
      omega), rfl, rfl⟩
end Go.Dm
end

section
/-
  The bridge to the shelf's contracts: pure functions of two strings; how strings compare. No condition.
-/
namespace Go.Dm
open Go Go.Proofs

theorem enters {P : Program} {f : FuncId} {fn : Func} {c : Code} (hf : P.funcs[f]? = some fn) (hb : fn.body = some c) (hn : (fn.name == "runtime.NumGoroutine") = false) (vals : List Value) (w : World) : (callFunc f vals.toArray).run P w = .ok (.enter f vals.toArray) w := by
  have hn' : ¬ fn.name = "runtime.NumGoroutine" := by simpa using hn
  simp [callFunc, hf, hn', hb]

theorem dcalls_strs {P : Program} {f : FuncId} {g : List UInt8 → List UInt8 → Int} (hen : ∀ (vals : List Value) (w : World), (callFunc f vals.toArray).run P w = .ok (.enter f vals.toArray) w)
    (hC : ∀ (a b : ByteArray) (w : World), Calls P f #[.string a, .string b] w fun e w' => e = .returned (.int .i64 (g a.data.toList b.data.toList)) ∧ w' = w) {a b : List UInt8} :
    DCalls P f [.c (.p (.s a)), .c (.p (.s b))] [] fun r h => r = .c (.p (.i .i64 (g a b))) ∧ h = [] := by
  intro X vals hh hi gd hr
  obtain ⟨rfl⟩ : vals = [.string ⟨a.toArray⟩, .string ⟨b.toArray⟩] := by
    cases vals with
    | nil => exact hr.elim
    | cons v vs => cases vs with
      | nil => exact hr.2.elim
      | cons u us => cases us with
        | cons _ _ => exact hr.2.2.elim
        | nil =>
          have h1 : v = .string ⟨a.toArray⟩ := hr.1
          have h2 : u = .string ⟨b.toArray⟩ := hr.2.1
          rw [h1, h2]
  refine .inl ⟨hen _ _, (hC _ _ X.w).mono ?_⟩
  rintro e w' ⟨rfl, rfl⟩
  exact ⟨_, rfl, .c (.p (.i .i64 (g a b))), X, rfl, hi, Step.refl hi, rfl, rfl, hh⟩

def cmpS (a b : List UInt8) : Int := if bltL a b then -1 else if a == b then 0 else 1
theorem cmpS_lt {a b : List UInt8} : decide (cmpS a b < 0) = bltL a b := by
  unfold cmpS
  cases bltL a b
  · cases a == b <;> rfl
  · rfl
theorem cmpS_eq {a b : List UInt8} : (cmpS a b == 0) = (a == b) := by
  unfold cmpS
  cases hb : bltL a b
  · cases a == b <;> simp
  · rw [blt_ne hb]; simp
theorem compareBytes_eq : ∀ a b : List UInt8, Lib.compareBytes a b = cmpS a b
  | [], [] => rfl
  | [], _ :: _ => rfl
  | _ :: _, [] => by simp [Lib.compareBytes, cmpS, blt_nil]
  | x :: a, y :: b => by
    have ih := compareBytes_eq a b
    unfold Lib.compareBytes
    rw [ih]
    unfold cmpS
    rw [blt_cons]
    by_cases h1 : x < y
    · simp [h1]
    · by_cases h2 : y < x
      · have hne : x ≠ y := by rintro rfl; exact h1 h2
        simp [h1, h2, hne]
      · have he : x = y := by
          rw [UInt8.lt_iff_toNat_lt] at h1 h2
          exact UInt8.toNat_inj.1 (by omega)
        subst he
        simp
end Go.Dm
end
