/-
  The engine, part 8: that the operations of the model do what part 6 says: stores, addresses, slices, composite values, new memory. No condition beyond the table of types being the program's.
-/
import Derived.Test.YtomaddpcacoodaaE7
set_option linter.unusedSimpArgs false
set_option linter.unusedVariables false
namespace Go.Dm
open Go

theorem setCell_block (w : World) (bl off : Nat) (v : Value) (b : Nat) : (w.setCell ⟨bl, off, none⟩ v).heap[b]? = if b = bl then (w.heap[b]?).map (fun | .cells c e f => .cells (c.setIfInBounds off v) e f | o => o) else w.heap[b]? := by
  simp only [World.setCell, Array.getElem?_modify]
  split
  · rename_i h; subst h; rw [if_pos rfl]; rfl
  · rename_i h; rw [if_neg (fun e => h e.symm)]

theorem run_storeCells {P : Program} {bl off : Nat} : ∀ (vs : List Value) (i : Nat) (w : World) {arr : Array Value} {el : TypeId} {fz : Nat × Nat}, w.heap[bl]? = some (.cells arr el fz) → off + i + vs.length ≤ arr.size →
    (∀ o, off + i ≤ o → o < off + i + vs.length → ¬ (fz.1 ≤ o ∧ o < fz.2)) → (∀ v ∈ vs, v.oneCell' = true) → ∃ w', (storeCells ⟨bl, off, none⟩ vs i).run P w = .ok () w' ∧ Wrote w w' bl (off + i) vs
  | [], i, w, arr, el, fz, ha, _, _, _ => ⟨w, by simp [storeCells], rfl, rfl, rfl, rfl, fun _ _ => rfl, arr, el, fz, arr, ha, ha, rfl, fun j => by rw [if_neg (by simp only [List.length_nil]; omega)]⟩
  | v :: vs, i, w, arr, el, fz, ha, hsz, hfr, h1 => by
    simp only [List.length_cons] at hsz hfr
    have hlt : off + i < arr.size := by omega
    have hc : w.cell? ⟨bl, off + i, none⟩ = some arr[off + i] := by
      simp only [World.cell?, ha, Option.isSome_none, Bool.false_eq_true, if_false]
      exact Array.getElem?_eq_getElem hlt
    have hf : w.frozen? ⟨bl, off + i, none⟩ = false := by
      have := hfr (off + i) (Nat.le_refl _) (by omega)
      simp only [World.frozen?, ha]
      obtain ⟨lo, hi⟩ := fz
      simp only at this ⊢
      by_cases h : lo ≤ off + i
      · simp [h]; omega
      · simp [h]
    have hb : (w.setCell ⟨bl, off + i, none⟩ v).heap[bl]? = some (.cells (arr.setIfInBounds (off + i) v) el fz) := by
      rw [setCell_block, if_pos rfl, ha]; rfl
    obtain ⟨w', h2, h3⟩ := run_storeCells (P := P) (bl := bl) (off := off) vs (i + 1) (w.setCell ⟨bl, off + i, none⟩ v) hb (by simp; omega) (fun o h4 h5 => hfr o (by omega) (by omega)) fun u hu => h1 u (by simp [hu])
    refine ⟨w', ?_, ?_⟩
    · simp only [storeCells, Sem.run_bind, add_mk]
      rw [run_store P w _ v _ (h1 v (by simp)), hc]
      simp only [hf, Bool.false_eq_true, if_false, Result.andThen_ok]
      exact h2
    · obtain ⟨arr1, el1, fz1, arr', h4, h5, h6, h7⟩ := h3.here
      rw [hb] at h4
      cases h4
      refine ⟨h3.os, h3.tape, h3.output, h3.size.trans (by simp), fun b hne => (h3.other b hne).trans (by rw [setCell_block, if_neg hne]), arr, el, fz, arr', ha, h5, by simpa using h6, fun j => ?_⟩
      rw [h7]
      simp only [List.length_cons]
      by_cases hj : j = off + i
      · subst hj
        rw [if_neg (by omega), if_pos (by omega), Array.getElem?_setIfInBounds_self_of_lt hlt]
        simp
      · rw [Array.getElem?_setIfInBounds_ne (fun e => hj e.symm)]
        by_cases h8 : off + (i + 1) ≤ j ∧ j < off + (i + 1) + vs.length
        · rw [if_pos h8, if_pos (by omega), show j - (off + i) = (j - (off + (i + 1))) + 1 by omega]
          rfl
        · rw [if_neg h8, if_neg (by omega)]

section stores
variable {P : Program} {T : Tab} {X : Ctx}

theorem cellsD_rel {x : DV} {v : Value} {ys : List CV} (h : RelD X x v) (hc : cellsD x = some ys) : RelCs X ys v.cells.toList := by
  cases x <;> simp only [cellsD, Option.some.injEq, reduceCtorEq] at hc <;> subst hc
  case c y =>
    have h1 := oneCell_of_relC (show RelC X y v from h)
    have : v.cells = #[v] := by cases v <;> simp_all [Value.cells, Value.oneCell']
    rw [this]
    exact ⟨h, True.intro⟩
  case agg ys => obtain ⟨vs, rfl, h⟩ := h; exact h

/-- A store, as the walk sees it: what it leaves. -/
def Sto (X : Ctx) (K : DHeap → Prop) (r : Result Unit) : Prop := ∃ X', r = .ok () X'.w ∧ HInv X' ∧ Step X X' ∧ K X'.h

theorem RelB.box_ {id : Nat} {cells : List CV} (h : RelB X id (.box cells)) : ∃ g arr el fz, X.G id = some g ∧ X.w.heap[g.1]? = some (.cells arr el fz) ∧ g.2 + cells.length ≤ arr.size ∧ Free fz g.2 arr.size ∧ RelBox X g.1 g.2 cells := h

theorem run_storeVar (hT : TabOK P T) {t : Nat} (hs : (T t).size ≠ 0) {a : Addr} {v : Value} (hl : v.cells.toList.length = (T t).size) (w : World) : (storeVar t a v).run P w = (storeCells a v.cells.toList).run P w := by
  have : v.cells.size = (T t).size := by simpa using hl
  simp [storeVar, run_size hT (tab_known hT hs), this]

theorem dstore_val (hT : TabOK P T) (hi : HInv X) {t : Nat} {a x : DV} {va vx : Value} {K : DHeap → Prop} (ha : RelD X a va) (hx : RelD X x vx) (h : dstore (T t) X.h a x K) : Sto X K ((Instr.storeAt t va vx).run P X.w) := by
  unfold dstore at h
  split at h
  · exact h.elim
  rename_i ys hys
  obtain ⟨hs, hlen, h⟩ := h
  have hr := cellsD_rel hx hys
  have hrl := hr.length
  split at h
  · rename_i id off
    split at h
    · rename_i cells he
      obtain ⟨hle, hk⟩ := h
      obtain ⟨_, _, h3⟩ := ha
      obtain ⟨g, hg, rfl⟩ := h3 _ he
      obtain ⟨g', arr, el, fz, h1, h2, h4, h5, h6⟩ := (hi.blk id _ he).box_
      rw [hg] at h1; cases h1
      obtain ⟨w', h7, h8⟩ := run_storeCells (P := P) (bl := g.1) (off := g.2 + off) vx.cells.toList 0 X.w h2 (by omega) (fun o h9 h10 => h5.at_ o (by omega) (by omega)) hr.oneCell
      obtain ⟨h9, h10⟩ := box_store hi he hg hle hr (by simpa using h8)
      refine ⟨_, ?_, h10, h9, hk⟩
      simp only [Instr.storeAt, Instr.sureAddr, Sem.run_bind, Sem.run_pure, Result.andThen_ok]
      rw [run_storeVar hT hs (by rw [← hrl, hlen])]
      exact h7
    · exact h.elim
  · rename_i id i j
    split at h
    · rename_i k es xs he hp
      obtain ⟨hlt, hle, hk⟩ := h
      obtain ⟨X1, hw, hh, hG, hst, hi1, hfx⟩ := freezes (idsOf ys) hi
      rw [← hh] at he hk
      have hr1 : RelPs X1.w X1.S xs vx.cells.toList := pvs_rel hi hst hw hr hp hfx
      have hrl1 := hr1.length
      have ha1 : RelD X1 (.c (.aptr id i j)) va := RelD.step hst ha
      obtain ⟨_, _, h3⟩ := ha1
      obtain ⟨g, hg, rfl⟩ := h3 _ _ _ he
      have hb := hi1.blk id _ he
      simp only [RelB] at hb
      rcases hb with hb | ⟨g', arr, el, fz, h1, h2, h4, h5, h6⟩
      · rw [hg] at hb; cases hb.1
      rw [hg] at h1; cases h1
      have hel : es[i]? = some (es.getD i []) := by rw [List.getD_eq_getElem?_getD, List.getElem?_eq_getElem hlt]; rfl
      have hek := (h6.at_ hel).1
      have hmul := mul_lt_block (k := k) hlt
      obtain ⟨w', h7, h8⟩ := run_storeCells (P := P) (bl := g.1) (off := g.2 + i * k + j) vx.cells.toList 0 X1.w h2 (by omega) (fun o h9 h10 => h5.at_ o (by omega) (by omega)) hr1.oneCell
      obtain ⟨h9, h10⟩ := arr_store hi1 he hg hel (by rw [hek]; exact hle) hr1 (by simpa using h8)
      refine ⟨_, ?_, h10, hst.trans hi1 h9, hk⟩
      simp only [Instr.storeAt, Instr.sureAddr, Sem.run_bind, Sem.run_pure, Result.andThen_ok]
      rw [run_storeVar hT hs (by rw [← hrl, hlen]), ← hw]
      exact h7
    · exact h.elim
  · exact h.elim

variable {K : DV → DHeap → Prop}

theorem run_fieldPlace (hT : TabOK P T) {bl off : Nat} {f : Field} {w : World} (hs : (T f.type).size ≠ 0) : (fieldPlace ⟨bl, off, none⟩ f).run P w = .ok ⟨bl, off + f.offset, none⟩ w := by
  unfold fieldPlace
  simp only [Sem.run_bind, run_size hT (tab_known hT hs), Result.andThen_ok, Sem.run_ite, if_neg hs, Sem.run_pure, add_mk]

theorem dfield_val (hT : TabOK P T) (hi : HInv X) {s f : Nat} {x : DV} {vx : Value} (hx : RelD X x vx) (h : dfield T s X.h x f fun d => K d X.h) : Val X K ((Instr.fieldAt s vx f).run P X.w) := by
  unfold dfield at h
  split at h
  · rename_i fs hk
    obtain ⟨fields, hu, hf⟩ := und_struct hT hk
    split at h
    · rename_i ft off hfo
      obtain ⟨hsz, h⟩ := h
      have hfo' : ∃ fd, fields[f]? = some fd ∧ fd.type = ft ∧ fd.offset = off := by
        rw [← hf, List.getElem?_map] at hfo
        obtain ⟨fd, h1, h2⟩ := Option.map_eq_some_iff.1 hfo
        simp only [Prod.mk.injEq] at h2
        exact ⟨fd, by simpa using h1, h2.1, h2.2⟩
      obtain ⟨fd, hfd, rfl, rfl⟩ := hfo'
      have run : ∀ bl o, (Instr.fieldAt s (.pointer (some ⟨bl, o, none⟩)) f).run P X.w = .ok (.pointer (some ⟨bl, o + fd.offset, none⟩)) X.w := fun bl o => by
        simp [Instr.fieldAt, run_underlying hu, hfd, Instr.sureAddr, run_fieldPlace hT hsz]
      split at h
      · rename_i id o
        split at h
        · rename_i cells he
          obtain ⟨h1, h2, h3⟩ := hx
          obtain ⟨g, hg, rfl⟩ := h3 _ he
          refine Val.same hi (run _ _) (relC (x := .ptr id (o + fd.offset)) ⟨h1, rfl, fun cs hc => ⟨g, hg, by rw [Nat.add_assoc]⟩⟩) h
        · exact h.elim
      · rename_i id i j
        split at h
        · rename_i k es ro he
          obtain ⟨h1, h2, h3⟩ := hx
          obtain ⟨g, hg, rfl⟩ := h3 _ _ _ he
          refine Val.same hi (run _ _) (relC (x := .aptr id i (j + fd.offset)) ⟨h1, rfl, fun k' es' ro' hc => ⟨g, hg, ?_⟩⟩) h
          rw [he] at hc; cases hc
          rw [Nat.add_assoc]
        · exact h.elim
      · rename_i cs
        obtain ⟨bl, o, rfl, hS, h1⟩ := hx
        exact Val.same hi (run _ _) (relC (x := .eptr (cs.drop fd.offset)) ⟨bl, o + fd.offset, rfl, hS, h1.drop _⟩) h
      · exact h.elim
    · exact h.elim
  · exact h.elim

theorem dpart_run (hT : TabOK P T) {t : Nat} {cells : List CV} {vs : List Value} {off : Nat} {Q : DV → Prop} (hr : RelCs X cells vs) (h : dpart (T t) cells off Q) : ∃ d v, (part t vs.toArray off).run P X.w = .ok v X.w ∧ RelD X d v ∧ Q d := by
  obtain ⟨hs, h⟩ := h
  have hl := hr.length
  split at h
  · rename_i hk
    refine ⟨_, .agg ((vs.drop off).take (T t).size).toArray, ?_, relAgg ((hr.drop off).take (T t).size), h.2⟩
    simp [part, run_isAgg hT (tab_known hT hs), hk, run_size hT (tab_known hT hs)]
  · rename_i hk
    split at h
    · rename_i c hc
      obtain ⟨v, h1, h2⟩ := hr.at_ hc
      refine ⟨_, v, ?_, relC h2, h⟩
      simp [part, run_isAgg hT (tab_known hT hs), hk, h1]
    · exact h.elim

theorem dindexA_val (hT : TabOK P T) (hi : HInv X) {t : Nat} {x i : DV} {vx vi : Value} (hx : RelD X x vx) (hv : RelD X i vi) (h : dindexA T t X.h x i fun d => K d X.h) : Val X K ((Instr.indexAt t vx vi).run P X.w) := by
  unfold dindexA at h
  split at h
  · rename_i e k es kk n hk
    obtain ⟨hs, hsz, h0, hn, h⟩ := h
    simp only [RelD, RelC, RelP] at hv hx
    subst hv
    obtain ⟨a, c, rfl, hc, hL⟩ := hx
    have hlt : n.toNat < es.length := by omega
    rcases hL with rfl | ⟨bl, off, rfl, hS, hL⟩
    · simp at hlt
    have hel : es[n.toNat]? = some (es.getD n.toNat []) := by rw [List.getD_eq_getElem?_getD, List.getElem?_eq_getElem hlt]; rfl
    refine Val.same hi (v := .pointer (some ⟨bl, off + n.toNat * k, none⟩)) ?_ (relC (x := .eptr _) ⟨bl, _, rfl, hS, (hL.at_ hel).2⟩) h
    simp [Instr.indexAt, asIntOf, run_underlying (und_slice hT hk), h0, hn, run_size hT (tab_known hT hs), hsz, add_mk]
  · rename_i e id off len kk n hk
    split at h
    · rename_i k es ro he
      obtain ⟨hs, hsz, h0, hn, h⟩ := h
      simp only [RelD, RelC, RelP] at hv
      subst hv
      obtain ⟨h1, h2, h3⟩ := hx
      obtain ⟨h4, h5⟩ := h3 _ _ _ he
      cases hG : X.G id with
      | none =>
        have hb := hi.blk id _ he
        simp only [RelB] at hb
        rcases hb with hb | ⟨g', _, _, _, hg, _⟩
        · rw [hb.2] at h4; simp only [List.length_nil] at h4; omega
        · rw [hG] at hg; cases hg
      | some g =>
        rw [hG] at h5
        obtain ⟨cap, o, arr, el, fz, h6, rfl, h7, h8, h9, h10⟩ := h5
        have ho : o = g.2 + off * k := by rcases h7 with h7 | h7 <;> omega
        subst ho
        refine Val.same hi (v := .pointer (some ⟨g.1, g.2 + off * k + n.toNat * k, none⟩)) ?_ (relC (x := .aptr id (off + n.toNat) 0) ⟨h1, rfl, fun k' es' ro' hc => ⟨g, hG, ?_⟩⟩) h
        · simp [Instr.indexAt, asIntOf, run_underlying (und_slice hT hk), h0, hn, run_size hT (tab_known hT hs), hsz, add_mk]
        · rw [he] at hc; cases hc
          rw [Nat.add_mul]; simp only [Nat.add_zero, Nat.add_assoc]
    · exact h.elim
  · rename_i len e id off kk n hk
    split at h
    · rename_i cells he
      obtain ⟨hs, h2l, h0, hn, h⟩ := h
      simp only [RelD, RelC, RelP] at hv
      subst hv
      obtain ⟨h1, h2, h3⟩ := hx
      obtain ⟨g, hg, rfl⟩ := h3 _ he
      refine Val.same hi (v := .pointer (some ⟨g.1, g.2 + off + n.toNat * (T e).size, none⟩)) ?_ (relC (x := .ptr id (off + n.toNat * (T e).size)) ⟨h1, rfl, fun cs hc => ⟨g, hg, by rw [Nat.add_assoc]⟩⟩) h
      simp [Instr.indexAt, asIntOf, run_underlying (und_array hT hk), h0, hn, run_size hT (tab_known hT hs), Instr.sureAddr, add_mk]
    · exact h.elim
  · exact h.elim

theorem dindex_val (hT : TabOK P T) (hi : HInv X) {t : Nat} {x i : DV} {vx vi : Value} (hx : RelD X x vx) (hv : RelD X i vi) (h : dindex T t x i fun d => K d X.h) : Val X K ((Instr.index t vx vi).run P X.w) := by
  unfold dindex at h
  split at h
  · rename_i l kk n hk
    obtain ⟨h0, hn, h⟩ := h
    simp only [RelD, RelC, RelP] at hv hx
    subst hv; subst hx
    have hlt : n.toNat < l.length := by omega
    refine Val.same hi (v := .int .u8 (l.getD n.toNat 0).toNat) ?_ (oneP (x := .i .u8 _) rfl) h
    have : (⟨l.toArray⟩ : ByteArray)[n.toNat]? = some (l.getD n.toNat 0) := by
      rw [getElem?_pos _ _ (by simpa [ByteArray.size] using hlt)]
      congr 1
      rw [List.getD_eq_getElem?_getD, List.getElem?_eq_getElem hlt]
      rfl
    simp [Instr.index, asIntOf, run_underlying (und_str hT hk), h0, this]
  · rename_i len e cells kk n hk
    obtain ⟨hs, h0, hn, h⟩ := h
    simp only [RelD, RelC, RelP] at hv hx
    subst hv
    obtain ⟨vs, rfl, hr⟩ := hx
    obtain ⟨d, v, h1, h2, h3⟩ := dpart_run hT hr h
    refine Val.same hi (v := v) ?_ h2 h3
    simp [Instr.index, asIntOf, run_underlying (und_array hT hk), h0, hn, run_size hT (tab_known hT hs), h1]
  · exact h.elim

end stores

end Go.Dm
