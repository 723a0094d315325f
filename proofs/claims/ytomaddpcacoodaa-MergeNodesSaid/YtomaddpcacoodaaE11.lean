/-
  The engine, part 11: that the operations of the model do what part 6 says: append, make, composite values. No condition beyond the table of types being the program's.
-/
import Derived.Test.YtomaddpcacoodaaE10
set_option linter.unusedSimpArgs false
set_option linter.unusedVariables false
namespace Go.Dm
open Go

section app
variable {P : Program} {T : Tab} {X : Ctx} {K : DV → DHeap → Prop}

theorem src_of (hT : TabOK P T) {u e' k n : Nat} (hu : (T u).k = .slice e') {a : Option Addr} {c : Nat} {news : List (List PV)} {vs : List Value} {w : World} {S : Nat → Prop} (hn : news.length = n) (hr : RelPs w S news.flatten vs) (hl : ∀ e ∈ news, e.length = k)
    (ha : a = none → news = []) (hc : ∀ ad, a = some ad → ∀ (j : Nat) (v : Value), vs[j]? = some v → w.cell? (ad.add j) = some v) : Src P k u (.slice a n c) n vs w := by
  cases a with
  | none =>
    have := ha rfl
    subst this
    cases vs with
    | nil => simp only [List.length_nil] at hn; subst hn; exact Src.ofNil w (und_slice hT hu) c
    | cons _ _ => exact hr.elim
  | some ad => exact Src.ofSlice w (und_slice hT hu) ad n c vs (by rw [hr.length_flatten hl, hn]) (hc ad rfl) hr.oneCell

/-- The arm of append that makes a new row. -/
theorem append_new (hT : TabOK P T) (hi : HInv X) {t u e e' : Nat} (ht : (T t).k = .slice e) (he : (T e).size ≠ 0) {base : Option Addr} {sLen sCap c m : Nat} {olds news : List (List PV)} {ovs nvs : List Value} {xa : Option Addr} {ty : TypeId}
    (hol : ∀ x ∈ olds, x.length = (T e).size) (hnl : ∀ x ∈ news, x.length = (T e).size) (hor : RelPs X.w X.S olds.flatten ovs) (hnr : RelPs X.w X.S news.flatten nvs) (hole : olds.length = sLen) (hnle : news.length = m)
    (hold : (Builtin.firstCells (T e).size sLen (.slice base sLen sCap)).run P X.w.drew = .ok ovs.toArray X.w.drew) (hs : Src P (T e).size u (.slice xa m c) m nvs X.w)
    (hg : sCap < sLen + m) (hb : (sLen + m) * (T e).bytes ≤ 140737488355328) (hm : sLen + m ≤ 9223372036854775807) (_hu : (T u).k = .slice e')
    (h : K (.c (.own X.h.length 0 (sLen + m))) (X.h ++ [.arr (T e).size (olds ++ news) false])) :
    Val X K ((Builtin.append_ #[t, u] ty #[.slice base sLen sCap, .slice xa m c]).run P X.w) := by
  obtain ⟨_, i, z, h1, h2, h3, h4, h5, h6, h7, h8⟩ := tab_info hT (tab_known hT he)
  rw [← h2] at hold hs
  rw [← h3] at hb
  have hrun := run_append_grow_src (P := P) X.w t u ty e i z (und_slice hT ht) h1 h4 base sLen sCap ovs hold (.slice xa m c) m nvs hs hg (by omega) (growslice_fits hg hb)
  have hge := grownCap_ge X.w (sLen + m) sCap e
  have hle := grownCap_le_maxLen X.w (sLen + m) sCap e (by unfold maxLen; omega)
  have hz : z.cells.size = (T e).size := by
    have := congrArg List.length h5
    simp only [List.length_map] at this
    rw [h6, this]; simp
  have hov := hor.length_flatten hol
  have hnv := hnr.length_flatten hnl
  have hsize : ((ovs ++ nvs).toArray ++ Builtin.zeroCells z.cells (grownCap X.w (sLen + m) sCap e - (sLen + m))).size = grownCap X.w (sLen + m) sCap e * (T e).size := by
    simp only [Array.size_append, List.size_toArray, List.length_append, size_zeroCells, hz, hov, hnv, hole, hnle, ← Nat.add_mul]
    congr 1; omega
  have hgw : Grew X.w (X.w.drew.alloc (.cells ((ovs ++ nvs).toArray ++ Builtin.zeroCells z.cells (grownCap X.w (sLen + m) sCap e - (sLen + m))) e)) (.cells ((ovs ++ nvs).toArray ++ Builtin.zeroCells z.cells (grownCap X.w (sLen + m) sCap e - (sLen + m))) e (0, 0)) :=
    Grew.drew (Grew.alloc _ _)
  have hlen : (olds ++ news).length = sLen + m := by simp [hole, hnle]
  obtain ⟨h9, h10⟩ := new_row (k := (T e).size) (es := olds ++ news) (vs := ovs ++ nvs) hi hgw (fun x hx => by rcases List.mem_append.1 hx with hx | hx; exact hol x hx; exact hnl x hx) (by rw [List.flatten_append]; exact hor.append hnr)
    (fun j v hj => by rw [Array.getElem?_append_left (by have := lt_of_some hj; simpa using this)]; simpa using hj) (by rw [hsize, hlen]; exact Nat.mul_le_mul_right _ hge) (Free.zero _ _)
  exact ⟨_, _, _, hrun, h10, h9, own_new (k := (T e).size) (es := olds ++ news) hgw (by rw [hlen]; exact Nat.le_refl _) hge hle (by rw [hsize]; exact Nat.le_refl _), h⟩

theorem append_zero (hT : TabOK P T) (hi : HInv X) {t u e e' : Nat} (ht : (T t).k = .slice e) (he : (T e).size ≠ 0) (hu : (T u).k = .slice e') {c : Nat} {nvs : List Value} {xa : Option Addr} {ty : TypeId}
    (hs : Src P (T e).size u (.slice xa 0 c) 0 nvs X.w) (h : K (.c (.own X.h.length 0 0)) (X.h ++ [.arr (T e).size [] false])) :
    Val X K ((Builtin.append_ #[t, u] ty #[.slice none 0 0, .slice xa 0 c]).run P X.w) := by
  obtain ⟨h1, h2⟩ := virt hi (T e).size
  have hnv : nvs = [] := List.eq_nil_of_length_eq_zero (by have := hs.newsLen; omega)
  have hcells := hs.cells
  subst hnv
  refine ⟨.slice none 0 0, _, X.virt (T e).size, ?_, h2, h1, relC (virt_nil (X := X) (k := (T e).size) (v := .slice none 0 0) (by simp [RelC, RelP])), h⟩
  obtain ⟨_, i, z, h3, h4, _⟩ := tab_info hT (tab_known hT he)
  rw [← h4] at hcells
  simp [Builtin.append_, run_underlying (und_slice hT ht), run_underlying (und_slice hT hu), sizeOf, typeInfo, h3, Builtin.lenOf, hcells, Ctx.virt]

theorem dappend_val (hT : TabOK P T) (hi : HInv X) {t u : Nat} {dst src : DV} {vd vs : Value} {ty : TypeId} (hd : RelD X dst vd) (hsr : RelD X src vs) (h : dappend T t u dst src X.h K) :
    Val X K ((Builtin.append_ #[t, u] ty #[vd, vs]).run P X.w) := by
  unfold dappend at h
  split at h
  · rename_i e e' news ht hu hes
    obtain ⟨rfl, hs0, hnl, h⟩ := h
    have hs : (T e).size ≠ 0 := by omega
    obtain ⟨xa, c, nvs, rfl, hnr, hxa, hxc⟩ := elemsOf_vals hi hsr hes
    have hsrc : Src P (T e).size u (.slice xa news.length c) news.length nvs X.w := src_of hT hu rfl hnr hnl hxa hxc
    split at h
    · obtain ⟨hb, hm, h⟩ := h
      simp only [RelD, RelC, RelP] at hd
      subst hd
      by_cases h0 : news.length = 0
      · rw [h0] at hsrc h ⊢
        have := List.eq_nil_of_length_eq_zero h0
        subst this
        exact append_zero hT hi ht hs hu hsrc h
      · refine append_new (olds := []) (ovs := []) hT hi ht hs (fun x hx => by cases hx) hnl True.intro hnr rfl rfl ?_ hsrc (by omega) (by simpa using hb) (by simpa using hm) hu (by simpa using h)
        simp [Builtin.firstCells]
    · rename_i id off len
      split at h
      · rename_i k es hid
        obtain ⟨rfl, hol, hb, hm, h⟩ := h
        obtain ⟨hlt, _, h3⟩ := hd
        obtain ⟨h4, h5⟩ := h3 _ _ _ hid
        have hblk := hi.blk id _ hid
        simp only [RelB] at hblk
        have hik := hi.kill id
        have hsk := Step.kill hi id
        have fin : Val (X.kill id) K ((Builtin.append_ #[t, u] ty #[vd, .slice xa news.length c]).run P (X.kill id).w) → Val X K ((Builtin.append_ #[t, u] ty #[vd, .slice xa news.length c]).run P X.w) := by
          rintro ⟨v, d, X', g1, g2, g3, g4, g5⟩
          exact ⟨v, d, X', g1, g2, hsk.trans hik g3, g4, g5⟩
        have hkl : (X.kill id).h.length = X.h.length := by simp [Ctx.kill]
        cases hG : X.G id with
        | none =>
          rw [hG] at h5
          simp only at h5
          subst h5
          rcases hblk with hb' | ⟨g', _, _, _, hg, _⟩
          · obtain ⟨_, rfl⟩ := hb'
            simp only [List.length_nil] at hol
            have hoff : off = 0 := by omega
            have hlen : len = 0 := by omega
            subst hoff; subst hlen
            simp only [List.drop_nil, List.nil_append, Nat.zero_add] at h hb hm
            apply fin
            by_cases h0 : news.length = 0
            · rw [h0] at hsrc h ⊢
              have := List.eq_nil_of_length_eq_zero h0
              subst this
              exact append_zero (X := X.kill id) hT hik ht hs hu hsrc (by rw [hkl]; exact h)
            · refine append_new (X := X.kill id) (olds := []) (ovs := []) hT hik ht hs (fun x hx => by cases hx) hnl True.intro hnr rfl rfl ?_ hsrc (by omega) (by simpa using hb) (by simpa using hm) hu (by rw [hkl]; simpa [Ctx.kill] using h)
              simp [Builtin.firstCells]
          · rw [hG] at hg; cases hg
        | some g =>
          rw [hG] at h5
          obtain ⟨cap, o, arr, el, fz, h6, rfl, h7, h8, h9, h10⟩ := h5
          rcases hblk with hb' | ⟨g', arr', el', fz', hg, h11, h12, h13, hL⟩
          · rw [hG] at hb'; cases hb'.1
          rw [hG] at hg; cases hg
          rw [h6] at h11; cases h11
          have holds : ∀ x ∈ es.drop off, x.length = (T e).size := fun x hx => by
            obtain ⟨j, hj⟩ := List.mem_iff_getElem?.1 (List.mem_of_mem_drop hx)
            exact (hL.at_ hj).1
          obtain ⟨ovs, ho1, ho2, ho3⟩ := (hL.drop off).vals
          have hdl : (es.drop off).length = len := by simp; omega
          by_cases hroom : len + news.length ≤ cap
          · -- in place
            have hnv := hnr.length_flatten hnl
            have hes : es.length * (T e).size = off * (T e).size + len * (T e).size := by rw [← Nat.add_mul, hol]
            have hcapm : (off + (len + news.length)) * (T e).size ≤ (off + cap) * (T e).size := Nat.mul_le_mul_right _ (by omega)
            have hsum : (off + (len + news.length)) * (T e).size = off * (T e).size + len * (T e).size + news.length * (T e).size := by simp only [Nat.add_mul]; omega
            obtain ⟨_, i, z, g1, g2, _⟩ := tab_info hT (tab_known hT hs)
            -- the cells written
            have hst : ∃ w', (storeCells ⟨g.1, o + len * (T e).size, none⟩ nvs).run P X.w = .ok () w' ∧ Wrote X.w w' g.1 (g.2 + es.length * (T e).size) nvs := by
              by_cases hn0 : nvs = []
              · subst hn0
                refine ⟨X.w, by simp [storeCells], rfl, rfl, rfl, rfl, fun _ _ => rfl, arr, el, fz, arr, h6, h6, rfl, fun j => ?_⟩
                rw [if_neg (by simp only [List.length_nil]; omega)]
              · have hpos : 0 < news.length := by
                  rcases Nat.eq_zero_or_pos news.length with h0 | h0
                  · exact absurd (List.eq_nil_of_length_eq_zero (by rw [hnv, h0, Nat.zero_mul])) hn0
                  · exact h0
                have ho : o = g.2 + off * (T e).size := by rcases h7 with h7 | h7 <;> omega
                obtain ⟨w', k1, k2⟩ := run_storeCells (P := P) (bl := g.1) (off := o + len * (T e).size) nvs 0 X.w h6 (by omega) (fun x k3 k4 => h13.at_ x (by omega) (by omega)) hnr.oneCell
                refine ⟨w', k1, ?_⟩
                have : o + len * (T e).size + 0 = g.2 + es.length * (T e).size := by omega
                rw [this] at k2
                exact k2
            obtain ⟨w', hst1, hst2⟩ := hst
            have hrun : (Builtin.append_ #[t, u] ty #[.slice (some ⟨g.1, o, none⟩) len cap, .slice xa news.length c]).run P X.w = .ok (.slice (some ⟨g.1, o, none⟩) (len + news.length) cap) w' := by
              have hc2 := hsrc.cells
              rw [← g2] at hc2 hst1
              simp [Builtin.append_, run_underlying (und_slice hT ht), run_underlying (und_slice hT hu), sizeOf, typeInfo, g1, Builtin.lenOf, hroom, hc2, add_mk, hst1]
            obtain ⟨k1, k2⟩ := arr_extend hi hid hG hnl hnr hst2 (fun arr2 el2 fz2 hx => by
              rw [h6] at hx; cases hx
              have : (es.length + news.length) * (T e).size = es.length * (T e).size + news.length * (T e).size := Nat.add_mul _ _ _
              omega)
            have hid2 : (X.put w' id (.arr (T e).size (es ++ news) false)).h[id]? = some (.arr (T e).size (es ++ news) false) := by
              simp only [Ctx.put]
              rw [List.getElem?_set]
              simp [hlt]
            obtain ⟨k3, k4⟩ := rebase (off := off) k2 hid2 hG (by simp; omega)
            have hheap : ((X.put w' id (.arr (T e).size (es ++ news) false)).rebase id (g.1, g.2 + off * (T e).size) (T e).size ((es ++ news).drop off)).h = X.h.set id .dead ++ [.arr (T e).size (es.drop off ++ news) false] := by
              simp only [Ctx.rebase, Ctx.put, List.set_set]
              rw [List.drop_append_of_le_length (by omega)]
            refine ⟨_, _, _, hrun, k4, k1.trans k2 k3, ?_, by rw [hheap]; exact h⟩
            refine relC (x := .own X.h.length 0 (len + news.length)) ⟨by rw [hheap]; simp, rfl, fun k' es' ro' hh => ?_⟩
            rw [hheap] at hh
            rw [show X.h.length = (X.h.set id .dead).length by simp, List.getElem?_concat_length] at hh
            simp only [Option.some.injEq, DB.arr.injEq] at hh
            obtain ⟨rfl, rfl, rfl⟩ := hh
            refine ⟨by simp; omega, ?_⟩
            simp only [Ctx.rebase, Ctx.put, List.length_set, if_true]
            obtain ⟨a1, e1, f1, a2, k5, k6, k7, _⟩ := hst2.here
            rw [h6] at k5; cases k5
            refine ⟨cap, o, a2, el, fz, k6, rfl, ?_, hroom, h9, ?_⟩
            · rcases h7 with h7 | h7
              · exact .inl h7
              · right; rw [h7]; simp
            · rw [k7]
              have : (off + cap) * (T e).size = off * (T e).size + cap * (T e).size := Nat.add_mul _ _ _
              simp only [Nat.zero_add]; omega
          · -- a new row
            apply fin
            refine append_new (X := X.kill id) (olds := es.drop off) (ovs := ovs) hT hik ht hs holds hnl ho1 hnr hdl rfl ?_ hsrc (by omega) hb hm hu (by rw [hkl]; exact h)
            by_cases hl0 : len = 0
            · subst hl0
              have hov0 : ovs = [] := List.eq_nil_of_length_eq_zero (by rw [ho2, hdl, Nat.zero_mul])
              subst hov0
              simp [Builtin.firstCells, loadCells, loadCellsFrom]
            · have ho : o = g.2 + off * (T e).size := by rcases h7 with h7 | h7 <;> omega
              subst ho
              exact run_firstCells_some X.w.drew (T e).size len ⟨g.1, g.2 + off * (T e).size, none⟩ len cap ovs (by rw [ho2, hdl]) fun j v hj => by
                rw [add_mk]; exact ho3 j v hj
      · exact h.elim
    · exact h.elim
  · exact h.elim

end app

end Go.Dm
