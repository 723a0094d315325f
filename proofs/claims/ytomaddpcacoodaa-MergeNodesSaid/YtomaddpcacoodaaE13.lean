/-
  The engine, part 13: all operations together: what part 6 says of an operation, and of a region, holds of the model's. No condition beyond the table of types being the program's.
-/
import Derived.Test.YtomaddpcacoodaaE12
set_option linter.unusedSimpArgs false
set_option linter.unusedVariables false
namespace Go.Dm
open Go

section all
variable {P : Program} {T : Tab} {X : Ctx} {K : DV → DHeap → Prop}

theorem fill_dense {size : Nat} : ∀ (vparts : List (Nat × Value)) (a : Nat) (cells : List Value), (∀ p ∈ vparts, p.2.cells.size = size) → vparts.map (·.1) = List.range' a vparts.length → (a + vparts.length) * size ≤ cells.length →
    Instr.fill (fun i => some (i * size, size)) cells.toArray vparts = some (cells.take (a * size) ++ (vparts.map fun p => p.2.cells.toList).flatten ++ cells.drop ((a + vparts.length) * size)).toArray
  | [], a, cells, _, _, _ => by simp [Instr.fill]
  | (i, v) :: vparts, a, cells, h1, h2, h3 => by
    simp only [List.map_cons, List.length_cons, List.range'_succ, List.cons.injEq] at h2
    obtain ⟨rfl, h2⟩ := h2
    have hv := h1 (i, v) (by simp)
    simp only at hv
    have hm : (i + 1 + vparts.length) * size = (i + (vparts.length + 1)) * size := by congr 1; omega
    have hm1 : (i + 1) * size ≤ (i + (vparts.length + 1)) * size := Nat.mul_le_mul_right _ (by omega)
    have hm2 : (i + 1) * size = i * size + size := by rw [Nat.add_mul, Nat.one_mul]
    simp only [List.length_cons] at h3
    simp only [Instr.fill]
    rw [if_neg (by simp; omega)]
    have := foldl_set v.cells.toList cells.toArray (i * size) 0 (by simp; omega)
    simp only [Nat.add_zero] at this
    rw [← Array.foldl_toList, Array.toList_zipIdx, this]
    rw [fill_dense vparts (i + 1) _ (fun p hp => h1 p (by simp [hp])) h2 (by rw [splice_length _ _ _ (by simp; omega)]; show _ ≤ cells.length; omega)]
    congr 2
    have hvl : v.cells.toList.length = size := by simpa using hv
    simp only [List.map_cons, List.flatten_cons, List.length_cons]
    have e1 : List.take ((i + 1) * size) (splice cells.toArray.toList (i * size) v.cells.toList) = List.take (i * size) cells ++ v.cells.toList := by
      unfold splice
      rw [List.take_append_of_le_length (by simp; omega), List.take_of_length_le (by simp; omega)]
    have e2 : List.drop ((i + 1 + vparts.length) * size) (splice cells.toArray.toList (i * size) v.cells.toList) = List.drop ((i + (vparts.length + 1)) * size) cells := by
      apply List.ext_getElem?
      intro j
      rw [List.getElem?_drop, List.getElem?_drop, splice_at _ _ _ (by simp; omega), if_neg (by rw [hm]; omega), hm]
    rw [e1, e2]
    simp [List.append_assoc]

theorem RelDs.cellss : ∀ {ds : List DV} {vs : List Value} {cs : List (List CV)}, RelDs X ds vs → cellss ds = some cs → cs.length = vs.length ∧ ∀ (j : Nat) (c : List CV) (v : Value), cs[j]? = some c → vs[j]? = some v → RelCs X c v.cells.toList
  | [], [], cs, _, h => by
    simp only [Dm.cellss, Option.some.injEq] at h; subst h
    exact ⟨rfl, fun j c v hc => by simp at hc⟩
  | d :: ds, v :: vs, cs, hr, h => by
    simp only [Dm.cellss] at h
    split at h
    · rename_i c cs' h1 h2
      simp only [Option.some.injEq] at h; subst h
      obtain ⟨h3, h4⟩ := RelDs.cellss hr.2 h2
      refine ⟨by simp [h3], fun j c' v' hc hv => ?_⟩
      cases j with
      | zero => simp only [List.getElem?_cons_zero, Option.some.injEq] at hc hv; subst hc; subst hv; exact cellsD_rel hr.1 h1
      | succ j => simp only [List.getElem?_cons_succ] at hc hv; exact h4 j c' v' hc hv
    · cases h
  | [], _ :: _, _, h, _ => h.elim
  | _ :: _, [], _, h, _ => h.elim

theorem pvss_rel {X' : Ctx} (hi : HInv X) (hs : Step X X') (hw : X'.w = X.w) : ∀ {cs : List (List CV)} {vs : List Value} {es : List (List PV)}, cs.length = vs.length → (∀ (j : Nat) (c : List CV) (v : Value), cs[j]? = some c → vs[j]? = some v → RelCs X c v.cells.toList) →
    pvss X.h cs = some es → Fixed X X' (idss cs) → RelPs X'.w X'.S es.flatten (vs.map fun v => v.cells.toList).flatten ∧ es.length = vs.length
  | [], [], es, _, _, h, _ => by simp only [pvss, Option.some.injEq] at h; subst h; exact ⟨True.intro, rfl⟩
  | c :: cs, v :: vs, es, hl, hr, h, hf => by
    simp only [pvss] at h
    split at h
    · rename_i x xs h1 h2
      simp only [Option.some.injEq] at h; subst h
      have h3 := pvs_rel hi hs hw (hr 0 c v rfl rfl) h1 (hf.sub fun id h => by simp [idss, h])
      obtain ⟨h4, h5⟩ := pvss_rel hi hs hw (cs := cs) (vs := vs) (by simpa using hl) (fun j c' v' hc hv => hr (j + 1) c' v' (by simpa using hc) (by simpa using hv)) h2 (hf.sub fun id h => by simp [idss, h])
      exact ⟨by simpa using h3.append h4, by simp [h5]⟩
    · cases h
  | [], _ :: _, _, h, _, _, _ => by simp at h
  | _ :: _, [], _, h, _, _, _ => by simp at h

theorem RelParts.split : ∀ {ps : List (Nat × DV)} {vs : List (Nat × Value)}, RelParts X ps vs → ps.map (·.1) = vs.map (·.1) ∧ RelDs X (ps.map (·.2)) (vs.map (·.2))
  | [], [], _ => ⟨rfl, True.intro⟩
  | (i, d) :: ps, (j, v) :: vs, h => by
    obtain ⟨rfl, h1, h2⟩ := h
    obtain ⟨h3, h4⟩ := RelParts.split h2
    exact ⟨by simp [h3], h1, h4⟩
  | [], _ :: _, h => h.elim
  | _ :: _, [], h => h.elim

theorem dbuildS_val (hT : TabOK P T) (hi : HInv X) {t len : Nat} {parts : List (Nat × DV)} {vparts : Array (Nat × Value)} (hp : RelParts X parts vparts.toList) (h : dbuildS T t len parts X.h K) : Val X K ((Instr.buildSlice t len vparts).run P X.w) := by
  unfold dbuildS at h
  split at h
  · rename_i e hk
    obtain ⟨hs0, hzl, hbig, hrange, h⟩ := h
    have hs : (T e).size ≠ 0 := by omega
    split at h
    · rename_i cs hcs
      split at h
      · rename_i es hes
        obtain ⟨hel, h⟩ := h
        obtain ⟨_, i, z, g1, g2, g3, g4, g5, g6, g7, g8⟩ := tab_info hT (tab_known hT hs)
        obtain ⟨hp1, hp2⟩ := hp.split
        obtain ⟨h1, h2⟩ := RelDs.cellss hp2 hcs
        obtain ⟨X1, hw, hh, hG, hst, hi1, hfx⟩ := freezes (idss cs) hi
        obtain ⟨h3, h4⟩ := pvss_rel hi hst hw h1 h2 hes hfx
        have hn : vparts.size = len := by
          have := congrArg List.length (hp1.symm.trans hrange)
          simpa using this
        have heslen : es.length = len := by rw [h4]; simp [hn]
        have hvl := h3.length_flatten hel
        -- every part has the size of an element
        have hpart : ∀ p ∈ vparts.toList, p.2.cells.size = (T e).size := by
          intro p hpm
          obtain ⟨j, hj⟩ := List.mem_iff_getElem?.1 hpm
          have hjl := lt_of_some hj
          have hv : (vparts.toList.map (·.2))[j]? = some p.2 := by rw [List.getElem?_map, hj]; rfl
          have hcj : ∃ c, cs[j]? = some c := ⟨_, List.getElem?_eq_getElem (by rw [h1]; simpa using hjl)⟩
          obtain ⟨c, hc⟩ := hcj
          have h5 := (h2 j c p.2 hc hv).length
          -- the element that stands there
          have : ∀ (cs : List (List CV)) (es : List (List PV)) (j : Nat) (c : List CV), pvss X.h cs = some es → cs[j]? = some c → ∃ x, es[j]? = some x ∧ pvs X.h c = some x := by
            intro cs
            induction cs with
            | nil => intro es j c _ hc; simp at hc
            | cons a cs ih =>
              intro es j c hp hc
              simp only [pvss] at hp
              split at hp
              · rename_i x xs q1 q2
                simp only [Option.some.injEq] at hp; subst hp
                cases j with
                | zero => simp only [List.getElem?_cons_zero, Option.some.injEq] at hc; subst hc; exact ⟨x, rfl, q1⟩
                | succ j => simp only [List.getElem?_cons_succ] at hc; exact ih xs j c q2 hc
              · cases hp
          obtain ⟨x, hx1, hx2⟩ := this cs es j c hes hc
          have hxl := hel x (List.mem_of_getElem? hx1)
          have : ∀ (c : List CV) (x : List PV), pvs X.h c = some x → c.length = x.length := by
            intro c
            induction c with
            | nil => intro x hx; simp only [pvs, Option.some.injEq] at hx; subst hx; rfl
            | cons a c ih =>
              intro x hx
              simp only [pvs] at hx
              split at hx
              · rename_i y ys q1 q2
                simp only [Option.some.injEq] at hx; subst hx
                simp [ih ys q2]
              · cases hx
          have := this c x hx2
          have h6 : p.2.cells.toList.length = (T e).size := by omega
          simpa using h6
        have hrun : (Instr.buildSlice t len vparts).run P X.w = .ok (.slice (some ⟨X.w.heap.size, 0, none⟩) len len) (X.w.alloc (.cells (vparts.toList.map fun p => p.2.cells.toList).flatten.toArray e)) := by
          have hbig' : ¬ 16777216 < len * i.size := by rw [g2]; omega
          have hfill := fill_dense (size := (T e).size) vparts.toList 0 (((Array.range (len * (T e).size)).map fun j => (if len * (T e).size = 0 then #[] else z.cells)[j % (if len * (T e).size = 0 then #[] else z.cells).size]!).toList) hpart
            (by rw [← hp1, hrange]; simp [hn, List.range_eq_range']) (by simp [hn])
          have hdrop : ((0 + vparts.toList.length) * (T e).size) = len * (T e).size := by simp [hn]
          rw [hdrop, List.drop_of_length_le (by simp)] at hfill
          simp only [Nat.zero_mul, List.take_zero, List.nil_append, List.append_nil] at hfill
          by_cases q : len * (T e).size = 0
          · rw [← g2] at q hfill
            simp only [q, if_true] at hfill
            simp only [Instr.buildSlice, Sem.run_bind, run_underlying (und_slice hT hk), Result.andThen_ok, sizeOf, typeInfo, Sem.run_bind, run_program, g1, Sem.run_pure, q]
            simp only [gt_iff_lt, Nat.not_lt_zero, if_false, Sem.run_bind, Result.andThen_ok, Sem.run_pure, if_true]
            simp at hfill ⊢
            have hr0 : ((Array.range 0).map fun _ => (default : Value)) = #[] := by apply Array.ext'; simp
            simp [hr0, hfill, newRow]
          · rw [← g2] at q hfill
            simp only [if_neg q, Array.toArray_toList] at hfill
            simp [Instr.buildSlice, run_underlying (und_slice hT hk), sizeOf, typeInfo, g1, hbig', q, zeroValue, g4, hfill, newRow]
        have hgw : Grew X1.w (X.w.alloc (.cells (vparts.toList.map fun p => p.2.cells.toList).flatten.toArray e)) (.cells (vparts.toList.map fun p => p.2.cells.toList).flatten.toArray e (0, 0)) := by
          rw [hw]; exact Grew.alloc _ _
        have h3' : RelPs X1.w X1.S es.flatten (vparts.toList.map fun p => p.2.cells.toList).flatten := by
          rw [List.map_map] at h3; exact h3
        have hvl' := h3'.length_flatten hel
        have hlen1 : X1.h.length = X.h.length := by rw [hh, frzs_length]
        obtain ⟨k1, k2⟩ := new_row (k := (T e).size) hi1 hgw hel h3' (fun j v hj => by simpa using hj) (by simp only [List.size_toArray]; omega) (Free.zero _ _)
        have hown := own_new (X := X1) (k := (T e).size) (es := es) (n := len) (cap := len) hgw (by omega) (Nat.le_refl _) (by unfold maxLen; have := Nat.le_mul_of_pos_right len hs0; omega) (by simp only [List.size_toArray]; rw [hvl', heslen]; exact Nat.le_refl _)
        rw [hlen1] at hown
        rw [show X1.w.heap.size = X.w.heap.size by rw [hw]] at hown
        refine ⟨_, _, _, hrun, k2, hst.trans hi1 k1, hown, ?_⟩
        show K _ (X1.h ++ _)
        rw [hh]
        exact h
      · exact h.elim
    · exact h.elim
  · exact h.elim

end all

end Go.Dm
