/-
  The engine, part 12: that the operations of the model do what part 6 says: make, composite values; and all operations together. No condition beyond the table of types being the program's.
-/
import Derived.Test.YtomaddpcacoodaaE11
set_option linter.unusedSimpArgs false
set_option linter.unusedVariables false
namespace Go.Dm
open Go

section comp
variable {P : Program} {T : Tab} {X : Ctx} {K : DV → DHeap → Prop}

theorem flatten_replicate_at {α : Type} (z : List α) (n j : Nat) (h : j < n * z.length) : (List.replicate n z).flatten[j]? = z[j % z.length]? := by
  have hz : 0 < z.length := by
    rcases Nat.eq_zero_or_pos z.length with h0 | h0
    · rw [h0] at h; simp at h
    · exact h0
  have h1 : j / z.length < n := (Nat.div_lt_iff_lt_mul hz).2 h
  have := flatten_at (k := z.length) (es := List.replicate n z) (j := j / z.length) (c := j % z.length) (e := z) (fun e he => by rw [(List.mem_replicate.1 he).2]) (by rw [List.getElem?_replicate, if_pos h1]) (Nat.mod_lt _ hz)
  rw [← this]
  congr 1
  have := Nat.div_add_mod j z.length
  rw [Nat.mul_comm] at this; omega

theorem wrap_i64 {n : Int} (h1 : -9223372036854775808 ≤ n) (h2 : n ≤ 9223372036854775807) : IntKind.i64.wrap n = n := by
  simp only [IntKind.wrap, IntKind.bits, IntKind.signed, Bool.true_and]
  split <;> rename_i h <;> simp at h <;> omega

theorem dmake_val (hT : TabOK P T) (hi : HInv X) {t : Nat} {l c : DV} {vl vc : Value} (hl : RelD X l vl) (hc : RelD X c vc) (h : dmake T t l c X.h K) : Val X K ((Instr.makeSlice t vl vc).run P X.w) := by
  unfold dmake at h
  split at h
  · rename_i e n m hk
    obtain ⟨h0, h1, h2, h3, h4, h5, h⟩ := h
    simp only [RelD, RelC, RelP] at hl hc
    subst hl; subst hc
    have hs : (T e).size ≠ 0 := by omega
    obtain ⟨_, i, z, g1, g2, g3, g4, g5, g6, g7, g8⟩ := tab_info hT (tab_known hT hs)
    have hz : z.cells.size = (T e).size := by
      have := congrArg List.length g5
      simp only [List.length_map] at this
      rw [g6, this]; simp
    have wn : IntKind.i64.wrap n = n := wrap_i64 (by omega) (by omega)
    have wm : IntKind.i64.wrap m = m := wrap_i64 (by omega) (by omega)
    have hbm : (i.bytes : Int) * m ≤ 140737488355328 := by rw [g3, Int.mul_comm]; exact h3
    have hsize : 0 < m.toNat * (T e).size ∨ m.toNat = 0 := by
      rcases Nat.eq_zero_or_pos m.toNat with hm | hm
      · exact .inr hm
      · exact .inl (Nat.mul_pos hm h4)
    have hgw := Grew.alloc X.w (.cells ((Array.range (m.toNat * (T e).size)).map fun j => (if m.toNat * (T e).size = 0 then #[] else z.cells)[j % (if m.toNat * (T e).size = 0 then #[] else z.cells).size]!) e)
    have hrun : (Instr.makeSlice t (.int .i64 n) (.int .i64 m)).run P X.w = .ok (.slice (some ⟨X.w.heap.size, 0, none⟩) n.toNat m.toNat)
        (X.w.alloc (.cells ((Array.range (m.toNat * (T e).size)).map fun j => (if m.toNat * (T e).size = 0 then #[] else z.cells)[j % (if m.toNat * (T e).size = 0 then #[] else z.cells).size]!) e)) := by
      have q1 : ¬ m < 0 := by omega
      have q2 : ¬ 281474976710656 < (i.bytes : Int) * m := by omega
      have q3 : ¬ n < 0 := by omega
      have q4 : ¬ m < n := by omega
      by_cases q5 : m.toNat * i.size = 0
      · rw [← g2]
        simp [Instr.makeSlice, run_underlying (und_slice hT hk), asInt, asIntOf, typeInfo, g1, wn, wm, q1, q2, q3, q4, sizeOf, q5, newRow]
      · rw [← g2]
        simp [Instr.makeSlice, run_underlying (und_slice hT hk), asInt, asIntOf, typeInfo, g1, wn, wm, q1, q2, q3, q4, sizeOf, q5, newRow, zeroValue, g4]
    have hfl : RelPs X.w X.S (List.replicate n.toNat (T e).zero).flatten (List.replicate n.toNat z.cells.toList).flatten := by
      have hzz : RelPs X.w X.S (T e).zero z.cells.toList := flatVs_rel g5
      have : ∀ q : Nat, RelPs X.w X.S (List.replicate q (T e).zero).flatten (List.replicate q z.cells.toList).flatten := by
        intro q
        induction q with
        | zero => exact True.intro
        | succ q ih => simpa [List.replicate_succ] using hzz.append ih
      exact this _
    have hlz : z.cells.toList.length = (T e).size := by simpa using hz
    obtain ⟨k1, k2⟩ := new_row (k := (T e).size) (es := List.replicate n.toNat (T e).zero) (vs := (List.replicate n.toNat z.cells.toList).flatten) hi hgw (fun x hx => by rw [(List.mem_replicate.1 hx).2]; exact h5) hfl (fun j v hj => by
        have hjl := lt_of_some hj
        rw [flatten_length (k := (T e).size) (fun x hx => by rw [(List.mem_replicate.1 hx).2]; exact hlz), List.length_replicate] at hjl
        have hlt : j < m.toNat * (T e).size := Nat.lt_of_lt_of_le hjl (Nat.mul_le_mul_right _ (by omega))
        rw [flatten_replicate_at z.cells.toList n.toNat j (by rw [hlz]; exact hjl)] at hj
        rw [hlz] at hj
        have hne : m.toNat * (T e).size ≠ 0 := by omega
        simp only [if_neg hne, Array.getElem?_map, Array.getElem?_range, if_pos hlt, Option.map_some, Option.some.injEq]
        rw [hz]
        have hmod : j % (T e).size < z.cells.size := by rw [hz]; exact Nat.mod_lt _ h4
        rw [getElem!_pos z.cells _ hmod]
        rw [Array.getElem?_toList, Array.getElem?_eq_getElem hmod] at hj
        exact Option.some.inj hj) (by simp; exact Nat.mul_le_mul_right _ (by omega)) (Free.zero _ _)
    exact ⟨_, _, _, hrun, k2, k1, own_new (k := (T e).size) (es := List.replicate n.toNat (T e).zero) hgw (by simp) (by omega) (by unfold maxLen; omega) (by simp), h⟩
  · exact h.elim

theorem foldl_set : ∀ (ys : List Value) (cs : Array Value) (off i : Nat), off + i + ys.length ≤ cs.size →
    (ys.zipIdx i).foldl (fun cs (c, j) => cs.setIfInBounds (off + j) c) cs = (splice cs.toList (off + i) ys).toArray
  | [], cs, off, i, _ => by simp [splice]
  | y :: ys, cs, off, i, h => by
    simp only [List.length_cons] at h
    simp only [List.zipIdx_cons, List.foldl_cons]
    rw [foldl_set ys (cs.setIfInBounds (off + i) y) off (i + 1) (by simp; omega)]
    congr 1
    apply List.ext_getElem?
    intro j
    rw [splice_at _ _ _ (by simp; omega), splice_at _ _ _ (by simp; omega)]
    simp only [List.length_cons]
    by_cases hj : j = off + i
    · subst hj
      rw [if_neg (by omega), if_pos (by omega), Nat.sub_self, Array.toList_setIfInBounds, List.getElem?_set_self (by simp only [Array.length_toList]; omega)]
      rfl
    · by_cases h8 : off + (i + 1) ≤ j ∧ j < off + (i + 1) + ys.length
      · rw [if_pos h8, if_pos (by omega), show j - (off + i) = (j - (off + (i + 1))) + 1 by omega]
        rfl
      · rw [if_neg h8, if_neg (by omega)]
        simp only [Array.toList_setIfInBounds]
        rw [List.getElem?_set_ne (fun e => hj e.symm)]

theorem RelCs.splice {cells ys : List CV} {vs us : List Value} {off : Nat} (h : RelCs X cells vs) (k : RelCs X ys us) (hle : off + ys.length ≤ cells.length) : RelCs X (splice cells off ys) (splice vs off us) := by
  have h1 := h.length
  have h2 := k.length
  refine RelCs.mk (by rw [splice_length _ _ _ hle, splice_length _ _ _ (by omega)]; exact h1) fun j c v hc hv => ?_
  rw [splice_at _ _ _ hle] at hc
  rw [splice_at _ _ _ (by omega)] at hv
  rw [h2] at hc
  split at hc
  · rename_i hj
    rw [if_pos hj] at hv
    obtain ⟨v', h3, h4⟩ := k.at_ hc
    rw [hv] at h3; cases h3
    exact h4
  · rename_i hj
    rw [if_neg hj] at hv
    obtain ⟨v', h3, h4⟩ := h.at_ hc
    rw [hv] at h3; cases h3
    exact h4

/-- Parts read as data. -/
def RelParts (X : Ctx) : List (Nat × DV) → List (Nat × Value) → Prop
  | [], [] => True
  | (i, d) :: ds, (j, v) :: vs => i = j ∧ RelD X d v ∧ RelParts X ds vs
  | _, _ => False

theorem dfill_rel {place placeV : Nat → Option (Nat × Nat)} (hp : ∀ i x, place i = some x → placeV i = some x) : ∀ {parts : List (Nat × DV)} {vparts : List (Nat × Value)} {cells cells' : List CV} {vs : List Value},
    RelParts X parts vparts → RelCs X cells vs → dfill T place cells parts = some cells' → ∃ vs', Instr.fill placeV vs.toArray vparts = some (List.toArray vs') ∧ RelCs X cells' vs'
  | [], [], cells, cells', vs, _, hr, h => by
    simp only [dfill, Option.some.injEq] at h
    subst h
    exact ⟨vs, rfl, hr⟩
  | (i, d) :: parts, (j, v) :: vparts, cells, cells', vs, hq, hr, h => by
    obtain ⟨rfl, hd, hq⟩ := hq
    simp only [dfill] at h
    split at h
    · rename_i off size ys h1 h2
      split at h
      · rename_i hle
        have hy := cellsD_rel hd h2
        have hyl := hy.length
        have hrl := hr.length
        obtain ⟨vs', h3, h4⟩ := dfill_rel hp hq (hr.splice hy (by omega)) h
        refine ⟨vs', ?_, h4⟩
        simp only [Instr.fill, hp _ _ h1]
        have hsz : v.cells.size = v.cells.toList.length := by simp
        rw [if_neg (by simp; omega)]
        have := foldl_set v.cells.toList vs.toArray off 0 (by simp; omega)
        simp only [Nat.add_zero] at this
        rw [← Array.foldl_toList, Array.toList_zipIdx, this]
        exact h3
      · cases h
    · cases h
  | [], _ :: _, _, _, _, h, _, _ => h.elim
  | _ :: _, [], _, _, _, h, _, _ => h.elim

theorem run_mapM_pure {α β : Type} {f : α → Sem β} {g : α → β} {w : World} : ∀ (l : List α), (∀ x ∈ l, (f x).run P w = .ok (g x) w) → (l.mapM f).run P w = .ok (l.map g) w
  | [], _ => by simp
  | x :: l, h => by
    rw [List.mapM_cons]
    simp only [Sem.run_bind, h x (by simp), Result.andThen_ok, run_mapM_pure l (fun y hy => h y (by simp [hy])), Sem.run_pure, List.map_cons]

theorem dbuild_val (hT : TabOK P T) (hi : HInv X) {t : Nat} {parts : List (Nat × DV)} {vparts : Array (Nat × Value)} (hp : RelParts X parts vparts.toList) (h : dbuild T t parts fun d => K d X.h) : Val X K ((Instr.build t vparts).run P X.w) := by
  unfold dbuild at h
  split at h
  · rename_i fs hk
    obtain ⟨hfs, h⟩ := h
    obtain ⟨_, i, z, g1, g2, g3, g4, g5, g6, g7, g8⟩ := tab_info hT (t := t) (by rw [hk]; simp)
    obtain ⟨fields, hu, hf⟩ := und_struct hT hk
    split at h
    · rename_i cells hc
      have hz : RelCs X ((T t).zero.map .p) z.cells.toList := RelCs.of_ps (flatVs_rel g5)
      have hplaces : (fields.mapM fun f => do pure (f.offset, ← sizeOf f.type) : Sem _).run P X.w = .ok (fields.map fun f => (f.offset, (T f.type).size)) X.w := by
        rw [Array.mapM_eq_mapM_toList]
        simp only [Sem.run_map]
        rw [run_mapM_pure (g := fun f => (f.offset, (T f.type).size)) fields.toList fun f hf' => by
          have : (T f.type).size ≠ 0 := hfs (f.type, f.offset) (by rw [← hf]; exact List.mem_map.2 ⟨f, hf', rfl⟩)
          simp [run_size hT (tab_known hT this)]]
        simp only [Result.andThen_ok]
        congr 1
        apply Array.ext'
        simp
      obtain ⟨vs', h1, h2⟩ := dfill_rel (T := T) (placeV := fun j => (fields.map fun f => (f.offset, (T f.type).size))[j]?) (fun j x hx => by
        obtain ⟨f, h1, h2⟩ := Option.map_eq_some_iff.1 hx
        rw [← hf, List.getElem?_map] at h1
        obtain ⟨fd, h3, h4⟩ := Option.map_eq_some_iff.1 h1
        subst h4; subst h2
        rw [Array.getElem?_map]
        have : fields[j]? = some fd := by simpa using h3
        rw [this]; rfl) hp hz hc
      refine Val.same hi (v := .agg vs'.toArray) ?_ (relAgg h2) h
      simp only [Instr.build, Sem.run_bind, zeroValue, typeInfo, Sem.run_bind, run_program, Result.andThen_ok, g1, Sem.run_pure, g4, run_underlying hu, hplaces]
      rw [show z.cells = z.cells.toList.toArray by simp, h1]
      simp
    · exact h.elim
  · rename_i n e hk
    obtain ⟨hse, h⟩ := h
    obtain ⟨_, i, z, g1, g2, g3, g4, g5, g6, g7, g8⟩ := tab_info hT (t := t) (by rw [hk]; simp)
    split at h
    · rename_i cells hc
      have hz : RelCs X ((T t).zero.map .p) z.cells.toList := RelCs.of_ps (flatVs_rel g5)
      obtain ⟨vs', h1, h2⟩ := dfill_rel (T := T) (placeV := fun j => some (j * (T e).size, (T e).size)) (fun j x hx => hx) hp hz hc
      refine Val.same hi (v := .agg vs'.toArray) ?_ (relAgg h2) h
      simp only [Instr.build, Sem.run_bind, zeroValue, typeInfo, Sem.run_bind, run_program, Result.andThen_ok, g1, Sem.run_pure, g4, run_underlying (und_array hT hk), run_size hT (tab_known hT hse)]
      rw [show z.cells = z.cells.toList.toArray by simp, h1]
      simp
    · exact h.elim
  · exact h.elim

end comp

end Go.Dm
