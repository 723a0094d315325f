/-
  The engine, part 10: that the operations of the model do what part 6 says: conversions, new memory, composite values, append. No condition beyond the table of types being the program's.
-/
import Derived.Test.YtomaddpcacoodaaE9
set_option linter.unusedSimpArgs false
set_option linter.unusedVariables false
namespace Go.Dm
open Go

section news
variable {P : Program} {T : Tab} {X : Ctx} {K : DV → DHeap → Prop}

theorem RelPs.length_flatten {w : World} {S : Nat → Prop} {es : List (List PV)} {vs : List Value} {k : Nat} (h : RelPs w S es.flatten vs) (hl : ∀ e ∈ es, e.length = k) : vs.length = es.length * k := by
  rw [← h.length, flatten_length hl]

theorem bytesOf_one : ∀ {es : List (List PV)} {l : List UInt8}, bytesOf es = some l → ∀ e ∈ es, e.length = 1
  | [], _, _, e, he => by simp at he
  | x :: es, l, h, e, he => by
    simp only [bytesOf] at h
    split at h
    · rename_i b l' hb hl
      rcases List.mem_cons.1 he with rfl | he
      · unfold byteOf at hb
        split at hb
        · rfl
        · cases hb
      · exact bytesOf_one hl e he
    · cases h

theorem encB_bytes (l : List UInt8) : bytesOf (encB l) = some l := by
  induction l with
  | nil => rfl
  | cons b l ih =>
    have hb : byteOf [.i .u8 (b.toNat : Int)] = some b := by
      simp only [byteOf, Int.toNat_natCast, Option.some.injEq]
      exact UInt8.ofNat_toNat
    have : encB (b :: l) = [.i .u8 (b.toNat : Int)] :: encB l := rfl
    simp only [this, bytesOf, hb, ih]

theorem encB_flatten (l : List UInt8) : (encB l).flatten = l.map fun b => PV.i .u8 (b.toNat : Int) := by
  induction l with
  | nil => rfl
  | cons b l ih =>
    have : encB (b :: l) = [.i .u8 (b.toNat : Int)] :: encB l := rfl
    rw [this, List.flatten_cons, ih]
    rfl

/-- A new row of the call's own. -/
theorem new_row (hi : HInv X) {w' : World} {arr : Array Value} {el : TypeId} {fz : Nat × Nat} {k : Nat} {es : List (List PV)} {vs : List Value} (hw : Grew X.w w' (.cells arr el fz))
    (hl : ∀ e ∈ es, e.length = k) (hr : RelPs X.w X.S es.flatten vs) (hv : ∀ (j : Nat) (v : Value), vs[j]? = some v → arr[j]? = some v) (hsz : es.length * k ≤ arr.size) (hf : Free fz 0 arr.size) :
    Step X (X.push w' (.arr k es false)) ∧ HInv (X.push w' (.arr k es false)) := by
  have hs := Step.push hi hw (.arr k es false)
  refine ⟨hs, HInv.push hi hw ?_ rfl⟩
  have hG : (X.push w' (.arr k es false)).G X.h.length = some (X.w.heap.size, 0) := by simp [Ctx.push]
  simp only [RelB]
  refine .inr ⟨_, arr, el, fz, hG, hw.new, by simpa using hsz, hf, RelL.of_vals hl (hr.kept hs.kept) fun j v hj => ?_⟩
  show w'.cell? _ = _
  simp only [World.cell?, hw.new, Option.isSome_none, Bool.false_eq_true, if_false, Nat.zero_add]
  exact hv j v hj

theorem own_new {w' : World} {arr : Array Value} {el : TypeId} {fz : Nat × Nat} {k n cap : Nat} {es : List (List PV)} (hw : Grew X.w w' (.cells arr el fz)) (hn : n ≤ es.length) (hc : n ≤ cap) (hm : cap ≤ maxLen) (hsz : cap * k ≤ arr.size) :
    RelD (X.push w' (.arr k es false)) (.c (.own X.h.length 0 n)) (.slice (some ⟨X.w.heap.size, 0, none⟩) n cap) := by
  refine relC (x := .own X.h.length 0 n) ⟨by simp [Ctx.push], rfl, fun k' es' ro hh => ?_⟩
  simp only [Ctx.push, List.getElem?_concat_length, Option.some.injEq, DB.arr.injEq] at hh
  obtain ⟨rfl, rfl, rfl⟩ := hh
  refine ⟨by omega, ?_⟩
  simp only [Ctx.push, if_true]
  exact ⟨cap, 0, arr, el, fz, hw.new, rfl, .inr (by simp), hc, hm, by simpa using hsz⟩

theorem new_box (hi : HInv X) {w' : World} {arr : Array Value} {el : TypeId} {fz : Nat × Nat} {cells : List CV} (hw : Grew X.w w' (.cells arr el fz)) (hr : RelCs X cells arr.toList) (hf : Free fz 0 arr.size) :
    Step X (X.push w' (.box cells)) ∧ HInv (X.push w' (.box cells)) ∧ RelD (X.push w' (.box cells)) (.c (.ptr X.h.length 0)) (.pointer (some ⟨X.w.heap.size, 0, none⟩)) := by
  have hs := Step.push hi hw (.box cells)
  have hG : (X.push w' (.box cells)).G X.h.length = some (X.w.heap.size, 0) := by simp [Ctx.push]
  refine ⟨hs, HInv.push hi hw ?_ rfl, relC (x := .ptr X.h.length 0) ⟨by simp [Ctx.push], rfl, fun cs _ => ⟨_, hG, rfl⟩⟩⟩
  simp only [RelB]
  refine ⟨_, arr, el, fz, hG, hw.new, by have := hr.length; simp at this ⊢; omega, hf, RelBox.mk fun j c hc => ?_⟩
  obtain ⟨v, h1, h2⟩ := hr.at_ hc
  refine ⟨v, ?_, h2.step hs⟩
  show w'.cell? _ = _
  simp only [World.cell?, hw.new, Option.isSome_none, Bool.false_eq_true, if_false, Nat.zero_add]
  simpa using h1

theorem Free.zero (lo hi : Nat) : Free (0, 0) lo hi := .inl rfl

theorem Grew.alloc (w : World) (o : Obj) : Grew w (w.alloc o) o := ⟨rfl, rfl, rfl, rfl⟩
theorem Grew.drew {w w' : World} {o : Obj} (h : Grew w.drew w' o) : Grew w w' o := ⟨h.heap, h.os, h.tape, h.output⟩

theorem box_val (hi : HInv X) {t : TypeId} {x : DV} {v : Value} {ys : List CV} (hx : RelD X x v) (hc : cellsD x = some ys) (h : K (.c (.ptr X.h.length 0)) (X.h ++ [.box ys])) : Val X K ((Instr.box t v).run P X.w) := by
  obtain ⟨h1, h2, h3⟩ := new_box hi (Grew.alloc X.w (.cells v.cells t)) (cellsD_rel hx hc) (Free.zero _ _)
  refine ⟨_, _, _, ?_, h2, h1, h3, h⟩
  simp [Instr.box, newVar, newRow, Ctx.push]

theorem alloc_val (hT : TabOK P T) (hi : HInv X) {t : Nat} (hk : (T t).k ≠ .no) (h : K (.c (.ptr X.h.length 0)) (X.h ++ [.box ((T t).zero.map .p)])) : Val X K ((Instr.alloc t true (.tuple #[])).run P X.w) := by
  obtain ⟨_, i, z, h1, h2, h3, h4, h5, h6, h7⟩ := tab_info hT hk
  obtain ⟨h8, h9, h10⟩ := new_box hi (Grew.alloc X.w (.cells z.cells t)) (RelCs.of_ps (flatVs_rel h5)) (Free.zero _ _)
  refine ⟨_, _, _, ?_, h9, h8, h10, h⟩
  simp [Instr.alloc, zeroValue, typeInfo, h1, h4, newVar, newRow, Ctx.push]

theorem freeze_touched {w : World} {bl : Nat} {arr : Array Value} {el : TypeId} {fz : Nat × Nat} (h : w.heap[bl]? = some (.cells arr el fz)) (n : Nat) :
    Touched w (w.freeze ⟨bl, n, none⟩ 1) bl ∧ (w.freeze ⟨bl, n, none⟩ 1).heap[bl]? = some (.cells arr el (if fz.1 == fz.2 then (n, n + 1) else (min fz.1 n, max fz.2 (n + 1)))) := by
  have hh : (w.freeze ⟨bl, n, none⟩ 1).heap[bl]? = some (.cells arr el (if fz.1 == fz.2 then (n, n + 1) else (min fz.1 n, max fz.2 (n + 1)))) := by
    simp [World.freeze, Array.getElem?_modify, h]
  refine ⟨⟨rfl, rfl, rfl, by simp [World.freeze], fun b hb => ?_, ?_⟩, hh⟩
  · simp only [World.freeze, Nat.succ_ne_self, if_false]
    rw [Array.getElem?_modify, if_neg (fun e => hb e.symm)]
  · exact ⟨_, _, _, _, _, _, h, hh, rfl⟩

theorem dconv_val (hT : TabOK P T) (hi : HInv X) {src dst : Nat} {x : DV} {v : Value} (hx : RelD X x v) (h : dconv T src dst x X.h K) : Val X K ((convert src dst v).run P X.w) := by
  unfold dconv at h
  split at h
  · rename_i k0 k k' n hks hkd
    simp only [RelD, RelC, RelP] at hx
    subst hx
    exact Val.same hi (by simp [convert, run_underlying (und_int hT hks), run_underlying (und_int hT hkd), Conv.intToInt]) (oneP (x := .i _ _) rfl) h
  · rename_i l hks hkd
    simp only [RelD, RelC, RelP] at hx
    subst hx
    exact Val.same hi (by simp [convert, run_underlying (und_str hT hks), run_underlying (und_str hT hkd)]) (oneP (x := .s _) rfl) h
  · rename_i e hks hkd
    split at h
    · rename_i es hke hes
      split at h
      · rename_i l hl
        obtain ⟨a, c, vs, rfl, h1, h2, h3⟩ := elemsOf_vals hi hx hes
        obtain ⟨ns, rfl, h4, h5⟩ := bytesOf_vals hl h1
        refine Val.same hi (v := .string ⟨l.toArray⟩) ?_ (oneP (x := .s _) rfl) h
        rw [run_convert_bytes_string X.w src dst e a es.length c (und_slice hT hks) (und_int hT hke) (und_str hT hkd)]
        cases a with
        | none =>
          have := h2 rfl
          subst this
          simp only [bytesOf, Option.some.injEq] at hl
          subst hl
          simp [Conv.bytesToString]
          rfl
        | some ad =>
          have hlc := run_loadCells_list (P := P) X.w ad (ns.map (Value.int .u8)) (h3 ad rfl)
          have hnl : (ns.map (Value.int .u8)).length = es.length := by
            rw [h5, ← h4]; simp
          rw [hnl] at hlc
          rw [run_bytesToString X.w ad es.length c ns hlc, foldl_push_bytes, h4]
          simp
      · exact h.elim
    · exact h.elim
  · rename_i e l hks hkd
    split at h
    · rename_i hke
      obtain ⟨hsz, hln, h⟩ := h
      simp only [RelD, RelC, RelP] at hx
      subst hx
      have hrun := Lib.run_convert_string_bytes (P := P) X.w src dst e ⟨l.toArray⟩ (und_str hT hks) (und_slice hT hkd) (und_int hT hke)
      have hbs : (⟨l.toArray⟩ : ByteArray).size = l.length := by simp [ByteArray.size]
      rw [hbs] at hrun
      have hge := grownCap_ge X.w l.length 0 e
      have hle := grownCap_le_maxLen X.w l.length 0 e (by unfold maxLen; omega)
      have hsize : (Lib.bytesCells X.w e ⟨l.toArray⟩).size = grownCap X.w l.length 0 e := by
        simp only [Lib.bytesCells, hbs]; simp; omega
      have hg : Grew X.w (Lib.bytesWorld X.w e ⟨l.toArray⟩) (.cells (Lib.bytesCells X.w e ⟨l.toArray⟩) e ((Lib.bytesCells X.w e ⟨l.toArray⟩).size, (Lib.bytesCells X.w e ⟨l.toArray⟩).size + 1)) := by
        refine ⟨?_, ?_, ?_, ?_⟩
        · apply Array.ext
          · rw [Lib.bytesWorld_size, Array.size_push]
          · intro i h1 h2
            rw [Lib.bytesWorld_size] at h1
            have := Lib.bytesWorld_at_new X.w e ⟨l.toArray⟩
            have hold := Lib.bytesWorld_at_old X.w e ⟨l.toArray⟩ i
            rcases Nat.lt_or_ge i X.w.heap.size with hlt | hge
            · have := hold hlt
              rw [Array.getElem_push_lt hlt]
              rw [Array.getElem?_eq_getElem (by rw [Lib.bytesWorld_size]; omega), Array.getElem?_eq_getElem hlt] at this
              exact Option.some.inj this
            · have hi' : i = X.w.heap.size := by omega
              subst hi'
              rw [Array.getElem_push_eq]
              rw [Array.getElem?_eq_getElem (by rw [Lib.bytesWorld_size]; omega)] at this
              exact Option.some.inj this
        all_goals
          simp only [Lib.bytesWorld, World.freeze]
          split <;> rfl
      have hr : RelPs X.w X.S (encB l).flatten (l.map fun b => Value.int .u8 (b.toNat : Int)) := by
        rw [encB_flatten]
        exact RelPs.mk (by simp) fun j c v h1 h2 => by
          rw [List.getElem?_map] at h1 h2
          obtain ⟨b, hb, rfl⟩ := Option.map_eq_some_iff.1 h1
          rw [hb] at h2
          cases h2
          rfl
      have hel : (encB l).length = l.length := by simp [encB]
      obtain ⟨h1, h2⟩ := new_row (k := 1) hi hg (fun e he => bytesOf_one (encB_bytes l) e he) hr (fun j v hj => by
          have hjl := lt_of_some hj
          simp only [List.length_map] at hjl
          simp only [Lib.bytesCells]
          rw [Array.getElem?_append_left (by simp; omega)]
          rw [List.getElem?_map] at hj
          simpa using hj) (by rw [hsize, hel]; omega) (.inr (Nat.le_refl _))
      exact ⟨_, _, _, hrun, h2, h1, own_new (k := 1) (es := encB l) hg (by rw [hel]; exact Nat.le_refl _) hge hle (by rw [hsize]; omega), h⟩
    · exact h.elim
  · rename_i e e' id off len hks hkd
    split at h
    · rename_i k es he
      obtain ⟨rfl, hke, hpos, h⟩ := h
      rw [hks] at hkd
      cases hkd
      have hx0 := hx
      simp only [RelD, RelC] at hx
      obtain ⟨_, _, h3⟩ := hx
      obtain ⟨h4, h5⟩ := h3 _ _ _ he
      have hb := hi.blk id _ he
      simp only [RelB] at hb
      rcases hb with hb | ⟨g, arr, el, fz, hg, hb, h6, h7, h8⟩
      · rw [hb.2] at h4; simp only [List.length_nil] at h4; omega
      rw [hg] at h5
      obtain ⟨cap, o, arr', el', fz', k1, rfl, _⟩ := h5
      obtain ⟨hto, hnew⟩ := freeze_touched hb arr.size
      have hset : X.h.set id (.arr k es false) = X.h := by
        apply List.ext_getElem?
        intro i
        rw [List.getElem?_set]
        split
        · rename_i e1; subst e1; exact he.symm
        · rfl
      have hst := Step.put hi he rfl rfl hg hto (d := .arr k es false) ⟨rfl, Nat.le_refl _⟩ rfl
      have hin : HInv (X.put (X.w.freeze ⟨g.1, arr.size, none⟩ 1) id (.arr k es false)) := HInv.put hi he rfl rfl hg hto ⟨rfl, Nat.le_refl _⟩ rfl (by
        simp only [RelB]
        refine .inr ⟨g, arr, el, _, hg, hnew, h6, ?_, ?_⟩
        · simp only [Free] at h7 ⊢
          split
          · exact .inr (Nat.le_refl _)
          · rename_i hne
            simp only [beq_iff_eq] at hne
            rcases h7 with h7 | h7
            · exact absurd h7 hne
            · exact .inr (by simp only; omega)
        · obtain ⟨vs, q1, _, q3⟩ := h8.vals
          refine RelL.of_vals (fun e he' => ?_) (RelPs.kept hst.kept q1) fun j v hj => ?_
          · obtain ⟨j, hj⟩ := List.mem_iff_getElem?.1 he'
            exact (h8.at_ hj).1
          · have := q3 j v hj
            simp only [World.cell?, hb] at this
            simp only [World.cell?, Ctx.put, hnew]
            exact this)
      refine ⟨_, _, _, ?_, hin, hst, hx0.step hst, by simp only [Ctx.put, hset]; exact h⟩
      simp [convert, run_underlying (und_slice hT hks), run_underlying (und_int hT hke), markStringish, World.shape?, hb, Ctx.put]
    · exact h.elim
  · exact h.elim

theorem dlen_val (hT : TabOK P T) (hi : HInv X) {t : Nat} {x : DV} {v : Value} {ts : Array TypeId} {ty : TypeId} (ht : ts[0]? = some t) (hx : RelD X x v) (h : dlen (T t) X.h x fun d => K d X.h) : Val X K ((Builtin.len_ ts ty #[v]).run P X.w) := by
  unfold dlen at h
  split at h
  · rename_i l hk
    simp only [RelD, RelC, RelP] at hx
    subst hx
    refine Val.same hi (v := .int .i64 l.length) ?_ (oneP (x := .i _ _) rfl) h
    have hsz : (⟨l.toArray⟩ : ByteArray).size = l.length := rfl
    simp [Builtin.len_, ht, run_underlying (und_str hT hk), hsz, goInt]
  · rename_i e k es hk
    simp only [RelD, RelC, RelP] at hx
    obtain ⟨a, c, rfl, hc, hL⟩ := hx
    refine Val.same hi (v := .int .i64 es.length) ?_ (oneP (x := .i _ _) rfl) h
    simp [Builtin.len_, ht, run_underlying (und_slice hT hk), goInt]
  · rename_i e hk
    simp only [RelD, RelC, RelP] at hx
    subst hx
    refine Val.same hi (v := .int .i64 0) ?_ (oneP (x := .i _ _) rfl) h
    simp [Builtin.len_, ht, run_underlying (und_slice hT hk), goInt]
  · rename_i e id off len hk
    split at h
    · rename_i k es ro he
      obtain ⟨_, _, h3⟩ := hx
      obtain ⟨h4, h5⟩ := h3 _ _ _ he
      refine Val.same hi (v := .int .i64 len) ?_ (oneP (x := .i _ _) rfl) h
      have : ∃ a c, v = .slice a len c := by
        cases hG : X.G id with
        | none =>
          rw [hG] at h5
          have hb := hi.blk id _ he
          simp only [RelB] at hb
          rcases hb with hb | ⟨g', _, _, _, hg, _⟩
          · rw [hb.2] at h4
            have : len = 0 := by simp at h4; omega
            subst this
            exact ⟨none, 0, h5⟩
          · rw [hG] at hg; cases hg
        | some g =>
          rw [hG] at h5
          obtain ⟨cap, o, arr, el, fz, h6, h7, _⟩ := h5
          exact ⟨_, _, h7⟩
      obtain ⟨a, c, rfl⟩ := this
      simp [Builtin.len_, ht, run_underlying (und_slice hT hk), goInt]
    · exact h.elim
  · rename_i n e hk
    refine Val.same hi (v := .int .i64 n) ?_ (oneP (x := .i _ _) rfl) h
    simp [Builtin.len_, ht, run_underlying (und_array hT hk), goInt]
  · exact h.elim

theorem dmm_val (hi : HInv X) {lt : Bool} {xs : List DV} {vs : List Value} {ts : Array TypeId} {ty : TypeId} (hx : RelDs X xs vs) (h : dmm lt xs fun d => K d X.h) :
    Val X K ((if lt then Builtin.min_ ts ty vs.toArray else Builtin.max_ ts ty vs.toArray).run P X.w) := by
  unfold dmm at h
  split at h
  · rename_i k a k' b
    match vs, hx with
    | [v1, v2], ⟨h1, h2, _⟩ =>
      simp only [RelD, RelC, RelP] at h1 h2
      subst h1; subst h2
      refine Val.same hi ?_ (oneP (x := .i _ _) rfl) h
      cases lt
      · simp [Builtin.max_, Builtin.max2]
      · simp [Builtin.min_, Builtin.min2]
  · exact h.elim

end news

end Go.Dm
