/-
  The bridge to the shelf's contract of a sort of structs by a closure. No condition.
-/
import Derived.Test.YtnbgaphhhjnjlaaGreatDoorBB
import Derived.Shelf.SlSortCmp.InsertionK
import Derived.Sort.LotA
set_option linter.unusedSimpArgs false
set_option linter.unusedVariables false
namespace Go.Dm
open Go Go.Sort Go.Proofs

/-- An element of a row: its cells as they lie, and as data. -/
structure El (k : Nat) (ok : List PV → List Value → Prop) where
  v : List Value
  p : List PV
  hv : v.length = k
  hp : p.length = k
  h1 : ∀ x ∈ v, x.oneCell' = true
  hk : ok p v

theorem els_of {w : World} {S : Nat → Prop} {k bl off : Nat} {es : List (List PV)} {ok : List PV → List Value → Prop} (hl : RelL w S k bl off es) (hok : ∀ e ∈ es, ∀ v, RelPs w S e v → ok e v) :
    ∃ d : List (El k ok), d.map (·.p) = es ∧ (∀ x ∈ d, RelPs w S x.p x.v) ∧ ∀ (i : Nat) (x : El k ok), d[i]? = some x → ∀ (j : Nat) (v : Value), x.v[j]? = some v → w.cell? ⟨bl, off + i * k + j, none⟩ = some v := by
  have key : ∀ i, i < es.length → ∃ x : El k ok, es[i]? = some x.p ∧ RelPs w S x.p x.v ∧ ∀ (j : Nat) (v : Value), x.v[j]? = some v → w.cell? ⟨bl, off + i * k + j, none⟩ = some v := by
    intro i hi
    obtain ⟨h1, h2⟩ := hl.at_ (List.getElem?_eq_getElem hi)
    obtain ⟨vs, h3, h4⟩ := h2.vals
    exact ⟨⟨vs, es[i], by rw [← h3.length]; exact h1, h1, h3.oneCell, hok _ (List.getElem_mem hi) _ h3⟩, List.getElem?_eq_getElem hi, h3, h4⟩
  obtain ⟨d, h1, h2⟩ := exists_list es.length key
  refine ⟨d, List.ext_getElem? fun i => ?_, fun x hx => ?_, fun i x hx => (h2 i x hx).2.2⟩
  · rw [List.getElem?_map]
    rcases Nat.lt_or_ge i d.length with hi | hi
    · rw [List.getElem?_eq_getElem hi]
      exact ((h2 i _ (List.getElem?_eq_getElem hi)).1).symm
    · rw [List.getElem?_eq_none hi, List.getElem?_eq_none (by omega)]; rfl
  · obtain ⟨i, hi⟩ := List.mem_iff_getElem?.1 hx
    exact (h2 i x hi).2.1

theorem holdsK_els {w : World} {k bl off : Nat} {ok : List PV → List Value → Prop} [Inhabited (El k ok)] {d : List (El k ok)} {arr : Array Value} {el : TypeId} {fz : Nat × Nat} (hb : w.heap[bl]? = some (.cells arr el fz)) (hf : Free fz off arr.size) (hs : off + d.length * k ≤ arr.size)
    (hc : ∀ (i : Nat) (x : El k ok), d[i]? = some x → ∀ (j : Nat) (v : Value), x.v[j]? = some v → w.cell? ⟨bl, off + i * k + j, none⟩ = some v) : HoldsK El.v k w bl off d.toArray := by
  intro t ht
  have ht' : t < d.length * k := by simpa using ht
  have hk : 0 < k := by rcases Nat.eq_zero_or_pos k with h | h; subst h; simp at ht'; exact h
  have hi : t / k < d.length := (Nat.div_lt_iff_lt_mul hk).2 ht'
  refine ⟨?_, ?_⟩
  · rw [get_flatK _ _ _ t (by simpa using ht')]
    have hx : d[t / k]? = some d[t / k] := List.getElem?_eq_getElem hi
    have hm : t % k < (d[t / k]).v.length := by rw [(d[t / k]).hv]; exact Nat.mod_lt _ hk
    have := hc (t / k) _ hx (t % k) _ (List.getElem?_eq_getElem hm)
    rw [Nat.add_assoc, Nat.mul_comm, Nat.div_add_mod] at this
    rw [this, getElem!_pos d.toArray (t / k) (by simpa using hi)]
    simp only [List.getElem_toArray, id]
    rw [getElem!_pos _ (t % k) hm]
  · have := hf.at_ (off + t) (by omega) (by omega)
    simp only [World.frozen?, hb]
    simpa using this

theorem touched_putRowK {α : Type} [Inhabited α] {enc : α → List Value} {k : Nat} {w : World} {n bl off : Nat} {d : Array α} {arr : Array Value} {el : TypeId} {fz : Nat × Nat} (hb : w.heap[bl]? = some (.cells arr el fz)) : Touched w (putRowK enc k (Sort.ahead w n) bl off d) bl where
  os := rfl
  tape := rfl
  output := ⟨rfl, Nat.le_add_right _ _⟩
  size := by simp [putRowK]
  other := fun b hne => by simp [putRowK, putRow, mapBlock, Array.getElem?_modify, Ne.symm hne]
  here := ⟨arr, el, fz, putCells id off (flatK enc k d) arr, el, fz, hb, by simp [putRowK, putRow, mapBlock, Array.getElem?_modify, hb, onCells], by simp [putCells]⟩

theorem relL_holdsK {w : World} {S : Nat → Prop} {k bl off : Nat} {ok : List PV → List Value → Prop} [Inhabited (El k ok)] {d : List (El k ok)} (hk : 0 < k) (hH : HoldsK El.v k w bl off d.toArray) (hr : ∀ x ∈ d, RelPs w S x.p x.v) : RelL w S k bl off (d.map (·.p)) :=
  RelL.mk fun j e hj => by
    rw [List.getElem?_map] at hj
    obtain ⟨x, hx, rfl⟩ := Option.map_eq_some_iff.1 hj
    refine ⟨x.hp, RelE.mk fun c y hy => ?_⟩
    obtain ⟨v, hv, hrv⟩ := (hr x (List.mem_of_getElem? hx)).at_ hy
    refine ⟨v, ?_, hrv⟩
    have hc : c < k := by have := lt_of_some hy; rw [x.hp] at this; exact this
    have hjl : j < d.length := lt_of_some hx
    have hb : j * k + c < d.length * k := by
      have := Nat.mul_le_mul_right k (show j + 1 ≤ d.length from hjl)
      rw [Nat.add_mul, Nat.one_mul] at this; omega
    have h := (hH (j * k + c) (by simpa using hb)).1
    rw [get_flatK _ _ _ _ (by simpa using hb), Nat.mul_comm j k, Nat.mul_add_div hk, Nat.div_eq_of_lt hc, Nat.add_zero, Nat.mul_add_mod, Nat.mod_eq_of_lt hc] at h
    rw [getElem!_pos d.toArray j (by simpa using hjl)] at h
    have hxe : d[j] = x := by rw [List.getElem?_eq_getElem hjl] at hx; exact Option.some.inj hx
    have hcv : c < x.v.length := by rw [x.hv]; exact hc
    simp only [List.getElem_toArray, id, hxe] at h
    rw [getElem!_pos _ c hcv] at h
    rw [show off + j * k + c = off + (k * j + c) by rw [Nat.mul_comm]; omega, h]
    rw [List.getElem?_eq_getElem hcv] at hv
    exact hv

/-- What a row is sorted by. -/
def leBy (lt : List PV → List PV → Bool) (x y : List PV) : Bool := !lt y x
theorem sort_unique {lt : List PV → List PV → Bool} (hS : SWO lt) {es es' : List (List PV)} (hT : ∀ x ∈ es, ∀ y ∈ es, lt x y = false → lt y x = false → x = y) (hp : es'.Perm es) (hs : es'.Pairwise fun x y => lt y x = false) : es' = es.mergeSort (leBy lt) := by
  refine List.Perm.eq_of_pairwise (le := fun x y => (leBy lt x y) = true) ?_ ?_ ?_ (hp.trans (List.mergeSort_perm _ _).symm)
  · intro a b ha hb h1 h2
    simp only [leBy, Bool.not_eq_true'] at h1 h2
    exact hT a (hp.mem_iff.1 ha) b (List.mem_mergeSort.1 hb) h2 h1
  · exact hs.imp fun {a b} h => by simpa [leBy] using h
  · refine List.pairwise_mergeSort ?_ ?_ _
    · intro a b c h1 h2
      simp only [leBy, Bool.not_eq_true'] at h1 h2 ⊢
      exact hS.ntrans c b a h2 h1
    · intro a b
      simp only [leBy]
      cases h : lt b a with
      | false => simp
      | true => simp [hS.asymmA h]

theorem perm_list {α : Type} [Inhabited α] {d d' : Array α} (h : PermIn 0 d.size d d') : d'.toList.Perm d.toList := by
  obtain ⟨hsz, _, hperm⟩ := h
  have e1 : d'.extract 0 d.size = d' := by rw [← hsz]; exact Array.extract_size
  rw [e1, Array.extract_size] at hperm
  exact hperm
theorem sorted_list {α : Type} [Inhabited α] {lt : α → α → Bool} {d : Array α} {n : Nat} (hn : n = d.size) (h : SortedIn lt 0 n d) : d.toList.Pairwise fun x y => lt y x = false := by
  subst hn
  rw [List.pairwise_iff_getElem]
  intro i j hi hj hij
  have hi' : i < d.size := by simpa using hi
  have hj' : j < d.size := by simpa using hj
  have := h i j (Nat.zero_le _) hij hj'
  rw [getElem!_pos d j hj', getElem!_pos d i hi'] at this
  simpa using this

theorem world_grown {a b : World} (h1 : b.os = a.os) (h2 : b.tape = a.tape) (h3 : OutW a b) (hs : a.heap.size ≤ b.heap.size) (hf : ∀ i, i < a.heap.size → b.heap[i]? = a.heap[i]?) : ∃ q os', b = grow (a.drewN q) os' := by
  refine ⟨b.drawn - a.drawn, b.heap.extract a.heap.size b.heap.size, ?_⟩
  obtain ⟨h3, h4⟩ := h3
  have e : b.heap = a.heap ++ b.heap.extract a.heap.size b.heap.size := by
    refine Array.ext_getElem? fun i => ?_
    rw [Array.getElem?_append]
    split
    · rename_i hi; exact hf i hi
    · rename_i hi
      rw [Array.getElem?_extract]
      split
      · congr 1; omega
      · rename_i hi2
        exact Array.getElem?_eq_none (by omega)
  have e2 : a.drawn + (b.drawn - a.drawn) = b.drawn := by omega
  cases a; cases b
  simp only [grow, World.drewN] at *
  subst h1 h2 h3
  simp only [World.mk.injEq, true_and, and_true]
  exact ⟨e, e2.symm⟩

theorem relCs_of {X : Ctx} : ∀ {ps : List PV} {vs : List Value}, RelPs X.w X.S ps vs → RelCs X (ps.map CV.p) vs
  | [], [], _ => trivial
  | _ :: _, _ :: _, h => ⟨h.1, relCs_of h.2⟩
  | [], _ :: _, h => h.elim
  | _ :: _, [], h => h.elim

/-- What a closure over two elements answers, wherever the memory has gone on. -/
theorem cmp_run {P : Program} {g : FuncId} {cf : List PV → List PV → Int} {X X1 : Ctx} {a b : List PV} {va vb : List Value} (eg : ∀ args w, (callFunc g args).run P w = .ok (.enter g args) w) (hi : HInv X1) (gd : Gnd P X) (hst : Step X X1)
    (hc : DCalls P g [.agg (a.map CV.p), .agg (b.map CV.p)] [] fun d h => d = .c (.p (.i .i64 (cf a b))) ∧ h = []) (ha : RelPs X.w X.S a va) (hb : RelPs X.w X.S b vb) :
    Calls P g #[.agg va.toArray, .agg vb.toArray] X1.w fun e w' => e = .returned (.int .i64 (cf a b)) ∧ ∃ q os', w' = grow (X1.w.drewN q) os' := by
  have key : ∀ v w', Ret X1.bare (fun d h => d = .c (.p (.i .i64 (cf a b))) ∧ h = []) v w' → v = .int .i64 (cf a b) ∧ ∃ q os', w' = grow (X1.w.drewN q) os' := by
    rintro v w' ⟨d, Z, rfl, _, h3, h4, rfl, _⟩
    exact ⟨h4, world_grown h3.os h3.tape h3.output h3.size fun i hi => h3.frame i hi fun id db g h => by simp [Ctx.bare] at h⟩
  rcases hc X1.bare [.agg va.toArray, .agg vb.toArray] rfl hi.bare (show Gnd P X1 from gd.step hst) ⟨⟨va, rfl, relCs_of (ha.kept hst.kept)⟩, ⟨vb, rfl, relCs_of (hb.kept hst.kept)⟩, trivial⟩ with ⟨_, h2⟩ | ⟨v, w', h1, _⟩
  · exact h2.mono fun e w' ⟨v, he, hv⟩ => by
      obtain ⟨h5, h6⟩ := key v w' hv
      exact ⟨by rw [he, h5], h6⟩
  · have := eg #[.agg va.toArray, .agg vb.toArray] X1.w
    have h1' : (callFunc g #[.agg va.toArray, .agg vb.toArray]).run P X1.w = .ok (.value v) w' := h1
    rw [this] at h1'; cases h1'

/-- The sort's contract over data, out of the shelf's one. -/
theorem dcalls_sortf {P : Program} {f g : FuncId} (k : Nat) (hk0 : 0 < k) (cf : List PV → List PV → Int) (hSW : SWO (ltOf cf))
    (hen : ∀ (vals : List Value) (w : World), (callFunc f vals.toArray).run P w = .ok (.enter f vals.toArray) w)
    (eg : ∀ args w, (callFunc g args).run P w = .ok (.enter g args) w)
    (hS : ∀ {α : Type} [Inhabited α] (enc : α → List Value) (_ : ∀ x, (enc x).length = k) (_ : ∀ x, ∀ v ∈ enc x, v.oneCell' = true) (c : α → α → Int) (_ : SWO (ltOf c)) (blk off cap : Nat) (d : Array α) (w : World),
      CmpLays P g #[] enc k c blk off d.size w → HoldsK enc k w blk off d → blk < w.heap.size → d.size < 4611686018427387904 →
      Calls P f #[.slice (some ⟨blk, off, none⟩) d.size cap, .func (.func g) #[] #[]] w fun e w' => e = .returned (.tuple #[]) ∧ ∃ (d' : Array α) (n : Nat) (os : Array Obj), PermIn 0 d.size d d' ∧ SortedIn (ltOf c) 0 d.size d' ∧ w' = sortWorldK enc k w blk off n d' os)
    (hN : ∀ (p : Option Addr) (cap : Nat) (fv : Value) (w : World), Calls P f #[.slice p 0 cap, fv] w fun e w' => e = .returned (.tuple #[]) ∧ w' = w)
    {h : DHeap} {i0 : Nat} {es : List (List PV)} (hcl : ∀ x ∈ es, ∀ y ∈ es, DCalls P g [.agg (x.map CV.p), .agg (y.map CV.p)] [] fun d h => d = .c (.p (.i .i64 (cf x y))) ∧ h = [])
    (hT : ∀ x ∈ es, ∀ y ∈ es, ltOf cf x y = false → ltOf cf y x = false → x = y)
    (hid : h[i0]? = some (.arr k es false)) (hsz : es.length < 4611686018427387904) :
    DCalls P f [.c (.own i0 0 es.length), .c (.clo g [])] h fun d h' => d = .tup [] ∧ h' = h.set i0 (.arr k (es.mergeSort (leBy (ltOf cf))) false) := by
  intro X vals hh hi gd hr
  subst hh
  obtain ⟨v, rfl, hv⟩ : ∃ v, vals = [v, .func (.func g) #[] #[]] ∧ RelD X (.c (.own i0 0 es.length)) v := by
    cases vals with
    | nil => exact hr.elim
    | cons v vs => cases vs with
      | nil => exact hr.2.elim
      | cons u us => cases us with
        | cons _ _ => exact hr.2.2.elim
        | nil =>
          obtain ⟨cs, h2, h3⟩ := hr.2.1
          cases cs with
          | nil => exact ⟨v, by rw [h2], hr.1⟩
          | cons _ _ => exact h3.elim
  refine .inl ⟨hen _ _, ?_⟩
  obtain ⟨h1, h2, h3⟩ := hv
  obtain ⟨h4, h5⟩ := h3 _ _ _ hid
  have hb := hi.blk i0 _ hid
  have e0 : es = [] → X.h.set i0 (.arr k (es.mergeSort (leBy (ltOf cf))) false) = X.h := by
    rintro rfl
    rw [List.mergeSort_nil]
    exact (List.getElem?_eq_some_iff.1 hid).elim fun hlt he => by rw [← he]; exact List.set_getElem_self hlt
  have fin0 : es = [] → ∀ (p : Option Addr) (cap : Nat), v = .slice p 0 cap → Calls P f [v, .func (.func g) #[] #[]].toArray X.w fun e w' => ∃ v, e = .returned v ∧ Ret X (fun d h' => d = .tup [] ∧ h' = X.h.set i0 (.arr k (es.mergeSort (leBy (ltOf cf))) false)) v w' := by
    rintro hs p cap rfl
    refine (hN p cap _ X.w).mono ?_
    rintro e w' ⟨rfl, rfl⟩
    exact ⟨_, rfl, .tup [], X, rfl, hi, Step.refl hi, ⟨[], rfl, True.intro⟩, rfl, (e0 hs).symm⟩
  cases hg : X.G i0 with
  | none =>
    rw [hg] at h5
    simp only at h5
    have hs : es = [] := by
      rcases hb with hb | ⟨g, _, _, _, hb, _⟩
      · exact hb.2
      · rw [hg] at hb; cases hb
    exact fin0 hs _ _ (by rw [h5])
  | some g' =>
    rw [hg] at h5
    simp only at h5
    obtain ⟨cap, o, arr, el, fz, k1, k2, k3, k4, k5, k6⟩ := h5
    by_cases hz : es.length = 0
    · rw [hz] at k2
      exact fin0 (List.length_eq_zero_iff.1 hz) _ _ k2
    · have ho : o = g'.2 := by
        rcases k3 with k3 | k3
        · omega
        · simpa using k3
      subst ho
      rcases hb with hb | ⟨g'', arr', el', fz', b1, b2, b3, b4, b5⟩
      · rw [hg] at hb; cases hb.1
      rw [hg] at b1; cases b1
      rw [k1] at b2; cases b2
      obtain ⟨d, d1, d2, d3⟩ := els_of (ok := fun p v => p ∈ es ∧ RelPs X.w X.S p v) b5 fun e he v hr => ⟨he, hr⟩
      have hdl : d.length = es.length := by have := congrArg List.length d1; simpa using this
      have hd0 : d ≠ [] := by rintro rfl; simp at hdl; omega
      haveI : Inhabited (El k fun p v => p ∈ es ∧ RelPs X.w X.S p v) := ⟨d.head hd0⟩
      have hH := holdsK_els k1 b4.1 (by rw [hdl]; exact b3) d3
      have hlt : g'.1 < X.w.heap.size := by
        rcases Nat.lt_or_ge g'.1 X.w.heap.size with hb | hb
        · exact hb
        · rw [Array.getElem?_eq_none hb] at k1; cases k1
      subst k2
      -- a world of the sort's is a step of the memory's
      have hstep : ∀ (n : Nat) (os : Array Obj) (d' : List (El k fun p v => p ∈ es ∧ RelPs X.w X.S p v)), d'.length = d.length →
          ∃ X1 : Ctx, X1.w = sortWorldK El.v k X.w g'.1 g'.2 n d'.toArray os ∧ HInv X1 ∧ Step X X1 ∧ X1.h = X.h.set i0 (.arr k (d'.map (·.p)) false) := by
        intro n os d' hsl
        have ht := touched_putRowK (enc := El.v) (k := k) (n := n) (off := g'.2) (d := d'.toArray) k1
        have hsb : SameB (.arr k es false) (.arr k (d'.map (·.p)) false) := ⟨rfl, by rw [List.length_map]; omega⟩
        have hs1 := Step.put hi hid rfl rfl hg ht hsb rfl
        have hbb : RelB (X.put (putRowK El.v k (Sort.ahead X.w n) g'.1 g'.2 d'.toArray) i0 (.arr k (d'.map (·.p)) false)) i0 (.arr k (d'.map (·.p)) false) := by
          refine .inr ⟨g', putCells id g'.2 (flatK El.v k d'.toArray) arr, el, fz, hg, by simp [Ctx.put, putRowK, putRow, mapBlock, Array.getElem?_modify, k1, onCells], ?_, ?_, ?_⟩
          · rw [List.length_map, hsl, hdl]; simpa [putCells] using b3
          · simpa [putCells] using b4
          · refine relL_holdsK hk0 ?_ fun x hx => ?_
            · have := holdsK_putRowK El.v k (Sort.ahead X.w n) g'.1 g'.2 d.toArray d'.toArray (holdsK_ahead El.v k X.w n g'.1 g'.2 d.toArray hH) (by simpa using hsl)
              exact this
            · exact x.hk.2.kept hs1.kept
        have hi1 := HInv.put hi hid rfl rfl hg ht hsb rfl hbb
        exact ⟨_, rfl, HInv.grew hi1 os, hs1.trans hi1 (Step.grew hi1 os), rfl⟩
      have hcmp : CmpLays P g #[] (El.v : El k (fun p v => p ∈ es ∧ RelPs X.w X.S p v) → List Value) k (fun x y => cf x.p y.p) g'.1 g'.2 d.toArray.size X.w := by
        intro m os dk hdk x y
        obtain ⟨X1, e1, i1, s1, _⟩ := hstep m os dk.toList (by simpa using hdk)
        have := cmp_run eg i1 gd s1 (hcl _ x.hk.1 _ y.hk.1) x.hk.2 y.hk.2
        rw [e1] at this
        simpa using this
      have hcl2 := hS El.v (fun x => x.hv) (fun x => x.h1) (fun x y => cf x.p y.p) ⟨fun x => hSW.irrefl _, fun x y z => hSW.trans _ _ _, fun x y z => hSW.ntrans _ _ _⟩ g'.1 g'.2 cap d.toArray X.w hcmp hH hlt (by simp; omega)
      have hsz2 : d.toArray.size = es.length := by simpa using hdl
      rw [hsz2] at hcl2
      refine hcl2.mono ?_
      rintro e w' ⟨rfl, d', n, os, p1, p2, rfl⟩
      rw [← hsz2] at p1
      have p1' : d'.toList.Perm d := by simpa using perm_list p1
      have hs' : es.length = d'.size := by rw [← hdl, ← p1'.length_eq]; simp
      have p2' := sorted_list hs' p2
      have hst : d'.toList.map (·.p) = es.mergeSort (leBy (ltOf cf)) := by
        refine sort_unique hSW hT (by have h7 := p1'.map (·.p); rw [d1] at h7; exact h7) ?_
        exact List.Pairwise.map _ (fun _ _ h => h) p2'
      rw [← hst]
      obtain ⟨X1, e1, i1, s1, hh1⟩ := hstep n os d'.toList p1'.length_eq
      exact ⟨_, rfl, .tup [], X1, by simpa using e1, i1, s1, ⟨[], rfl, True.intro⟩, rfl, hh1⟩

end Go.Dm
