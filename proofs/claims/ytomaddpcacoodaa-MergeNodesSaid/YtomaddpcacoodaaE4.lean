/-
  The engine, part 4: rows of the call's own: one element written, a row that grows in place or anew, a row made immutable, a nil slice taken as an empty row, numbers forgotten. No condition: small laws on the engine's own words.
-/
import Derived.Test.YtomaddpcacoodaaE3
set_option linter.unusedSimpArgs false
set_option linter.unusedVariables false
namespace Go.Dm
open Go

def RelPs (w : World) (S : Nat → Prop) : List PV → List Value → Prop
  | [], [] => True
  | c :: cs, v :: vs => RelP w S c v ∧ RelPs w S cs vs
  | _, _ => False

theorem RelPs.length {w : World} {S : Nat → Prop} : ∀ {xs : List PV} {vs : List Value}, RelPs w S xs vs → xs.length = vs.length
  | [], [], _ => rfl
  | _ :: _, _ :: _, h => by simp [RelPs.length h.2]
  | [], _ :: _, h => h.elim
  | _ :: _, [], h => h.elim
theorem RelPs.at_ {w : World} {S : Nat → Prop} : ∀ {xs : List PV} {vs : List Value} {j : Nat} {c : PV}, RelPs w S xs vs → xs[j]? = some c → ∃ v, vs[j]? = some v ∧ RelP w S c v
  | [], [], _, _, _, hj => by simp at hj
  | c :: xs, v :: vs, 0, d, h, hj => by
    simp only [List.getElem?_cons_zero, Option.some.injEq] at hj
    subst hj
    exact ⟨v, rfl, h.1⟩
  | c :: xs, v :: vs, j + 1, d, h, hj => by
    simp only [List.getElem?_cons_succ] at hj ⊢
    exact RelPs.at_ h.2 hj
  | [], _ :: _, _, _, h, _ => h.elim
  | _ :: _, [], _, _, h, _ => h.elim
theorem RelPs.mk {w : World} {S : Nat → Prop} : ∀ {xs : List PV} {vs : List Value}, xs.length = vs.length → (∀ (j : Nat) (c : PV) (v : Value), xs[j]? = some c → vs[j]? = some v → RelP w S c v) → RelPs w S xs vs
  | [], [], _, _ => True.intro
  | c :: xs, v :: vs, hl, h => ⟨h 0 c v rfl rfl, RelPs.mk (by simpa using hl) fun j d u hj hu => h (j + 1) d u (by simpa using hj) (by simpa using hu)⟩
  | [], _ :: _, hl, _ => by simp at hl
  | _ :: _, [], hl, _ => by simp at hl
theorem RelPs.kept {w w' : World} {S S' : Nat → Prop} (hk : Kept w w' S S') : ∀ {xs : List PV} {vs : List Value}, RelPs w S xs vs → RelPs w' S' xs vs
  | [], [], _ => True.intro
  | _ :: _, _ :: _, h => ⟨h.1.kept hk, RelPs.kept hk h.2⟩
  | [], _ :: _, h => h.elim
  | _ :: _, [], h => h.elim
theorem RelPs.append {w : World} {S : Nat → Prop} : ∀ {xs : List PV} {vs : List Value} {ys : List PV} {us : List Value}, RelPs w S xs vs → RelPs w S ys us → RelPs w S (xs ++ ys) (vs ++ us)
  | [], [], _, _, _, k => k
  | _ :: _, _ :: _, _, _, h, k => ⟨h.1, RelPs.append h.2 k⟩
  | [], _ :: _, _, _, h, _ => h.elim
  | _ :: _, [], _, _, h, _ => h.elim
theorem RelPs.oneCell {w : World} {S : Nat → Prop} : ∀ {xs : List PV} {vs : List Value}, RelPs w S xs vs → ∀ v ∈ vs, v.oneCell' = true
  | [], [], _, _, h => by simp at h
  | _ :: _, _ :: _, h, v, hv => by
    rcases List.mem_cons.1 hv with rfl | hv
    · exact oneCell_of_relP h.1
    · exact RelPs.oneCell h.2 v hv
  | [], _ :: _, h, _, _ => h.elim
  | _ :: _, [], h, _, _ => h.elim

theorem RelE.vals {w : World} {S : Nat → Prop} {bl : Nat} : ∀ {cs : List PV} {off : Nat}, RelE w S bl off cs → ∃ vs : List Value, RelPs w S cs vs ∧ ∀ (j : Nat) (v : Value), vs[j]? = some v → w.cell? ⟨bl, off + j, none⟩ = some v
  | [], _, _ => ⟨[], True.intro, by simp⟩
  | c :: cs, off, h => by
    simp only [RelE] at h
    obtain ⟨⟨v, hv, hr⟩, ht⟩ := h
    obtain ⟨vs, h1, h2⟩ := RelE.vals ht
    refine ⟨v :: vs, ⟨hr, h1⟩, fun j u hj => ?_⟩
    cases j with
    | zero => simp only [List.getElem?_cons_zero, Option.some.injEq] at hj; subst hj; simpa using hv
    | succ j => simp only [List.getElem?_cons_succ] at hj; have := h2 j u hj; rwa [show off + (j + 1) = off + 1 + j by omega]

theorem RelL.vals {w : World} {S : Nat → Prop} {k bl : Nat} : ∀ {es : List (List PV)} {off : Nat}, RelL w S k bl off es →
    ∃ vs : List Value, RelPs w S es.flatten vs ∧ vs.length = es.length * k ∧ ∀ (j : Nat) (v : Value), vs[j]? = some v → w.cell? ⟨bl, off + j, none⟩ = some v
  | [], _, _ => ⟨[], True.intro, by simp, by simp⟩
  | e :: es, off, h => by
    simp only [RelL] at h
    obtain ⟨⟨hl, he⟩, ht⟩ := h
    obtain ⟨vs, h1, h2⟩ := he.vals
    obtain ⟨us, h3, h3', h4⟩ := RelL.vals ht
    have hvl := h1.length
    refine ⟨vs ++ us, by simpa using h1.append h3, by simp [h3', ← hvl, hl, Nat.add_mul]; omega, fun j v hj => ?_⟩
    rcases Nat.lt_or_ge j vs.length with hlt | hge
    · rw [List.getElem?_append_left hlt] at hj; exact h2 j v hj
    · rw [List.getElem?_append_right hge] at hj
      have := h4 _ v hj
      rwa [show off + k + (j - vs.length) = off + j by omega] at this

theorem flatten_at {α : Type} {k : Nat} : ∀ {es : List (List α)} {j c : Nat} {e : List α}, (∀ e ∈ es, e.length = k) → es[j]? = some e → c < k → es.flatten[j * k + c]? = e[c]?
  | [], _, _, _, _, h, _ => by simp at h
  | x :: es, 0, c, e, hl, h, hc => by
    simp only [List.getElem?_cons_zero, Option.some.injEq] at h
    subst h
    have := hl x (by simp)
    simp only [List.flatten_cons, Nat.zero_mul, Nat.zero_add]
    rw [List.getElem?_append_left (by omega)]
  | x :: es, j + 1, c, e, hl, h, hc => by
    simp only [List.getElem?_cons_succ] at h
    have hx := hl x (by simp)
    simp only [List.flatten_cons]
    rw [List.getElem?_append_right (by rw [hx, Nat.add_mul, Nat.one_mul]; omega), show (j + 1) * k + c - x.length = j * k + c by rw [hx, Nat.add_mul, Nat.one_mul]; omega]
    exact flatten_at (fun e he => hl e (by simp [he])) h hc
theorem flatten_length {α : Type} {k : Nat} : ∀ {es : List (List α)}, (∀ e ∈ es, e.length = k) → es.flatten.length = es.length * k
  | [], _ => by simp
  | x :: es, h => by
    have hx := h x (by simp)
    have ht := flatten_length (k := k) (es := es) fun e he => h e (by simp [he])
    simp only [List.flatten_cons, List.length_append, List.length_cons]
    rw [hx, ht, Nat.add_mul, Nat.one_mul, Nat.add_comm]

/-- A row from its values: the cells of a block that hold them. -/
theorem RelL.of_vals {w : World} {S : Nat → Prop} {k bl off : Nat} {es : List (List PV)} {vs : List Value} (hl : ∀ e ∈ es, e.length = k) (hr : RelPs w S es.flatten vs)
    (hc : ∀ (j : Nat) (v : Value), vs[j]? = some v → w.cell? ⟨bl, off + j, none⟩ = some v) : RelL w S k bl off es :=
  RelL.mk fun j e hj => by
    have hek := hl e (List.mem_of_getElem? hj)
    refine ⟨hek, RelE.mk fun c x hx => ?_⟩
    have hck : c < k := by have := lt_of_some hx; omega
    have := flatten_at hl hj hck
    rw [hx] at this
    obtain ⟨v, hv, hrv⟩ := hr.at_ this
    exact ⟨v, by rw [Nat.add_assoc]; exact hc _ v hv, hrv⟩

theorem mul_lt_block {i i' k : Nat} (h : i < i') : i * k + k ≤ i' * k := by
  have := Nat.mul_le_mul_right k (show i + 1 ≤ i' from h)
  rwa [Nat.add_mul, Nat.one_mul] at this

/-- A store into an element of a row of the call's own. -/
theorem arr_store {X : Ctx} (hi : HInv X) {w' : World} {id : Nat} {g : Nat × Nat} {i j k : Nat} {vs : List Value} {es : List (List PV)} {e ys : List PV} (h0 : X.h[id]? = some (.arr k es false)) (hg : X.G id = some g)
    (he : es[i]? = some e) (hle : j + ys.length ≤ e.length) (hr : RelPs X.w X.S ys vs) (hw : Wrote X.w w' g.1 (g.2 + i * k + j) vs) :
    Step X (X.put w' id (.arr k (es.set i (splice e j ys)) false)) ∧ HInv (X.put w' id (.arr k (es.set i (splice e j ys)) false)) := by
  have hlen := hr.length
  have hsb : SameB (.arr k es false) (.arr k (es.set i (splice e j ys)) false) := ⟨rfl, by simp⟩
  have hs : Step X (X.put w' id (.arr k (es.set i (splice e j ys)) false)) := Step.put hi h0 rfl rfl hg hw.touched hsb rfl
  refine ⟨hs, HInv.put hi h0 rfl rfl hg hw.touched hsb rfl ?_⟩
  have hb := hi.blk id _ h0
  simp only [RelB] at hb ⊢
  rcases hb with hb | ⟨g', arr, el, fz, h1, h2, h3, h4, h5⟩
  · rw [hg] at hb; cases hb.1
  rw [hg] at h1
  cases h1
  obtain ⟨arr0, el0, fz0, arr', ha, hb', hsz, hj⟩ := hw.here
  rw [h2] at ha
  cases ha
  refine .inr ⟨g, arr', el, fz, hg, hb', by simpa [hsz] using h3, by rw [hsz]; exact h4, RelL.mk fun i' e' hc => ?_⟩
  have hek := (h5.at_ he).1
  rw [List.getElem?_set] at hc
  split at hc
  · rename_i hii
    subst hii
    split at hc
    · cases hc
      refine ⟨by rw [splice_length _ _ _ hle]; exact hek, RelE.mk fun c x hx => ?_⟩
      rw [splice_at _ _ _ hle] at hx
      split at hx
      · obtain ⟨v, hv, hrv⟩ := hr.at_ hx
        refine ⟨v, ?_, hrv.kept hs.kept⟩
        show w'.cell? _ = _
        rw [hw.cell_in (by omega) (by omega), ← hv]
        congr 1; omega
      · obtain ⟨v, hv, hrv⟩ := (h5.at_ he).2.at_ hx
        refine ⟨v, ?_, hrv.kept hs.kept⟩
        show w'.cell? _ = _
        rw [hw.cell_out (by omega)]
        exact hv
    · cases hc
  · rename_i hne
    obtain ⟨h6, h7⟩ := h5.at_ hc
    refine ⟨h6, RelE.mk fun c x hx => ?_⟩
    obtain ⟨v, hv, hrv⟩ := h7.at_ hx
    refine ⟨v, ?_, hrv.kept hs.kept⟩
    show w'.cell? _ = _
    have hck := lt_of_some hx
    rw [hw.cell_out ?_]
    · exact hv
    · right
      rcases Nat.lt_or_gt_of_ne hne with hlt | hgt
      · have := mul_lt_block (k := k) hlt; omega
      · have := mul_lt_block (k := k) hgt; omega

/-- A row that grows in its own block. -/
theorem arr_extend {X : Ctx} (hi : HInv X) {w' : World} {id : Nat} {g : Nat × Nat} {k : Nat} {vs : List Value} {es news : List (List PV)} (h0 : X.h[id]? = some (.arr k es false)) (hg : X.G id = some g)
    (hl : ∀ e ∈ news, e.length = k) (hr : RelPs X.w X.S news.flatten vs) (hw : Wrote X.w w' g.1 (g.2 + es.length * k) vs)
    (hroom : ∀ arr el fz, X.w.heap[g.1]? = some (.cells arr el fz) → g.2 + (es.length + news.length) * k ≤ arr.size) :
    Step X (X.put w' id (.arr k (es ++ news) false)) ∧ HInv (X.put w' id (.arr k (es ++ news) false)) := by
  have hlen := hr.length
  have hfl := flatten_length hl
  have hsb : SameB (.arr k es false) (.arr k (es ++ news) false) := ⟨rfl, by simp⟩
  have hs : Step X (X.put w' id (.arr k (es ++ news) false)) := Step.put hi h0 rfl rfl hg hw.touched hsb rfl
  refine ⟨hs, HInv.put hi h0 rfl rfl hg hw.touched hsb rfl ?_⟩
  have hb := hi.blk id _ h0
  simp only [RelB] at hb ⊢
  rcases hb with hb | ⟨g', arr, el, fz, h1, h2, h3, h4, h5⟩
  · rw [hg] at hb; cases hb.1
  rw [hg] at h1
  cases h1
  obtain ⟨arr0, el0, fz0, arr', ha, hb', hsz, hj⟩ := hw.here
  rw [h2] at ha
  cases ha
  refine .inr ⟨g, arr', el, fz, hg, hb', by simpa [hsz] using hroom _ _ _ h2, by rw [hsz]; exact h4, RelL.mk fun i' e' hc => ?_⟩
  rcases Nat.lt_or_ge i' es.length with hlt | hge
  · rw [List.getElem?_append_left hlt] at hc
    obtain ⟨h6, h7⟩ := h5.at_ hc
    refine ⟨h6, RelE.mk fun c x hx => ?_⟩
    obtain ⟨v, hv, hrv⟩ := h7.at_ hx
    refine ⟨v, ?_, hrv.kept hs.kept⟩
    show w'.cell? _ = _
    have hck := lt_of_some hx
    have := mul_lt_block (k := k) hlt
    rw [hw.cell_out (by omega)]
    exact hv
  · rw [List.getElem?_append_right hge] at hc
    have hek := hl e' (List.mem_of_getElem? hc)
    refine ⟨hek, RelE.mk fun c x hx => ?_⟩
    have hck : c < k := by have := lt_of_some hx; omega
    have hat := flatten_at hl hc hck
    rw [hx] at hat
    obtain ⟨v, hv, hrv⟩ := hr.at_ hat
    refine ⟨v, ?_, hrv.kept hs.kept⟩
    show w'.cell? _ = _
    have hvl := lt_of_some hv
    have hmul : i' * k = es.length * k + (i' - es.length) * k := by rw [← Nat.add_mul]; congr 1; omega
    rw [hw.cell_in (by omega) (by omega), ← hv]
    congr 1; omega

/-- The same row under a new number, from an element on. -/
def Ctx.rebase (X : Ctx) (id : Nat) (g : Nat × Nat) (k : Nat) (es : List (List PV)) : Ctx := ⟨X.w, X.S, fun i => if i = X.h.length then some g else X.G i, X.h.set id .dead ++ [.arr k es false]⟩

theorem rebase_some {X : Ctx} {id i : Nat} {g : Nat × Nat} {k : Nat} {es : List (List PV)} {db : DB} (h : (X.rebase id g k es).h[i]? = some db) (hl : db.live = true) :
    (i ≠ id ∧ i < X.h.length ∧ X.h[i]? = some db) ∨ (i = X.h.length ∧ db = .arr k es false) := by
  rcases getElem?_push_inv h with ⟨h1, h2⟩ | ⟨h1, h2⟩
  · obtain ⟨h3, h4⟩ := kill_some h2 hl
    exact .inl ⟨h3, by simpa using h1, h4⟩
  · exact .inr ⟨by simpa using h1, h2⟩

theorem rebase {X : Ctx} (hi : HInv X) {id : Nat} {g : Nat × Nat} {k off : Nat} {es : List (List PV)} (h0 : X.h[id]? = some (.arr k es false)) (hg : X.G id = some g) (ho : off ≤ es.length) :
    Step X (X.rebase id (g.1, g.2 + off * k) k (es.drop off)) ∧ HInv (X.rebase id (g.1, g.2 + off * k) k (es.drop off)) := by
  have hid := lt_of_some h0
  have hs : Step X (X.rebase id (g.1, g.2 + off * k) k (es.drop off)) := by
    refine ⟨Nat.le_refl _, rfl, rfl, rfl, Kept.refl _ _, by simp [Ctx.rebase], fun i db hlt h hl => ?_, fun _ _ _ => rfl, fun i db g' h hl hf hg' => ?_, fun _ h => .inl h⟩
    · rcases rebase_some h hl with ⟨h1, h2, h3⟩ | ⟨h1, _⟩
      · exact ⟨db, h3, SameB.refl hl, by simp only [Ctx.rebase]; rw [if_neg (by omega)], (hi.blk i db h3).same hl⟩
      · omega
    · rcases rebase_some h hl with ⟨h1, h2, h3⟩ | ⟨h1, h2⟩
      · simp only [Ctx.rebase] at hg'
        rw [if_neg (by omega)] at hg'
        exact .inr ⟨i, db, g', h3, hl, hf, hg', rfl⟩
      · simp only [Ctx.rebase] at hg'
        rw [if_pos h1] at hg'
        cases hg'
        exact .inr ⟨id, _, g, h0, rfl, rfl, hg, rfl⟩
  refine ⟨hs, hi.slt, fun i db h => ?_, fun i db g' h hl hg' => ?_, fun i d i' d' g1 g1' h hl hfx h' hl' hg1 hg1' he => ?_⟩
  · by_cases hl : db.live = true
    · rcases rebase_some h hl with ⟨h1, h2, h3⟩ | ⟨h1, h2⟩
      · exact (hi.blk i db h3).move hs (by simp only [Ctx.rebase]; rw [if_neg (by omega)]) fun _ _ => rfl
      · subst h1; subst h2
        have hb := hi.blk id _ h0
        simp only [RelB] at hb ⊢
        rcases hb with hb | ⟨g', arr, el, fz, h1, h2, h3, h4, h5⟩
        · rw [hg] at hb; cases hb.1
        rw [hg] at h1
        cases h1
        refine .inr ⟨(g.1, g.2 + off * k), arr, el, fz, by simp [Ctx.rebase], h2, ?_, h4, h5.drop off⟩
        have : off * k + (es.length - off) * k = es.length * k := by rw [← Nat.add_mul]; congr 1; omega
        simp only [List.length_drop]; omega
    · cases db <;> simp_all [DB.live, RelB]
  · rcases rebase_some h hl with ⟨h1, h2, h3⟩ | ⟨h1, h2⟩
    · simp only [Ctx.rebase] at hg' ⊢
      rw [if_neg (by omega)] at hg'
      exact hi.own i db g' h3 hl hg'
    · simp only [Ctx.rebase] at hg' ⊢
      rw [if_pos h1] at hg'
      cases hg'; subst h2
      have := hi.own id _ g h0 rfl hg
      exact ⟨fun _ => this.1 rfl, fun h => by cases h⟩
  · simp only [Ctx.rebase] at hg1 hg1'
    rcases rebase_some h hl with ⟨h1, h2, h3⟩ | ⟨h1, h2⟩ <;> rcases rebase_some h' hl' with ⟨h1', h2', h3'⟩ | ⟨h1', h2'⟩
    · rw [if_neg (by omega)] at hg1 hg1'
      exact hi.inj i d i' d' g1 g1' h3 hl hfx h3' hl' hg1 hg1' he
    · rw [if_neg (by omega)] at hg1
      rw [if_pos h1'] at hg1'
      cases hg1'
      exact absurd (hi.inj i d id _ g1 g h3 hl hfx h0 rfl hg1 hg he) h1
    · rw [if_neg (by omega)] at hg1'
      rw [if_pos h1] at hg1
      cases hg1
      exact absurd (hi.inj id _ i' d' g g1' h0 rfl rfl h3' hl' hg hg1' he).symm h1'
    · omega

/-- A nil slice taken as an empty row. -/
def Ctx.virt (X : Ctx) (k : Nat) : Ctx := ⟨X.w, X.S, fun i => if i = X.h.length then none else X.G i, X.h ++ [.arr k [] false]⟩

theorem virt {X : Ctx} (hi : HInv X) (k : Nat) : Step X (X.virt k) ∧ HInv (X.virt k) := by
  have hs : Step X (X.virt k) := by
    refine ⟨Nat.le_refl _, rfl, rfl, rfl, Kept.refl _ _, by simp [Ctx.virt], fun i db hlt h hl => ?_, fun _ _ _ => rfl, fun i db g' h hl hf hg' => ?_, fun _ h => .inl h⟩
    · simp only [Ctx.virt] at h ⊢
      rw [getElem?_push_lt hlt] at h
      exact ⟨db, h, SameB.refl hl, by rw [if_neg (by omega)], (hi.blk i db h).same hl⟩
    · simp only [Ctx.virt] at h hg'
      rcases getElem?_push_inv h with ⟨h1, h2⟩ | ⟨h1, h2⟩
      · rw [if_neg (by omega)] at hg'
        exact .inr ⟨i, db, g', h2, hl, hf, hg', rfl⟩
      · rw [if_pos h1] at hg'; cases hg'
  refine ⟨hs, hi.slt, fun i db h => ?_, fun i db g' h hl hg' => ?_, fun i d i' d' g1 g1' h hl hfx h' hl' hg1 hg1' he => ?_⟩
  · rcases getElem?_push_inv h with ⟨h1, h2⟩ | ⟨h1, h2⟩
    · exact (hi.blk i db h2).move hs (by simp only [Ctx.virt]; rw [if_neg (by omega)]) fun _ _ => rfl
    · subst h1; subst h2
      simp only [RelB]
      exact .inl ⟨by simp [Ctx.virt], trivial⟩
  · simp only [Ctx.virt] at h hg'
    rcases getElem?_push_inv h with ⟨h1, h2⟩ | ⟨h1, h2⟩
    · rw [if_neg (by omega)] at hg'
      exact hi.own i db g' h2 hl hg'
    · rw [if_pos h1] at hg'; cases hg'
  · simp only [Ctx.virt] at h h' hg1 hg1'
    rcases getElem?_push_inv h with ⟨h1, h2⟩ | ⟨h1, h2⟩ <;> rcases getElem?_push_inv h' with ⟨h1', h2'⟩ | ⟨h1', h2'⟩
    · rw [if_neg (by omega)] at hg1 hg1'
      exact hi.inj i d i' d' g1 g1' h2 hl hfx h2' hl' hg1 hg1' he
    · rw [if_pos h1'] at hg1'; cases hg1'
    · rw [if_pos h1] at hg1; cases hg1
    · omega

theorem virt_nil {X : Ctx} {k : Nat} {v : Value} (h : RelC X (.p .nil) v) : RelC (X.virt k) (.own X.h.length 0 0) v := by
  simp only [RelC, RelP] at h ⊢
  subst h
  refine ⟨by simp [Ctx.virt], rfl, fun k' es ro he => ?_⟩
  simp only [Ctx.virt, List.getElem?_concat_length, Option.some.injEq, DB.arr.injEq] at he
  obtain ⟨rfl, rfl, rfl⟩ := he
  simp [Ctx.virt]

end Go.Dm
