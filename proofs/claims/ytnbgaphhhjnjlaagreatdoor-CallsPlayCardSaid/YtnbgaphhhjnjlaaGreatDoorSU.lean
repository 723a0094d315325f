import Derived.Test.YtnbgaphhhjnjlaaGreatDoorSE
import Derived.Test.YtnbgaphhhjnjlaaGreatDoorBQ

section
/-
  Changes done to a tree, as the program does it: plain words. No condition.
-/

set_option linter.unusedSimpArgs false
set_option linter.unusedVariables false
namespace Go.Dm
open Go Go.Sort Go.Proofs
set_option maxRecDepth 100000

/-! Items in order. -/
def leI (x y : It) : Bool := !bltL y.p x.p
def sortI (l : List It) : List It := l.mergeSort leI
def pathV : List PV → List UInt8
  | .s p :: _ => p
  | _ => []
def ltVI (x y : List PV) : Bool := bltL (pathV x) (pathV y)
theorem swo_ltVI : SWO ltVI where
  irrefl _ := blt_irrefl _
  trans _ _ _ := blt_trans
  ntrans x y z h k := by
    unfold ltVI at *
    cases e : bltL (pathV x) (pathV z) with
    | false => rfl
    | true =>
      cases f : bltL (pathV y) (pathV x) with
      | true => have := blt_trans f e; rw [k] at this; cases this
      | false => have := blt_tri h f; rw [this, k] at e; cases e
def cfI (x y : List PV) : Int := cmpS (pathV x) (pathV y)
theorem lt_cfI : ltOf cfI = ltVI := by
  funext x y
  exact cmpS_lt
theorem swo_cfI : SWO (ltOf cfI) := by rw [lt_cfI]; exact swo_ltVI
theorem cfI_total {l : List It} (hu : ∀ x ∈ l, ∀ y ∈ l, x.p = y.p → x = y) : ∀ x ∈ encT l, ∀ y ∈ encT l, ltOf cfI x y = false → ltOf cfI y x = false → x = y := by
  rw [lt_cfI]
  intro x hx y hy h k
  obtain ⟨a, ha, rfl⟩ := List.mem_map.1 hx
  obtain ⟨b, hb, rfl⟩ := List.mem_map.1 hy
  rw [hu a ha b hb (blt_tri h k)]
theorem encT_sort (l : List It) : (encT l).mergeSort (leBy (ltOf cfI)) = encT (sortI l) := by
  rw [lt_cfI]
  unfold encT sortI
  exact (List.map_mergeSort (r := leI) (s := leBy ltVI) (f := It.cs) (l := l) fun a _ b _ => rfl).symm
theorem sortI_perm (l : List It) : (sortI l).Perm l := List.mergeSort_perm _ _
theorem sortI_len (l : List It) : (sortI l).length = l.length := List.length_mergeSort ..
theorem sortI_sorted (l : List It) : (sortI l).Pairwise fun x y => bltL y.p x.p = false := by
  have h : (sortI l).Pairwise fun x y => leI x y = true := by
    refine List.pairwise_mergeSort (le := leI) ?_ ?_ _
    · intro a b c h1 h2
      simp only [leI, Bool.not_eq_true'] at h1 h2 ⊢
      cases e : bltL c.p a.p with
      | false => rfl
      | true =>
        cases f : bltL a.p b.p with
        | true => have := blt_trans e f; rw [h2] at this; cases this
        | false => have := blt_tri f h1; rw [← this, e] at h2; cases h2
    · intro a b
      simp only [leI]
      cases h : bltL b.p a.p with
      | false => simp
      | true => simp [blt_asymm h]
  exact h.imp fun {a b} h => by simpa [leI] using h
/-- Items of different paths, in order: a tree's order. -/
theorem sortI_srt {l : List It} (hn : (l.map It.p).Nodup) : Srt (sortI l) := by
  have hn2 : ((sortI l).map It.p).Nodup := (((sortI_perm l).map It.p).nodup_iff).2 hn
  have h1 := sortI_sorted l
  have h2 : (sortI l).Pairwise fun x y => x.p ≠ y.p := List.pairwise_map.1 hn2
  exact (h1.and h2).imp fun {a b} ⟨h, k⟩ => by
    cases e : bltL a.p b.p with
    | true => rfl
    | false => exact absurd (blt_tri e h) k

/-! What the changes make. -/
theorem inj_of_nodup {α β : Type} {f : α → β} : ∀ {l : List α}, (l.map f).Nodup → ∀ x ∈ l, ∀ y ∈ l, f x = f y → x = y
  | [], _, x, hx, _, _, _ => by cases hx
  | a :: l, h, x, hx, y, hy, e => by
    rw [List.map_cons, List.nodup_cons] at h
    have hx' := List.mem_cons.1 hx
    have hy' := List.mem_cons.1 hy
    clear hx hy
    rcases hx' with rfl | hx <;> rcases hy' with rfl | hy
    · rfl
    · exact absurd (List.mem_map.2 ⟨y, hy, e.symm⟩) h.1
    · exact absurd (List.mem_map.2 ⟨x, hx, e⟩) h.1
    · exact inj_of_nodup h.2 x hx y hy e
end Go.Dm

end

section
/-
  The changes of two trees, done to the one, are the other. No condition.
-/

set_option linter.unusedSimpArgs false
set_option linter.unusedVariables false
namespace Go.Dm
open Go Go.Sort Go.Proofs
set_option maxRecDepth 100000

theorem srt_nd {s : List It} (hs : Srt s) : s.Nodup := hs.imp fun {a b} h e => by subst e; rw [blt_irrefl] at h; cases h
theorem srt_mem_eq {s t : List It} (hs : Srt s) (ht : Srt t) (h : ∀ x, x ∈ s ↔ x ∈ t) : s = t :=
  List.Perm.eq_of_pairwise (le := fun (x y : It) => bltL x.p y.p = true) (fun _ _ _ _ h k => by rw [blt_asymm h] at k; cases k) hs ht ((List.perm_ext_iff_of_nodup (srt_nd hs) (srt_nd ht)).2 h)

end Go.Dm

end

section
/-
  Trees as the program puts and moves: an item set or inserted at its place; what moves, in order. No program in sight.
-/

set_option linter.unusedSimpArgs false
set_option linter.unusedVariables false
namespace Go.Dm
open Go

theorem inj_map {α β : Type} {f : α → β} : ∀ {l : List α}, (l.map f).Nodup → ∀ x ∈ l, ∀ y ∈ l, f x = f y → x = y
  | [], _, x, hx, _, _, _ => by cases hx
  | z :: l, h, x, hx, y, hy, e => by
    rw [List.map_cons, List.nodup_cons] at h
    rcases List.mem_cons.1 hx with h1 | h1 <;> rcases List.mem_cons.1 hy with h2 | h2
    · rw [h1, h2]
    · subst h1; exact absurd (e ▸ List.mem_map_of_mem (f := f) h2) h.1
    · subst h2; exact absurd (e ▸ List.mem_map_of_mem (f := f) h1) h.1
    · exact inj_map h.2 x h1 y h2 e
theorem setL_app {p : List UInt8} {n : Nd} {b : List It} : ∀ {a : List It}, (∀ x ∈ a, bltL x.p p = true) → setL p n false (a ++ b) = a ++ setL p n false b
  | [], _ => rfl
  | x :: a, h => by
    have hx := h x List.mem_cons_self
    have hn := blt_ne hx
    have := setL_app (n := n) (b := b) fun y hy => h y (List.mem_cons_of_mem _ hy)
    rw [List.cons_append, setL, hx, hn]
    simpa using this

/-- Where a path is, or would be. -/
def At (t : List It) (p : List UInt8) (i : Nat) : Prop := i ≤ t.length ∧ ∀ k x, t[k]? = some x → (k < i → bltL x.p p = true) ∧ (i ≤ k → bltL x.p p = false)

theorem setR_at {t : List It} {p : List UInt8} {n : Nd} {i : Nat} (hs : Srt t) (h : At t p i) : setR t p n = t.take i ++ ⟨p, n⟩ :: (match t[i]? with | some x => if x.p == p then t.drop (i + 1) else t.drop i | none => []) := by
  obtain ⟨hi, h⟩ := h
  have e : t = t.take i ++ t.drop i := (List.take_append_drop i t).symm
  have h1 : ∀ x ∈ t.take i, bltL x.p p = true := fun x hx => by
    obtain ⟨k, hk, rfl⟩ := List.mem_iff_getElem.1 hx
    rw [List.getElem_take]
    have hk2 : k < i := by simp at hk; omega
    exact (h k _ (List.getElem?_eq_getElem (by omega))).1 hk2
  unfold setR
  conv => lhs; rw [e]
  rw [setL_app h1]
  congr 1
  rcases Nat.lt_or_ge i t.length with hl | hl
  · have hx : t[i]? = some t[i] := List.getElem?_eq_getElem hl
    have hd := drop_at hx
    have hb := (h i _ hx).2 (Nat.le_refl _)
    rw [hx]
    simp only
    rw [hd, setL, hb, Bool.not_false, Bool.or_true, setL_true]
    have hdr : dropR (t.drop (i + 1)) p = t.drop (i + 1) := List.filter_eq_self.2 fun y hy => by
      obtain ⟨k, hk, rfl⟩ := List.mem_iff_getElem.1 hy
      have hk2 : i + 1 + k < t.length := by simp at hk; omega
      have h3 := List.pairwise_iff_getElem.1 hs i (i + 1 + k) hl hk2 (by omega)
      rw [List.getElem_drop]
      cases hq : (t[i + 1 + k].p == p)
      · rfl
      · rw [eq_of_beq hq, hb] at h3; cases h3
    rw [hdr]
    cases t[i].p == p <;> rfl
  · rw [List.getElem?_eq_none hl, List.drop_of_length_le hl]
    rfl

theorem setR_found {t : List It} {p : List UInt8} {n : Nd} {i : Nat} {x : It} (hs : Srt t) (h : At t p i) (hx : t[i]? = some x) (hp : (x.p == p) = true) : setR t p n = t.set i ⟨p, n⟩ := by
  rw [setR_at hs h, hx]
  simp only
  rw [hp, if_pos rfl, List.set_eq_take_append_cons_drop, if_pos (List.getElem?_eq_some_iff.1 hx).1]
theorem setR_new {t : List It} {p : List UInt8} {n : Nd} {i : Nat} (hs : Srt t) (h : At t p i) (hx : ∀ x, t[i]? = some x → (x.p == p) = false) : setR t p n = t.take i ++ ⟨p, n⟩ :: t.drop i := by
  rw [setR_at hs h]
  congr 2
  cases hq : t[i]? with
  | none => rw [List.drop_of_length_le (List.getElem?_eq_none_iff.1 hq)]
  | some x => simp only; rw [hx x hq, if_neg (by decide)]

/-! What moves. -/
def movI (a b : List UInt8) (x : It) : It := if mvd a x then ⟨b ++ x.p.drop a.length, x.n⟩ else x
def movT (t : List It) (a b : List UInt8) : List It := t.map (movI a b)
def shortP (x : It) : Bool := !decide ((120 : Int) < (x.p.length : Int))

theorem moveL_err {a b : List UInt8} : ∀ (t out : List It), (∀ x ∈ t, mvd a x = true → shortP ⟨b ++ x.p.drop a.length, x.n⟩ = true) → (moveL a b out t).2 = 0
  | [], _, _ => rfl
  | x :: r, out, h => by
    have hr := fun o => moveL_err (a := a) (b := b) r o fun y hy => h y (List.mem_cons_of_mem _ hy)
    rw [moveL]
    split
    · exact hr _
    · rename_i hc
      have hm : mvd a x = true := by
        have hc2 : (!(x.p == a) && !belowR a x.p) = false := by simpa only [Bool.not_eq_true] using hc
        rw [mvd, hc2]; rfl
      have := h x List.mem_cons_self hm
      simp only [shortP, List.length_append, Bool.not_eq_true'] at this
      rw [this, if_neg (by decide)]
      exact hr _
theorem moveL_bad {a b : List UInt8} : ∀ (t out : List It), (∃ x ∈ t, mvd a x = true ∧ shortP ⟨b ++ x.p.drop a.length, x.n⟩ = false) → moveL a b out t = ([], 12)
  | [], _, h => by obtain ⟨x, hx, _⟩ := h; cases hx
  | x :: r, out, h => by
    rw [moveL]
    split
    · rename_i hc
      refine moveL_bad r _ ?_
      obtain ⟨y, hy, h1, h2⟩ := h
      rcases List.mem_cons.1 hy with rfl | hy
      · unfold mvd at h1; rw [hc] at h1; cases h1
      · exact ⟨y, hy, h1, h2⟩
    · split
      · rfl
      · rename_i hl
        refine moveL_bad r _ ?_
        obtain ⟨y, hy, h1, h2⟩ := h
        rcases List.mem_cons.1 hy with rfl | hy
        · simp only [shortP, List.length_append, Bool.not_eq_false'] at h2
          exact absurd h2 hl
        · exact ⟨y, hy, h1, h2⟩

theorem mov_nodup {t : List It} {a b : List UInt8} (h : OkT t) (ha : a ≠ []) (hb : b ≠ []) (hbt : (getR t b).isSome = false) : ((movT t a b).map It.p).Nodup := by
  have hno : ∀ y ∈ t, ∀ s, (s = [] ∨ ∃ r, s = 47 :: r) → b ++ s ≠ y.p := fun y hy s hs e => by
    rcases hs with rfl | ⟨r, rfl⟩
    · rw [List.append_nil] at e
      have := getR_self h.srt hy
      rw [← e] at this
      rw [this] at hbt; cases hbt
    · have h1 : belowR b y.p = true := by rw [← e]; exact below_mk hb
      have h2 := getR_self h.srt hy
      have := par_up h.par hb y.p.length y.p (Nat.le_refl _) (by rw [h2]; rfl) h1
      rw [this] at hbt; cases hbt
  have hnd : t.Pairwise fun x y => (movI a b x).p ≠ (movI a b y).p := by
    refine (List.Pairwise.imp_of_mem ?_ h.srt)
    intro x y hx hy hlt
    have hne := blt_ne hlt
    unfold movI
    cases hmx : mvd a x <;> cases hmy : mvd a y
    · simp only [Bool.false_eq_true, if_false]
      intro e; rw [e] at hne; simp at hne
    · simp only [Bool.false_eq_true, if_false, if_true]
      obtain ⟨s, e1, e2⟩ := mvd_form ha hmy
      intro e
      rw [e1, List.drop_left] at e
      exact hno x hx s e2 e.symm
    · simp only [Bool.false_eq_true, if_false, if_true]
      obtain ⟨s, e1, e2⟩ := mvd_form ha hmx
      intro e
      rw [e1, List.drop_left] at e
      exact hno y hy s e2 e
    · simp only [if_true]
      obtain ⟨s, e1, _⟩ := mvd_form ha hmx
      obtain ⟨s', e2, _⟩ := mvd_form ha hmy
      intro e
      rw [e1, e2, List.drop_left, List.drop_left, List.append_cancel_left_eq] at e
      rw [e1, e2, e] at hne; simp at hne
  unfold movT
  rw [List.map_map]
  exact List.pairwise_map.2 hnd

theorem removeR_mvd (t : List It) (a : List UInt8) {x : It} : x ∈ removeR t a ↔ x ∈ t ∧ mvd a x = false := by
  rw [removeR_filter, List.mem_filter]
  unfold mvd
  rw [Bool.not_eq_false']

/-- What moves, in order, is what the document makes. -/
theorem move_eq {t : List It} {a b : List UInt8} (h : OkT t) (ha : a ≠ []) (hb : b ≠ []) (hbp : isPathR b = true) (hbt : (getR t b).isSome = false) :
    moveL a b (removeR t a) t = if (movT t a b).all shortP then (sortI (movT t a b), 0) else ([], 12) := by
  have hshort : ∀ x ∈ t, shortP x = true := fun x hx => by
    have := h.plen x hx
    simp only [shortP, Bool.not_eq_true', decide_eq_false_iff_not]; omega
  cases hall : (movT t a b).all shortP
  · rw [if_neg (by decide)]
    refine moveL_bad t _ ?_
    obtain ⟨z, hz, hzs⟩ := List.all_eq_false.1 hall
    obtain ⟨x, hx, rfl⟩ := List.mem_map.1 hz
    have hzs : shortP (movI a b x) = false := by simpa using hzs
    unfold movI at hzs
    cases hm : mvd a x
    · rw [hm, if_neg (by decide), hshort x hx] at hzs; cases hzs
    · rw [hm, if_pos rfl] at hzs
      exact ⟨x, hx, hm, hzs⟩
  · rw [if_pos rfl]
    have h0 : (moveL a b (removeR t a) t).2 = 0 := moveL_err t _ fun x hx hm => by
      have := List.all_eq_true.1 hall _ (List.mem_map_of_mem (f := movI a b) hx)
      unfold movI at this
      rw [hm, if_pos rfl] at this
      exact this
    have hr := h.toOkT0.remove a
    obtain ⟨k1, _⟩ := moveL_ok ha hb hbp h.its hr.srt hr.its h0
    have k2 := sortI_srt (mov_nodup h ha hb hbt)
    have key : (moveL a b (removeR t a) t).1 = sortI (movT t a b) := by
      refine srt_mem_eq k1 k2 fun z => ?_
      rw [(sortI_perm _).mem_iff]
      constructor
      · intro hz
        rcases moveL_mem h0 hz with hz | ⟨y, hy, hm, rfl⟩
        · obtain ⟨h1, h2⟩ := (removeR_mvd t a).1 hz
          refine List.mem_map.2 ⟨z, h1, ?_⟩
          unfold movI; rw [h2]; rfl
        · refine List.mem_map.2 ⟨y, hy, ?_⟩
          unfold movI; rw [hm]; rfl
      · intro hz
        obtain ⟨y, hy, rfl⟩ := List.mem_map.1 hz
        have got : ∀ q m, getR (moveL a b (removeR t a) t).1 q = some m → (⟨q, m⟩ : It) ∈ (moveL a b (removeR t a) t).1 := fun q m hg => by
          obtain ⟨x, hx, h1, h2⟩ := getR_mem hg
          rw [← h1, ← h2]; exact hx
        unfold movI
        cases hm : mvd a y
        · rw [if_neg (by decide)]
          refine got y.p y.n ?_
          rw [moveL_get ha h0 fun x hx hmx e => ?_]
          · exact getR_self hr.srt ((removeR_mvd t a).2 ⟨hy, hm⟩)
          · have hnd := mov_nodup h ha hb hbt
            unfold movT at hnd
            rw [List.map_map] at hnd
            have hxy : x ≠ y := fun e => by rw [e, hm] at hmx; cases hmx
            have e1 : (movI a b x).p = (movI a b y).p := by unfold movI; rw [hmx, hm]; exact e
            exact hxy (inj_map (f := It.p ∘ movI a b) hnd x hx y hy e1)
        · rw [if_pos rfl]
          exact got _ _ (moveL_got ha hm h.srt h0 hy)
    exact Prod.ext key h0
end Go.Dm
namespace Go.Dm
open Go
end Go.Dm

end
