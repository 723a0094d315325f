/-
  The names of a tree's directories are all its paths, each once; what a removal leaves. No condition.
-/
import Derived.Test.YtomaddpcacoodaaGreatDoorS12
set_option linter.unusedSimpArgs false
set_option linter.unusedVariables false
namespace Go.Dm
open Go

/-- Texts in order, none twice, are in strict order. -/
theorem strict_of {l : List (List UInt8)} (hs : l.Pairwise fun x y => leS x y = true) (hn : l.Nodup) : l.Pairwise fun x y => bltL x y = true :=
  (hs.and hn).imp fun {x y} ⟨h1, h2⟩ => by
    cases hb : bltL x y
    · rw [leS_blt] at h1
      exact absurd (blt_tri hb (by simpa using h1)) h2
    · rfl
theorem isPath_noslash {p : List UInt8} (hp : isPathR p = true) (h0 : p ≠ []) (hd : dirOfR p = []) : 47 ∉ p := by
  rcases dir_spec p with ⟨_, h⟩ | ⟨n, h, _⟩
  · exact h
  · rw [hd, List.nil_append] at h
    unfold isPathR at hp
    have : (p == []) = false := by simpa using h0
    rw [this, Bool.false_or, Bool.and_eq_true] at hp
    rw [h] at hp
    have h1 := hp.1
    unfold cutR at h1
    rw [show (47 :: n : List UInt8) = [] ++ 47 :: n from rfl, cutL_app, List.all_append] at h1
    simp [cutL, rightNameR] at h1
theorem OkT.joined {t : List It} (h : OkT t) {x : It} (hx : x ∈ t) : joinF (dirOfR x.p) (baseF x.p) = x.p :=
  dir_base _ fun hd => isPath_noslash (h.its x hx).2.1 (h.its x hx).1 hd
theorem dirNames_mem {t : List It} (h : OkT t) {d b : List UInt8} (hb : b ∈ dirNames t d) : ∃ x ∈ t, dirOfR x.p = d ∧ baseF x.p = b ∧ joinF d b = x.p := by
  unfold dirNames at hb
  obtain ⟨x, hx, rfl⟩ := List.mem_map.1 hb
  obtain ⟨hx, hd⟩ := List.mem_filter.1 hx
  have hd := eq_of_beq hd
  exact ⟨x, hx, hd, rfl, by rw [← hd]; exact h.joined hx⟩
theorem dirNames_nodup {t : List It} (h : OkT t) (d : List UInt8) : (dirNames t d).Nodup := by
  unfold dirNames
  have key : ∀ s : List It, (∀ x ∈ s, x ∈ t) → Srt s → ((s.filter fun x => dirOfR x.p == d).map fun x => baseF x.p).Nodup := by
    intro s
    induction s with
    | nil => intros; simp
    | cons x s ih =>
      intro hm hs
      obtain ⟨h1, h2⟩ := List.pairwise_cons.1 hs
      have ih := ih (fun y hy => hm y (List.mem_cons_of_mem _ hy)) h2
      rw [List.filter_cons]
      split
      · rename_i hx
        rw [List.map_cons, List.nodup_cons]
        refine ⟨fun hb => ?_, ih⟩
        obtain ⟨y, hy, hyb⟩ := List.mem_map.1 hb
        obtain ⟨hy, hyd⟩ := List.mem_filter.1 hy
        have e1 := h.joined (hm x List.mem_cons_self)
        have e2 := h.joined (hm y (List.mem_cons_of_mem _ hy))
        rw [eq_of_beq hx] at e1
        rw [eq_of_beq hyd, hyb, e1] at e2
        have := h1 y hy
        rw [e2, blt_irrefl] at this; cases this
      · exact ih
  exact key t (fun _ h => h) h.srt
theorem namesF_strict {t : List It} (h : OkT t) (d : List UInt8) : (namesF t d).Pairwise fun x y => bltL x y = true :=
  strict_of (sorted_paths _) ((List.mergeSort_perm _ _).nodup_iff.2 (dirNames_nodup h d))
theorem namesF_mem {t : List It} (h : OkT t) {d b : List UInt8} (hb : b ∈ namesF t d) : (getR t (joinF d b)).isSome = true := by
  have hb : b ∈ dirNames t d := List.mem_mergeSort.1 hb
  obtain ⟨x, hx, _, _, hj⟩ := dirNames_mem h hb
  rw [hj]; exact getR_has hx
theorem namesF_len (t : List It) (d : List UInt8) : (namesF t d).length = (t.filter fun x => dirOfR x.p == d).length := by
  unfold namesF dirNames
  rw [List.length_mergeSort, List.length_map]
theorem namesF_file {t : List It} (h : OkT t) {x : It} (hx : x ∈ t) (hk : x.n.k ≠ 2) : namesF t x.p = [] := by
  apply List.eq_nil_of_length_eq_zero
  rw [namesF_len, List.length_eq_zero_iff, List.filter_eq_nil_iff]
  intro y hy hd
  have hd := eq_of_beq hd
  have hp := h.par y hy
  rw [hd] at hp
  obtain ⟨m, h1, h2⟩ := isDir_some (h.ne x hx) hp
  rw [getR_self h.srt hx] at h1
  cases h1
  exact hk h2
/-- All directories of a tree, the root first. -/
def dirsF (t : List It) : List (List UInt8) := [] :: (t.filter fun x => x.n.k == 2).map It.p
theorem dirsF_nodup {t : List It} (h : OkT t) : (dirsF t).Nodup := by
  unfold dirsF
  rw [List.nodup_cons]
  constructor
  · intro hm
    obtain ⟨x, hx, he⟩ := List.mem_map.1 hm
    exact h.ne x (List.mem_filter.1 hx).1 he
  · have : Srt (t.filter fun x => x.n.k == 2) := h.srt.filter _
    rw [List.nodup_iff_pairwise_ne, List.pairwise_map]
    exact this.imp fun {x y} hb e => by rw [e, blt_irrefl] at hb; cases hb
theorem dirsF_has {t : List It} (h : OkT t) {x : It} (hx : x ∈ t) : dirOfR x.p ∈ dirsF t := by
  unfold dirsF
  by_cases hd : dirOfR x.p = []
  · rw [hd]; exact List.mem_cons_self
  · obtain ⟨m, h1, h2⟩ := isDir_some hd (h.par x hx)
    obtain ⟨y, hy, hyp, hyn⟩ := getR_mem h1
    exact List.mem_cons_of_mem _ (List.mem_map.2 ⟨y, List.mem_filter.2 ⟨hy, by rw [hyn, h2]; rfl⟩, hyp⟩)
theorem one_of {ds : List (List UInt8)} {d : List UInt8} (hn : ds.Nodup) (hd : d ∈ ds) : (ds.map fun e => if d == e then 1 else 0).sum = 1 := by
  induction ds with
  | nil => cases hd
  | cons e ds ih =>
    obtain ⟨h1, h2⟩ := List.nodup_cons.1 hn
    rw [List.map_cons, List.sum_cons]
    by_cases he : d = e
    · subst he
      have h0 : (ds.map fun e => if d == e then 1 else 0).sum = 0 := by
        clear ih hn hd h2
        induction ds with
        | nil => rfl
        | cons x ds ih2 =>
          rw [List.map_cons, List.sum_cons, ih2 fun h => h1 (List.mem_cons_of_mem _ h)]
          have : (d == x) = false := by
            cases hb : d == x
            · rfl
            · exact absurd (by rw [eq_of_beq hb]; exact List.mem_cons_self) h1
          rw [this]; rfl
      rw [h0]; simp
    · have hb : (d == e) = false := by simpa using he
      rw [hb, ih h2 (by rcases List.mem_cons.1 hd with h | h; exact absurd h he; exact h)]; rfl
theorem sum_names {ds : List (List UInt8)} (hn : ds.Nodup) : ∀ {s : List It}, (∀ x ∈ s, dirOfR x.p ∈ ds) → (ds.map fun d => (s.filter fun x => dirOfR x.p == d).length).sum = s.length
  | [], _ => by
    have : ∀ l : List (List UInt8), (l.map fun _ => 0).sum = 0 := fun l => by induction l with
      | nil => rfl
      | cons x l ih => rw [List.map_cons, List.sum_cons, ih]
    simpa using this ds
  | x :: s, h => by
    have ih := sum_names hn (s := s) fun y hy => h y (List.mem_cons_of_mem _ hy)
    have e : ∀ d, ((x :: s).filter fun x => dirOfR x.p == d).length = (if dirOfR x.p == d then 1 else 0) + (s.filter fun x => dirOfR x.p == d).length := fun d => by
      rw [List.filter_cons]; split <;> simp; omega
    have add : ∀ (l : List (List UInt8)) (f g : List UInt8 → Nat), (l.map fun d => f d + g d).sum = (l.map f).sum + (l.map g).sum := fun l f g => by
      induction l with
      | nil => rfl
      | cons a l ih => rw [List.map_cons, List.map_cons, List.map_cons, List.sum_cons, List.sum_cons, List.sum_cons, ih]; omega
    rw [List.map_congr_left fun d _ => e d, add, ih, one_of hn (h x List.mem_cons_self), List.length_cons]; omega
theorem names_all {t : List It} (h : OkT t) : ((dirsF t).map fun d => (namesF t d).length).sum = t.length := by
  rw [List.map_congr_left fun d _ => namesF_len t d]
  exact sum_names (dirsF_nodup h) fun x hx => dirsF_has h hx

/-! What a filter leaves, by its place. -/
theorem filter_place {α : Type} {g : α → Bool} {t : List α} {i : Nat} {x : α} (hx : t[i]? = some x) (hg : g x = true) : (t.filter g)[((t.take i).filter g).length]? = some x := by
  obtain ⟨h1, rfl⟩ := List.getElem?_eq_some_iff.1 hx
  have e : t = t.take i ++ t[i] :: t.drop (i + 1) := by rw [← List.drop_eq_getElem_cons h1, List.take_append_drop]
  conv => lhs; rw [e]
  rw [List.filter_append, List.filter_cons, if_pos hg, List.getElem?_append_right (Nat.le_of_eq ?_)]
  · simp
  · rw [List.take_append_of_le_length (by simp; omega), List.take_take, Nat.min_self]
theorem filter_next {α : Type} {g : α → Bool} {t : List α} {i : Nat} {x : α} (hx : t[i]? = some x) : (t.take (i + 1)).filter g = (t.take i).filter g ++ (if g x then [x] else []) := by
  rw [List.take_add_one, hx, List.filter_append]
  show _ ++ [x].filter g = _
  rw [List.filter_cons]; split <;> rfl
end Go.Dm
