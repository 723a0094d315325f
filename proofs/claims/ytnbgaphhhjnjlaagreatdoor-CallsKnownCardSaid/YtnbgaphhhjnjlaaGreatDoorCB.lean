/-
  What a walk leads to; a call of a tree as the program has it is a call as the document has it. Conditions: the tree is right.
-/
import Derived.Test.YtnbgaphhhjnjlaaGreatDoorCA
set_option linter.unusedSimpArgs false
set_option linter.unusedVariables false
namespace Go.Dm
open Go

theorem joinF_ne {c x : List UInt8} (h : x ≠ []) : joinF c x ≠ [] := by
  unfold joinF; split
  · exact h
  · simp
theorem joinF_len (c x : List UInt8) : c.length ≤ (joinF c x).length := by
  unfold joinF; split
  · rename_i h; rw [eq_of_beq h]; simp
  · simp
theorem dir_none {x : List UInt8} (hx : 47 ∉ x) : dirOfR x = [] := by
  rcases dir_spec x with ⟨h, _⟩ | ⟨n, h, _⟩
  · exact h
  · exact absurd (by rw [h]; simp) hx
theorem dir_join {c x : List UInt8} (hx : 47 ∉ x) : dirOfR (joinF c x) = c := by
  unfold joinF; split
  · rename_i h; rw [eq_of_beq h]; exact dir_none hx
  · exact dir_of hx

/-! Nothing is below what is no directory. -/
theorem par_dir {t : List It} {b : List UInt8} (h : Par t) (hb : b ≠ []) : ∀ (n : Nat) (q : List UInt8), q.length ≤ n → (getR t q).isSome = true → belowR b q = true → isDirR t b = true
  | 0, q, hl, _, hq => by
    have h1 : q = [] := by simpa using hl
    subst h1
    have h2 := belowR_len hq
    exact absurd (by simpa using h2) hb
  | n + 1, q, hl, hs, hq => by
    obtain ⟨m, hm⟩ := Option.isSome_iff_exists.1 hs
    obtain ⟨x, hx, rfl, _⟩ := getR_mem hm
    have hdx := h x hx
    rcases below_up hb hq with h1 | h1
    · rw [← h1]; exact hdx
    · have h0 : dirOfR x.p ≠ [] := by
        intro h0
        rw [h0] at h1
        have := belowR_len h1
        exact absurd (by simpa using this) hb
      obtain ⟨m, h2, _⟩ := isDir_some h0 hdx
      have hlt := dir_lt h0
      exact par_dir h hb n _ (by omega) (by rw [h2]; rfl) h1
theorem none_below {t : List It} (h : OkT t) {p : List UInt8} (hp : p ≠ []) (hd : isDirR t p = false) : noneBelow t p = t := by
  unfold noneBelow
  refine List.filter_eq_self.2 fun x hx => ?_
  cases hb : belowR p x.p
  · rfl
  · have := par_dir h.par hp _ x.p (Nat.le_refl _) (by rw [getR_self h.srt hx]; rfl) hb
    rw [hd] at this; cases this
theorem isDir_get {t : List It} {p : List UInt8} (hp : p ≠ []) : isDirR t p = match getR t p with | some n => n.k == 2 | none => false := by
  unfold isDirR
  have : (p == []) = false := by simpa using hp
  rw [this]; rfl
theorem drop_no {t : List It} {p : List UInt8} (h : getR t p = none) : dropR t p = t := by
  unfold dropR
  refine List.filter_eq_self.2 fun x hx => ?_
  cases hb : x.p == p
  · rfl
  · exfalso
    have : ∀ {t : List It}, x ∈ t → getR t p ≠ none := by
      intro t ht
      induction t with
      | nil => simp at ht
      | cons y r ih =>
        rw [getR]
        split
        · simp
        · rcases List.mem_cons.1 ht with rfl | ht
          · rename_i hn; exact absurd hb hn
          · exact ih ht
    exact this hx h
theorem remove_no {t : List It} (h : OkT t) {p : List UInt8} (hp : p ≠ []) (hn : getR t p = none) : removeR t p = t := by
  unfold removeR
  rw [none_below h hp (by rw [isDir_get hp, hn]), drop_no hn]

/-! What a walk leads to. -/
def ThereT (t : List It) (fo : Bool) (r : List UInt8 × Bool × Int) : Prop :=
  r.2.2 = 0 → (r.2.1 = true → r.1 = [] ∨ ∃ n, getR t r.1 = some n ∧ (fo = true → (n.k == 3) = false)) ∧ (r.2.1 = false → r.1 ≠ [] ∧ getR t r.1 = none)
def InT (t : List It) (c : List UInt8) : Prop := c = [] ∨ ∃ n, getR t c = some n
theorem splitF_ne {s : List UInt8} : ∀ x ∈ (splitF s).1, x ≠ [] := by
  intro x hx
  unfold splitF at hx
  split at hx
  · simp at hx
  · split at hx
    · simp at hx
    · split at hx
      · have := (List.mem_filter.1 hx).2
        intro h; subst h; simp at this
      · simp at hx
theorem dirOf_dir {t : List It} (h : OkT t) {c : List UInt8} (hc : InT t c) : isDirR t (dirOfR c) = true := by
  rcases hc with rfl | ⟨n, hn⟩
  · rfl
  · obtain ⟨x, hx, rfl, _⟩ := getR_mem hn
    exact h.par x hx
theorem dir_in {t : List It} {c : List UInt8} (h : isDirR t c = true) : c = [] ∨ ∃ n, getR t c = some n ∧ (n.k == 3) = false := by
  by_cases hc : c = []
  · exact .inl hc
  · obtain ⟨m, h1, h2⟩ := isDir_some hc h
    exact .inr ⟨m, h1, by rw [h2]; rfl⟩
/-- What the walk holds: where it is there is something that is no link, unless it ends there. -/
theorem walkW_there {t : List It} (h : OkT t) {fo : Bool} : ∀ (f : Nat) (c : List UInt8) (ps : List (List UInt8)) (hops : Nat), (c = [] ∨ ∃ n, getR t c = some n ∧ (fo = true → (n.k == 3) = false)) → (∀ x ∈ ps, x ≠ []) → ThereT t fo (walkW t fo f c ps hops)
  | 0, c, ps, hops, hc, hps => by intro h0; simp [walkW] at h0
  | f + 1, c, [], hops, hc, hps => by
    intro _
    simp only [walkW]
    exact ⟨fun _ => hc, fun h => by cases h⟩
  | f + 1, c, p :: ps, hops, hc, hps => by
    have hpn := hps p List.mem_cons_self
    have hps' : ∀ x ∈ ps, x ≠ [] := fun x hx => hps x (List.mem_cons_of_mem _ hx)
    have bad : ∀ e : Int, e ≠ 0 → ThereT t fo ([], false, e) := fun e he h0 => absurd h0 he
    simp only [walkW]
    split
    · exact walkW_there h f c ps hops hc hps'
    · split
      · refine walkW_there h f _ ps hops ?_ hps'
        have hd : isDirR t (dirOfR c) = true := dirOf_dir h (hc.imp id fun ⟨n, hn, _⟩ => ⟨n, hn⟩)
        exact (dir_in hd).imp id fun ⟨n, h1, h2⟩ => ⟨n, h1, fun _ => h2⟩
      · split
        · exact bad 9 (by decide)
        · split
          · exact bad 12 (by decide)
          · rename_i hdir _
            have hdir : isDirR t c = true := by simpa using hdir
            split
            · rename_i hg
              split
              · refine fun _ => ⟨fun h => ?_, fun _ => ⟨joinF_ne hpn, hg⟩⟩
                cases h
              · exact bad 6 (by decide)
            · rename_i n hg
              split
              · split
                · exact bad 11 (by decide)
                · split
                  · refine walkW_there h f _ _ _ ?_ ?_
                    · split
                      · exact .inl rfl
                      · exact (dir_in hdir).imp id fun ⟨n, h1, h2⟩ => ⟨n, h1, fun _ => h2⟩
                    · intro x hx
                      rcases List.mem_append.1 hx with hx | hx
                      · exact splitF_ne x hx
                      · exact hps' x hx
                  · rename_i he
                    exact bad _ (by simpa using he)
              · rename_i hlk
                refine walkW_there h f _ ps hops (.inr ⟨n, hg, fun hf => ?_⟩) hps'
                rw [hf, Bool.or_true, Bool.and_true] at hlk
                simpa using hlk
theorem walkF_there {t : List It} (h : OkT t) (s : List UInt8) (fo : Bool) : ThereT t fo (walkF t s fo) := by
  unfold walkF
  split
  · exact walkW_there h _ _ _ _ (.inl rfl) splitF_ne
  · rename_i he
    exact fun h0 => absurd h0 (by simpa using he)

/-! The path of an item, walked. -/
theorem isDir_pre {t : List It} (h : OkT t) {c x : List UInt8} (hx : x ≠ []) (hs : 47 ∉ x) (hd : isDirR t (joinF c x) = true) : isDirR t c = true := by
  obtain ⟨m, h1, _⟩ := isDir_some (joinF_ne hx) hd
  have := dirOf_dir h (.inr ⟨m, h1⟩)
  rwa [dir_join hs] at this
theorem isDir_fold {t : List It} (h : OkT t) : ∀ {l : List (List UInt8)} {c : List UInt8}, (∀ x ∈ l, x ≠ [] ∧ 47 ∉ x) → isDirR t (l.foldl joinF c) = true → isDirR t c = true
  | [], _, _, hd => hd
  | x :: l, c, hl, hd => isDir_pre h (hl x List.mem_cons_self).1 (hl x List.mem_cons_self).2 (isDir_fold h (fun y hy => hl y (List.mem_cons_of_mem _ hy)) hd)
theorem fold_len : ∀ (l : List (List UInt8)) (c : List UInt8), c.length ≤ (l.foldl joinF c).length
  | [], _ => Nat.le_refl _
  | x :: l, c => Nat.le_trans (joinF_len c x) (fold_len l _)
def PartS (x : List UInt8) : Prop := x ≠ [] ∧ 47 ∉ x ∧ (x == [46]) = false ∧ (x == [46, 46]) = false
theorem walkW_path {t : List It} (h : OkT t) {x : List UInt8} (hx : PartS x) (hops : Nat) : ∀ (l : List (List UInt8)) (c : List UInt8) (f : Nat), (∀ y ∈ l, PartS y) → isDirR t (l.foldl joinF c) = true → (joinF (l.foldl joinF c) x).length ≤ 120 → l.length + 2 ≤ f →
    walkW t false f c (l ++ [x]) hops = (joinF (l.foldl joinF c) x, (getR t (joinF (l.foldl joinF c) x)).isSome, 0)
  | [], c, f + 2, _, hd, hlen, _ => by
    have hl : decide ((120 : Int) < (joinF c x).length) = false := decide_eq_false (by simp only [List.foldl_nil] at hlen; omega)
    simp only [List.foldl_nil] at hd ⊢
    simp only [List.nil_append, walkW, hx.2.2.1, hx.2.2.2, hd, hl, Bool.not_true, Bool.false_eq_true, if_false]
    cases hg : getR t (joinF c x)
    · simp
    · simp [walkW]
  | y :: l, c, f + 2, hl, hd, hlen, hf => by
    have hy := hl y List.mem_cons_self
    have hl' : ∀ z ∈ l, PartS z := fun z hz => hl z (List.mem_cons_of_mem _ hz)
    simp only [List.foldl_cons] at hd hlen ⊢
    have hdj : isDirR t (joinF c y) = true := isDir_fold h (fun z hz => ⟨(hl' z hz).1, (hl' z hz).2.1⟩) hd
    have hdc := isDir_pre h hy.1 hy.2.1 hdj
    obtain ⟨m, hm, hk⟩ := isDir_some (joinF_ne hy.1) hdj
    have hle : (joinF c y).length ≤ 120 := Nat.le_trans (Nat.le_trans (fold_len l _) (joinF_len _ x)) hlen
    have hl1 : decide ((120 : Int) < (joinF c y).length) = false := decide_eq_false (by omega)
    have hk3 : (m.k == 3) = false := by rw [hk]; rfl
    have ih := walkW_path h hx hops l (joinF c y) (f + 1) hl' hd hlen (by simp only [List.length_cons] at hf; omega)
    simp only [List.cons_append, walkW, hy.2.2.1, hy.2.2.2, hdc, hl1, hm, hk3, Bool.not_true, Bool.false_eq_true, if_false, Bool.false_and]
    exact ih
  | [], _, 0, _, _, _, hf => by omega
  | [], _, 1, _, _, _, hf => by simp at hf
  | _ :: _, _, 0, _, _, _, hf => by omega
  | _ :: _, _, 1, _, _, _, hf => by simp at hf
theorem fold_app (w : List UInt8) (hw : w ≠ []) (c r : List UInt8) : joinF (joinF c w) r = joinF c (w ++ 47 :: r) := by
  have h1 : ¬ (joinF c w == []) = true := by simpa using joinF_ne hw
  rw [joinF, if_neg h1]
  unfold joinF
  cases c == []
  · simp
  · simp
theorem fold_cut : ∀ (s w c : List UInt8), (∀ x ∈ cutL w s, x ≠ []) → (cutL w s).foldl joinF c = joinF c (w ++ s)
  | [], w, c, _ => by simp [cutL]
  | b :: r, w, c, h => by
    simp only [cutL] at h ⊢
    split at h
    · rename_i hb
      have hb : b = 47 := by
        have := eq_of_beq hb
        exact UInt8.toNat_inj.1 (by have : (47 : UInt8).toNat = 47 := rfl; omega)
      subst hb
      rw [if_pos (by decide), List.foldl_cons, fold_cut r [] _ fun x hx => h x (List.mem_cons_of_mem _ hx), List.nil_append, fold_app w (h w List.mem_cons_self)]
    · rename_i hb
      rw [if_neg hb, fold_cut r _ c h]; simp
theorem cutL_slash : ∀ (s w : List UInt8), 47 ∉ w → ∀ x ∈ cutL w s, 47 ∉ x
  | [], w, hw, x, hx => by simp [cutL] at hx; subst hx; exact hw
  | b :: r, w, hw, x, hx => by
    simp only [cutL] at hx
    split at hx
    · rcases List.mem_cons.1 hx with rfl | hx
      · exact hw
      · exact cutL_slash r [] (by simp) x hx
    · rename_i hb
      refine cutL_slash r _ ?_ x hx
      intro hm
      rcases List.mem_append.1 hm with hm | hm
      · exact hw hm
      · simp at hm; subst hm; exact hb (by decide)
theorem cutL_all {P : UInt8 → Bool} (h47 : P 47 = true) : ∀ (s w : List UInt8), (∀ x ∈ cutL w s, x.all P = true) → s.all P = true
  | [], _, _ => rfl
  | b :: r, w, h => by
    simp only [cutL] at h
    rw [List.all_cons]
    split at h
    · rename_i hb
      have hb : b = 47 := by
        have := eq_of_beq hb
        exact UInt8.toNat_inj.1 (by have : (47 : UInt8).toNat = 47 := rfl; omega)
      rw [hb, h47, cutL_all h47 r [] fun x hx => h x (List.mem_cons_of_mem _ hx)]; rfl
    · have hr := cutL_all h47 r _ h
      have : ∀ (s w : List UInt8), ∃ y ∈ cutL w s, ∀ z ∈ w, z ∈ y := by
        intro s
        induction s with
        | nil => intro w; exact ⟨w, by simp [cutL], fun z hz => hz⟩
        | cons a s ih =>
          intro w
          simp only [cutL]
          split
          · exact ⟨w, List.mem_cons_self, fun z hz => hz⟩
          · obtain ⟨y, hy, hz⟩ := ih (w ++ [a])
            exact ⟨y, hy, fun z hw => hz z (List.mem_append_left _ hw)⟩
      obtain ⟨y, hy, hz⟩ := this r (w ++ [b])
      have := List.all_eq_true.1 (h y hy) b (hz b (by simp))
      rw [this, hr]; rfl
theorem rightName_part {x : List UInt8} (h : rightNameR x = true) (hs : 47 ∉ x) : PartS x ∧ x.length ≤ 24 ∧ (x.all fun b => !((b.toNat : Int) == 0)) = true := by
  unfold rightNameR at h
  simp only [Bool.and_eq_true, decide_eq_true_eq, Bool.not_eq_true'] at h
  refine ⟨⟨?_, hs, h.2.1.2, h.2.2⟩, by omega, ?_⟩
  · intro h0; subst h0; simp at h
  · refine List.all_eq_true.2 fun b hb => ?_
    have := List.all_eq_true.1 h.1 b hb
    unfold okByte at this
    simp only [Bool.not_eq_true', Bool.or_eq_false_iff] at this
    rw [this.1]; rfl
theorem path_parts {p : List UInt8} (hp : p ≠ []) (h : isPathR p = true) : p.length ≤ 120 ∧ ∀ x ∈ cutR p, PartS x ∧ x.length ≤ 24 ∧ (x.all fun b => !((b.toNat : Int) == 0)) = true := by
  refine ⟨isPathR_len h, fun x hx => ?_⟩
  unfold isPathR at h
  have hb : (p == []) = false := by simpa using hp
  rw [hb, Bool.false_or, Bool.and_eq_true] at h
  exact rightName_part (List.all_eq_true.1 h.1 x hx) (cutL_slash p [] (by simp) x hx)
theorem splitF_path {p : List UInt8} (hp : p ≠ []) (h : isPathR p = true) : splitF p = (cutR p, 0) := by
  obtain ⟨hl, hx⟩ := path_parts hp h
  unfold splitF
  have h0 : (p.all fun b => !((b.toNat : Int) == 0)) = true := cutL_all (by decide) p [] fun x hm => (hx x hm).2.2
  have h1 : ((cutR p).all fun x => !decide ((24 : Int) < x.length)) = true := List.all_eq_true.2 fun x hm => by
    have := (hx x hm).2.1
    rw [decide_eq_false (by omega)]; rfl
  have h2 : ((cutR p).filter fun x => !(x == [])) = cutR p := List.filter_eq_self.2 fun x hm => by
    have := (hx x hm).1.1
    simpa using this
  rw [if_neg (by simp; omega), h0, h1, h2]; rfl
/-- The path of an item, or of one that may be put, leads to itself. -/
theorem walk_path {t : List It} (h : OkT t) {p : List UInt8} (hp : p ≠ []) (hr : isPathR p = true) (hd : isDirR t (dirOfR p) = true) : walkF t p false = (p, (getR t p).isSome, 0) := by
  obtain ⟨hl, hx⟩ := path_parts hp hr
  have hne : cutR p ≠ [] := by
    intro h0
    have := fold_cut p [] [] fun x hm => (hx x hm).1.1
    unfold cutR at h0
    rw [h0] at this
    simp [joinF] at this
    exact hp this
  have hsplit := List.dropLast_concat_getLast hne
  generalize (cutR p).dropLast = l at hsplit
  generalize (cutR p).getLast hne = x at hsplit
  have hf := fold_cut p [] [] fun y hm => (hx y hm).1.1
  change (cutR p).foldl joinF [] = _ at hf
  rw [← hsplit, List.foldl_append] at hf
  simp only [List.foldl_cons, List.foldl_nil, List.nil_append] at hf
  have hj : joinF [] p = p := rfl
  rw [hj] at hf
  have hxp : PartS x := (hx x (by rw [← hsplit]; simp)).1
  have hlp : ∀ y ∈ l, PartS y := fun y hy => (hx y (by rw [← hsplit]; simp [hy])).1
  have hd2 : isDirR t (l.foldl joinF []) = true := by
    rw [← hf, dir_join hxp.2.1] at hd; exact hd
  have hcl : (cutR p).length ≤ p.length + 1 := cutL_len p []
  have hll : l.length + 1 ≤ p.length + 1 := by rw [← hsplit, List.length_append] at hcl; simpa using hcl
  unfold walkF
  rw [splitF_path hp hr]
  simp only [beq_self_eq_true, if_true]
  rw [← hsplit, walkW_path h hxp 0 l [] 1400 hlp hd2 (by rw [hf]; exact hl) (by omega), hf]
end Go.Dm
