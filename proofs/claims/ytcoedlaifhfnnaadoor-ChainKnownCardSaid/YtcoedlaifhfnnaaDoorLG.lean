import Derived.Test.YtcoedlaifhfnnaaDoorLA

section
/-
  Layers: what a layer does at a path; that the layer made of two trees leads from the one to the other; what shows at a path is what is folded. No program in sight.
-/

set_option linter.unusedSimpArgs false
set_option linter.unusedVariables false
namespace Go.Dm
open Go

theorem getR_leftE (t : List It) (x : En) (p : List UInt8) : getR (leftE t x) p = if ((p == x.p) || (coverE t x && belowR x.p p)) then none else getR t p := by
  have := getR_filter (fun q => !((q == x.p) || (coverE t x && belowR x.p q))) p t
  unfold leftE goE
  rw [this]
  cases ((p == x.p) || (coverE t x && belowR x.p p)) <;> rfl
theorem over1_get (t : List It) (x : En) (p : List UInt8) : getR (over1 t x) p = if p == x.p then (if x.k == 2 then none else some x.n) else if coverE t x && belowR x.p p then none else getR t p := by
  unfold over1
  split
  · rw [getR_leftE]
    cases p == x.p <;> simp
  · rw [getR_setR, getR_leftE]
    cases p == x.p <;> simp
theorem below_blt {a p : List UInt8} (ha : a ≠ []) (h : belowR a p = true) : bltL a p = true := by
  obtain ⟨r, rfl⟩ := belowR_eq ha h
  exact blt_app a 47 r
theorem below_trans {a b c : List UInt8} (ha : a ≠ []) (h : belowR a b = true) (k : belowR b c = true) : belowR a c = true := by
  obtain ⟨r, rfl⟩ := belowR_eq ha h
  obtain ⟨s, rfl⟩ := belowR_eq (by simp) k
  rw [List.append_assoc, List.cons_append]
  exact below_mk ha
theorem below_len {a p : List UInt8} (ha : a ≠ []) (h : belowR a p = true) : a.length < p.length := by
  obtain ⟨r, rfl⟩ := belowR_eq ha h
  simp
theorem below_no {a : List UInt8} (ha : a ≠ []) : belowR a [] = false := by
  cases h : belowR a []
  · rfl
  · have := below_len ha h
    simp at this

theorem overs_cons (t : List It) (x : En) (l : List En) : overs t (x :: l) = overs (over1 t x) l := rfl
theorem overs_keep {p : List UInt8} : ∀ {l : List En} {t : List It}, (∀ x ∈ l, (p == x.p) = false ∧ belowR x.p p = false) → getR (overs t l) p = getR t p
  | [], _, _ => rfl
  | x :: l, t, h => by
    obtain ⟨h1, h2⟩ := h x List.mem_cons_self
    rw [overs_cons, overs_keep fun y hy => h y (List.mem_cons_of_mem _ hy), over1_get, h1, h2, Bool.and_false]
    rfl
theorem overs_none {p : List UInt8} : ∀ {l : List En} {t : List It}, (∀ x ∈ l, (p == x.p) = false) → getR t p = none → getR (overs t l) p = none
  | [], _, _, h => h
  | x :: l, t, h, h0 => by
    rw [overs_cons]
    refine overs_none (fun y hy => h y (List.mem_cons_of_mem _ hy)) ?_
    rw [over1_get, h x List.mem_cons_self, h0]
    simp
theorem overs_entry {x : En} : ∀ {l : List En} {t : List It}, SrtE l → (∀ y ∈ l, y.p ≠ []) → x ∈ l → getR (overs t l) x.p = if x.k == 2 then none else some x.n
  | [], _, _, _, h => by cases h
  | y :: l, t, hs, hn, hx => by
    obtain ⟨h1, h2⟩ := List.pairwise_cons.1 hs
    rw [overs_cons]
    rcases List.mem_cons.1 hx with rfl | hx
    · rw [overs_keep fun z hz => ⟨blt_ne (h1 z hz), ?_⟩, over1_get, beq_self_eq_true, if_pos rfl]
      cases hb : belowR z.p x.p
      · rfl
      · have := below_blt (hn z (List.mem_cons_of_mem _ hz)) hb
        rw [blt_asymm (h1 z hz)] at this
        cases this
    · exact overs_entry h2 (fun z hz => hn z (List.mem_cons_of_mem _ hz)) hx
theorem overs_shut {p : List UInt8} {e : En} : ∀ {l : List En} {t : List It}, (∀ x ∈ l, (p == x.p) = false) → e ∈ l → belowR e.p p = true → (e.o || shutE e) = true → getR (overs t l) p = none
  | [], _, _, h, _, _ => by cases h
  | y :: l, t, h, he, hb, hs => by
    rw [overs_cons]
    rcases List.mem_cons.1 he with rfl | he
    · refine overs_none (fun x hx => h x (List.mem_cons_of_mem _ hx)) ?_
      have hc : coverE t e = true := by
        unfold coverE
        rw [← Bool.or_assoc, hs, Bool.true_or]
      rw [over1_get, h e List.mem_cons_self, hc, hb]
      rfl
    · exact overs_shut (fun x hx => h x (List.mem_cons_of_mem _ hx)) he hb hs
theorem overs_open {p : List UInt8} : ∀ {l : List En} {t : List It}, (∀ x ∈ l, x.p ≠ [] ∧ (p == x.p) = false ∧ (belowR x.p p = true → (x.o || shutE x) = false)) → (∀ q, (getR t p).isSome = true → belowR q p = true → q ≠ [] → isDirR t q = true) → getR (overs t l) p = getR t p
  | [], _, _, _ => rfl
  | x :: l, t, h, hc => by
    obtain ⟨h0, h1, h2⟩ := h x List.mem_cons_self
    have hcov : belowR x.p p = true → (getR t p).isSome = true → coverE t x = false := fun hb hs => by
      have h3 := h2 hb
      rw [Bool.or_eq_false_iff] at h3
      unfold coverE
      rw [h3.1, h3.2, hc x.p hs hb h0]
      rfl
    have he : getR (over1 t x) p = getR t p := by
      rw [over1_get, h1]
      cases hb : belowR x.p p
      · simp
      · cases hs : getR t p with
        | none => simp
        | some n => rw [hcov hb (by rw [hs]; rfl)]; simp
    rw [overs_cons, overs_open (fun y hy => h y (List.mem_cons_of_mem _ hy)) ?_, he]
    intro q hs hb hq
    rw [he] at hs
    obtain ⟨m, hm, hk⟩ := isDir_some hq (hc q hs hb hq)
    cases hqx : q == x.p
    · refine isDir_mk (m := m) ?_ hk
      rw [over1_get, hqx]
      cases hbx : belowR x.p q
      · simpa using hm
      · rw [hcov (below_trans h0 hbx hb) hs]
        simpa using hm
    · have e := eq_of_beq hqx
      rw [e] at hb
      have h3 := h2 hb
      rw [Bool.or_eq_false_iff] at h3
      have h4 := h3.2
      unfold shutE at h4
      rw [Bool.or_eq_false_iff] at h4
      refine isDir_mk (m := x.n) ?_ (by simpa using h4.2)
      rw [over1_get, hqx, if_pos rfl, h4.1]
      rfl

/-! A layer's entries by their paths. -/
theorem srtE_inj : ∀ {l : List En}, SrtE l → ∀ x ∈ l, ∀ y ∈ l, x.p = y.p → x = y
  | [], _, x, hx, _, _, _ => by cases hx
  | z :: l, h, x, hx, y, hy, e => by
    obtain ⟨h1, h2⟩ := List.pairwise_cons.1 h
    rcases List.mem_cons.1 hx with e1 | g1 <;> rcases List.mem_cons.1 hy with e2 | g2
    · rw [e1, e2]
    · have := blt_ne (h1 y g2); rw [← e1, e] at this; simp at this
    · have := blt_ne (h1 x g1); rw [← e2, e] at this; simp at this
    · exact srtE_inj h2 x g1 y g2 e
theorem entryR_of {l : List En} (h : SrtE l) {x : En} (hx : x ∈ l) : entryR l x.p = some x := by
  cases hf : entryR l x.p with
  | none => exact absurd (beq_self_eq_true x.p) (by simpa using List.find?_eq_none.1 hf x hx)
  | some y =>
    have h1 := eq_of_beq (List.find?_some (p := fun z : En => z.p == x.p) hf)
    rw [srtE_inj h y (List.mem_of_find?_eq_some hf) x hx h1]
theorem entryR_mem {l : List En} {p : List UInt8} {x : En} (h : entryR l p = some x) : x ∈ l ∧ x.p = p := ⟨List.mem_of_find?_eq_some h, eq_of_beq (List.find?_some (p := fun z : En => z.p == p) h)⟩
theorem entryR_no {l : List En} {p : List UInt8} (h : entryR l p = none) : ∀ x ∈ l, (p == x.p) = false := fun x hx => by
  have h1 := List.find?_eq_none.1 h x hx
  cases hp : p == x.p
  · rfl
  · rw [eq_of_beq hp] at h1; simp at h1
theorem shF_iff {l : List En} (hs : SrtE l) (hn : ∀ x ∈ l, x.p ≠ []) : ∀ (n : Nat) (q : List UInt8), q.length ≤ n → (shF l n q = true ↔ ∃ e ∈ l, (e.p = q ∨ belowR e.p q = true) ∧ (e.o || shutE e) = true) := by
  have h00 : ¬ ∃ e ∈ l, (e.p = [] ∨ belowR e.p [] = true) ∧ (e.o || shutE e) = true := by
    rintro ⟨e, he, h | h, _⟩
    · exact hn e he h
    · rw [below_no (hn e he)] at h; cases h
  intro n
  induction n with
  | zero =>
    intro q hl
    have h1 : q = [] := by simpa using hl
    subst h1
    exact ⟨fun h => (by simp [shF] at h), fun h => absurd h h00⟩
  | succ n ih =>
    intro q hl
    by_cases h0 : q = []
    · subst h0
      exact ⟨fun h => (by rw [shF_nil] at h; cases h), fun h => absurd h h00⟩
    · have hdl : (dirOfR q).length ≤ n := by
        by_cases h : dirOfR q = []
        · rw [h]; exact Nat.zero_le _
        · have := dir_lt h; omega
      have hsh : ∀ e : En, (e.k == 2 || (e.o || e.n.k != 2)) = (e.o || shutE e) := fun e => by
        unfold shutE
        cases e.k == 2 <;> cases e.o <;> rfl
      rw [shF_more h0]
      split
      · rename_i hc
        refine ⟨fun _ => ?_, fun _ => rfl⟩
        cases he : entryR l q with
        | none => rw [he] at hc; cases hc
        | some e =>
          rw [he, Option.getD_some, hsh] at hc
          obtain ⟨h1, h2⟩ := entryR_mem he
          exact ⟨e, h1, .inl h2, by simpa using hc⟩
      · rename_i hc
        rw [ih _ hdl]
        constructor
        · rintro ⟨e, he, h1, h2⟩
          refine ⟨e, he, .inr ?_, h2⟩
          refine below_dir (hn e he) (fun hd => ?_) (h1.imp Eq.symm id)
          rw [hd] at h1
          exact h00 ⟨e, he, h1, h2⟩
        · rintro ⟨e, he, h1, h2⟩
          rcases h1 with h1 | h1
          · rw [← h1, entryR_of hs he, Option.getD_some, hsh, h2] at hc
            exact absurd rfl hc
          · exact ⟨e, he, (below_up (hn e he) h1).imp Eq.symm id, h2⟩
theorem shutL_iff {l : List En} (hs : SrtE l) (hn : ∀ x ∈ l, x.p ≠ []) (p : List UInt8) : shutL l p = true ↔ ∃ e ∈ l, belowR e.p p = true ∧ (e.o || shutE e) = true := by
  unfold shutL
  rw [shF_iff hs hn _ _ (dir_le p)]
  constructor
  · rintro ⟨e, he, h1, h2⟩
    refine ⟨e, he, below_dir (hn e he) (fun hd => ?_) (h1.imp Eq.symm id), h2⟩
    rw [hd] at h1
    rcases h1 with h1 | h1
    · exact hn e he h1
    · rw [below_no (hn e he)] at h1; cases h1
  · rintro ⟨e, he, h1, h2⟩
    exact ⟨e, he, (below_up (hn e he) h1).imp Eq.symm id, h2⟩

/-- What a layer does at a path. -/
theorem overs_get {t : List It} {l : List En} (hp : Par t) (hs : SrtE l) (hn : ∀ x ∈ l, x.p ≠ []) (p : List UInt8) :
    getR (overs t l) p = match entryR l p with
      | some e => if e.k == 2 then none else some e.n
      | none => if shutL l p then none else getR t p := by
  cases he : entryR l p with
  | some e =>
    obtain ⟨h1, rfl⟩ := entryR_mem he
    exact overs_entry hs hn h1
  | none =>
    have hno := entryR_no he
    cases hsh : shutL l p
    · refine overs_open (fun x hx => ⟨hn x hx, hno x hx, fun hb => ?_⟩) fun q h1 h2 h3 => ?_
      · cases h : (x.o || shutE x)
        · rfl
        · rw [(shutL_iff hs hn p).2 ⟨x, hx, hb, h⟩] at hsh; cases hsh
      · obtain ⟨m, h4, h5⟩ := par_kind hp h3 _ _ (Nat.le_refl _) h1 h2
        exact isDir_mk h4 (by simpa using h5)
    · obtain ⟨e, h1, h2, h3⟩ := (shutL_iff hs hn p).1 hsh
      exact overs_shut hno h1 h2 h3

/-! The layer that is made leads from the one tree to the other. -/
theorem OkE.ne {l : List En} (h : OkE l) : ∀ x ∈ l, x.p ≠ [] := fun x hx e => by
  have := h.may x hx
  unfold mayE at this
  rw [e] at this
  cases this
/-! What shows at a path is what is folded. -/
theorem foldG_snoc {l : List En} : ∀ {ls : List (List En)} {t : List It}, foldG t (ls ++ [l]) = if (foldG t ls).2 then (if (overF (foldG t ls).1 l).2 then ((overF (foldG t ls).1 l).1, true) else ([], false)) else ([], false)
  | [], _ => rfl
  | x :: r, t => by
    rw [List.cons_append, foldG, foldG]
    cases (overF t x).2
    · rfl
    · exact foldG_snoc
theorem overF_fst {t : List It} {l : List En} (h : (overF t l).2 = true) : (overF t l).1 = overs t l := by
  unfold overF at h ⊢
  split at h
  · rename_i hr; rw [if_pos hr]
  · cases h
theorem look_get {ls : List (List En)} (hl : ∀ l ∈ ls, OkE l) {p : List UInt8} (hp : p ≠ []) : ∀ i, i ≤ ls.length → (foldG [] (ls.take i)).2 = true →
    match getR (foldG [] (ls.take i)).1 p with
    | some n => ∃ k, k < i ∧ lookN ls p i = (n, k, true) ∧ (∃ e, entryR (ls.getD k []) p = some e ∧ e.k = 1) ∧ ∀ j, k < j → j < i → entryR (ls.getD j []) p = none
    | none => lookN ls p i = (nd0, 0, false)
  | 0, _, _ => rfl
  | i + 1, hi, hf => by
    have hx : ls[i]? = some ls[i] := List.getElem?_eq_getElem (by omega)
    have hok := hl _ (List.getElem_mem (show i < ls.length by omega))
    have hgd : ls.getD i [] = ls[i] := by rw [List.getD_eq_getElem?_getD, hx]; rfl
    rw [List.take_add_one, hx, show (some ls[i]).toList = [ls[i]] from rfl, foldG_snoc] at hf ⊢
    cases hb : (foldG [] (ls.take i)).2
    · rw [hb] at hf; simp at hf
    · rw [hb] at hf
      rw [if_pos rfl] at hf ⊢
      have hto := foldG_ok OkT.nil (fun l h => hl l (List.mem_of_mem_take h)) hb
      have ih := look_get hl hp i (by omega) hb
      generalize (foldG [] (ls.take i)).1 = u at *
      cases ho : (overF u ls[i]).2
      · rw [ho] at hf; cases hf
      · rw [if_pos rfl, overF_fst ho]
        rw [overs_get hto.par hok.srt hok.ne]
        have hp0 : (p == []) = false := by simpa using hp
        rw [lookN, hgd, hp0]
        generalize ls[i] = l at *
        cases he : entryR l p with
        | some e =>
          obtain ⟨h1, _⟩ := entryR_mem he
          have hm := hok.may e h1
          unfold mayE at hm
          simp only [Bool.and_eq_true] at hm
          have hm := hm.2.2
          cases hk : e.k == 2
          · rw [hk, if_neg (by decide)] at hm
            simp only [Bool.and_eq_true] at hm
            have h3 := hm.1.1
            simp only [hk, Option.isSome_some, Option.getD_some, h3, Bool.and_self, if_true, Bool.false_eq_true, if_false]
            exact ⟨i, by omega, rfl, ⟨e, by rw [hgd]; exact he, eq_of_beq h3⟩, fun j h4 h5 => by omega⟩
          · have h3 : (e.k == 1) = false := by rw [eq_of_beq hk]; rfl
            simp only [hk, h3, Option.isSome_some, Option.getD_some, Bool.true_and, Bool.true_or, Bool.false_eq_true, if_false, if_true]
        | none =>
          cases hsh : shutL l p
          · simp only [hsh, Option.isSome_none, Bool.false_and, Bool.false_or, Bool.false_eq_true, if_false]
            cases hg : getR u p with
            | none => rw [hg] at ih; exact ih
            | some n =>
              rw [hg] at ih
              obtain ⟨k, h1, h2, h3, h4⟩ := ih
              refine ⟨k, by omega, h2, h3, fun j h5 h6 => ?_⟩
              rcases Nat.lt_or_ge j i with h7 | h7
              · exact h4 j h5 h7
              · have : j = i := by omega
                rw [this, hgd]; exact he
          · simp only [hsh, Option.isSome_none, Bool.false_and, Bool.false_or, Bool.false_eq_true, if_false, if_true]
end Go.Dm

end

section
/-
  Layers: which names a directory has, which layer says what shows. No program in sight.
-/

set_option linter.unusedSimpArgs false
set_option linter.unusedVariables false
namespace Go.Dm
open Go

theorem look_all {ls : List (List En)} (hl : ∀ l ∈ ls, OkE l) (hf : (foldG [] ls).2 = true) {p : List UInt8} (hp : p ≠ []) :
    match getR (foldG [] ls).1 p with
    | some n => ∃ k, k < ls.length ∧ lookF ls p = (n, k, true) ∧ (∃ e, entryR (ls.getD k []) p = some e ∧ e.k = 1) ∧ ∀ j, k < j → j < ls.length → entryR (ls.getD j []) p = none
    | none => lookF ls p = (nd0, 0, false) := by
  have h := look_get hl hp ls.length (Nat.le_refl _) (by rw [List.take_of_length_le (Nat.le_refl _)]; exact hf)
  rw [List.take_of_length_le (Nat.le_refl _)] at h
  exact h
theorem look_is {ls : List (List En)} (hl : ∀ l ∈ ls, OkE l) (hf : (foldG [] ls).2 = true) {p : List UInt8} (hp : p ≠ []) : (lookF ls p).2.2 = (getR (foldG [] ls).1 p).isSome ∧ (lookF ls p).1 = (getR (foldG [] ls).1 p).getD nd0 := by
  have h := look_all hl hf hp
  cases hg : getR (foldG [] ls).1 p with
  | none => rw [hg] at h; simp only at h; rw [h]; exact ⟨rfl, rfl⟩
  | some n => rw [hg] at h; obtain ⟨k, _, h2, _⟩ := h; rw [h2]; exact ⟨rfl, rfl⟩

/-! Names. -/
def nmP (ls : List (List En)) (p : List UInt8) (x : En) : Bool := (lookF ls x.p).2.2 && (!(x.p == []) && dirOfR x.p == p)
def nmL (ls : List (List En)) (p : List UInt8) (l : List En) : List (List UInt8) := (l.filter (nmP ls p)).map fun x => baseF x.p
def nmO (ls : List (List En)) (p : List UInt8) (l : List (List En)) : List (List UInt8) := l.flatMap (nmL ls p)
def nmF (ls : List (List En)) (p : List UInt8) : List (List UInt8) := Lib.compact ((nmO ls p ls).mergeSort fun x y => decide (x ≤ y))
theorem nmL_len (ls : List (List En)) (p : List UInt8) (l : List En) : (nmL ls p l).length ≤ l.length := by
  unfold nmL; rw [List.length_map]; exact List.length_filter_le ..
theorem nmL_next {ls : List (List En)} {p : List UInt8} {l : List En} {k : Nat} {x : En} (h : l[k]? = some x) : nmL ls p (l.take (k + 1)) = nmL ls p (l.take k) ++ (if nmP ls p x then [baseF x.p] else []) := by
  unfold nmL
  rw [List.take_add_one, h, show (some x).toList = [x] from rfl, List.filter_append, List.map_append]
  congr 1
  cases hb : nmP ls p x <;> simp [hb]
theorem nmO_next {ls l : List (List En)} {p : List UInt8} {k : Nat} {x : List En} (h : l[k]? = some x) : nmO ls p (l.take (k + 1)) = nmO ls p (l.take k) ++ nmL ls p x := by
  unfold nmO
  rw [List.take_add_one, h, show (some x).toList = [x] from rfl, List.flatMap_append]
  simp
theorem nmO_len {ls : List (List En)} {p : List UInt8} : ∀ {l : List (List En)}, (∀ x ∈ l, x.length ≤ 1000) → (nmO ls p l).length ≤ l.length * 1000
  | [], _ => Nat.zero_le _
  | x :: l, h => by
    have h1 := h x List.mem_cons_self
    have h2 := nmL_len ls p x
    have h3 := nmO_len (ls := ls) (p := p) fun y hy => h y (List.mem_cons_of_mem _ hy)
    have : nmO ls p (x :: l) = nmL ls p x ++ nmO ls p l := by unfold nmO; rw [List.flatMap_cons]
    rw [this, List.length_append, List.length_cons]
    omega
theorem foldG_mem {y : It} : ∀ {ls : List (List En)} {t : List It}, y ∈ (foldG t ls).1 → y ∈ t ∨ ∃ l ∈ ls, ∃ x ∈ l, y = ⟨x.p, x.n⟩
  | [], _, h => .inl h
  | l :: r, t, h => by
    rw [foldG] at h
    split at h
    · rename_i ho
      rcases foldG_mem h with h | ⟨m, hm, x, hx, e⟩
      · rw [overF_fst ho] at h
        rcases overs_mem h with h | ⟨x, hx, e⟩
        · exact .inl h
        · exact .inr ⟨l, List.mem_cons_self, x, hx, e⟩
      · exact .inr ⟨m, List.mem_cons_of_mem _ hm, x, hx, e⟩
    · cases h
theorem nmF_eq {ls : List (List En)} (hl : ∀ l ∈ ls, OkE l) (hf : (foldG [] ls).2 = true) (p : List UInt8) : nmF ls p = namesF (foldG [] ls).1 p := by
  have hT := foldG_ok OkT.nil hl hf
  refine strict_unique (lt := bltL) blt_irrefl (fun h => blt_asymm h) (paths_strict _) (namesF_strict hT p) fun b => ?_
  unfold nmF namesF
  rw [compact_iff, List.mem_mergeSort]
  unfold nmO nmL dirNames
  rw [List.mem_flatMap, List.mem_map]
  constructor
  · rintro ⟨l, hm, hb⟩
    obtain ⟨x, hx, rfl⟩ := List.mem_map.1 hb
    obtain ⟨hx, hn⟩ := List.mem_filter.1 hx
    unfold nmP at hn
    simp only [Bool.and_eq_true] at hn
    rw [(look_is hl hf ((hl l hm).ne x hx)).1] at hn
    obtain ⟨n, hg⟩ := Option.isSome_iff_exists.1 hn.1
    obtain ⟨y, hy, h1, _⟩ := getR_mem hg
    exact ⟨y, List.mem_filter.2 ⟨hy, by rw [h1]; exact hn.2.2⟩, by rw [h1]⟩
  · rintro ⟨y, hy, rfl⟩
    obtain ⟨hy, hd⟩ := List.mem_filter.1 hy
    rcases foldG_mem hy with h | ⟨l, hm, x, hx, e⟩
    · cases h
    · have hp : x.p = y.p := by rw [e]
      refine ⟨l, hm, List.mem_map.2 ⟨x, List.mem_filter.2 ⟨hx, ?_⟩, by rw [hp]⟩⟩
      unfold nmP
      have hne := (hl l hm).ne x hx
      rw [(look_is hl hf hne).1, hp, getR_has hy, hd]
      rw [hp] at hne
      simpa using hne

/-! Which layer says what shows. -/
end Go.Dm

end
