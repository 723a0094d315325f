/-
  Trees that are right, and rows of the statements. No condition.
-/
import Derived.Test.YtcoedlaifhfnnaaDoorSA
set_option linter.unusedSimpArgs false
set_option linter.unusedVariables false

section
/-
  Trees that are right: what the document's functions keep. No condition.
-/
namespace Go.Dm
open Go

theorem blt_irrefl : ∀ a : List UInt8, bltL a a = false
  | [] => rfl
  | x :: a => by
    show (decide (x < x) || (x == x && bltL a a)) = false
    simp [blt_irrefl a]
theorem blt_cons (x y : UInt8) (a b : List UInt8) : bltL (x :: a) (y :: b) = (decide (x < y) || (x == y && bltL a b)) := rfl
theorem blt_nil (a : List UInt8) : bltL a [] = false := by cases a <;> rfl
theorem blt_trans : ∀ {a b c : List UInt8}, bltL a b = true → bltL b c = true → bltL a c = true
  | _, [], _, h, _ => by rw [blt_nil] at h; cases h
  | _, _ :: _, [], _, h => by rw [blt_nil] at h; cases h
  | [], _ :: _, _ :: _, _, _ => rfl
  | x :: a, y :: b, z :: c, h1, h2 => by
    rw [blt_cons] at *
    simp only [Bool.or_eq_true, Bool.and_eq_true, decide_eq_true_eq, beq_iff_eq] at *
    rcases h1 with h1 | ⟨rfl, h1⟩ <;> rcases h2 with h2 | ⟨rfl, h2⟩
    · exact .inl (UInt8.lt_trans h1 h2)
    · exact .inl h1
    · exact .inl h2
    · exact .inr ⟨rfl, blt_trans h1 h2⟩
theorem blt_tri : ∀ {a b : List UInt8}, bltL a b = false → bltL b a = false → a = b
  | [], [], _, _ => rfl
  | [], _ :: _, h, _ => by cases h
  | _ :: _, [], _, h => by cases h
  | x :: a, y :: b, h1, h2 => by
    rw [blt_cons] at *
    simp only [Bool.or_eq_false_iff, decide_eq_false_iff_not] at h1 h2
    have hxy : x = y := by
      have h3 := h1.1; have h4 := h2.1
      rw [UInt8.lt_iff_toNat_lt] at h3 h4
      exact UInt8.toNat_inj.1 (by omega)
    subst hxy
    have h5 : bltL a b = false := by simpa using h1.2
    have h6 : bltL b a = false := by simpa using h2.2
    rw [blt_tri h5 h6]
theorem blt_asymm {a b : List UInt8} (h : bltL a b = true) : bltL b a = false := by
  cases h2 : bltL b a
  · rfl
  · have := blt_trans h h2
    rw [blt_irrefl] at this; cases this
theorem blt_ne {a b : List UInt8} (h : bltL a b = true) : (a == b) = false := by
  cases h2 : a == b
  · rfl
  · rw [eq_of_beq h2, blt_irrefl] at h; cases h

abbrev Srt (t : List It) : Prop := t.Pairwise fun x y => bltL x.p y.p = true
theorem setL_mem {p : List UInt8} {n : Nd} {y : It} : ∀ {t : List It} {d : Bool}, y ∈ setL p n d t → y = ⟨p, n⟩ ∨ y ∈ t
  | [], d, h => by cases d <;> simp [setL] at h; exact .inl h
  | x :: r, d, h => by
    simp only [setL, List.mem_append] at h
    rcases h with h | h | h
    · split at h <;> simp at h; exact .inl h
    · split at h <;> simp at h; exact .inr (by simp [h])
    · rcases setL_mem h with h | h
      · exact .inl h
      · exact .inr (List.mem_cons_of_mem _ h)
theorem setL_true (p : List UInt8) (n : Nd) : ∀ t : List It, setL p n true t = dropR t p
  | [] => rfl
  | x :: r => by
    simp only [setL, Bool.not_true, Bool.false_and, Bool.true_or, Bool.false_eq_true, if_false, List.nil_append, setL_true p n r, dropR, List.filter_cons]
    split <;> rfl
theorem setR_srt {p : List UInt8} {n : Nd} : ∀ {t : List It}, Srt t → Srt (setR t p n)
  | [], _ => by simp [setR, setL]
  | x :: r, h => by
    have h1 := List.pairwise_cons.1 h
    unfold setR
    cases hb : bltL x.p p
    · simp only [setL, hb, Bool.not_false, Bool.true_and, if_true, Bool.false_or, setL_true]
      have hd : Srt (dropR r p) := h1.2.filter _
      have hlt : ∀ y ∈ r, bltL p y.p = true := fun y hy => by
        have := h1.1 y hy
        cases hp : bltL p x.p
        · rw [← blt_tri hb hp]; exact this
        · exact blt_trans hp this
      cases he : x.p == p
      · have hp : bltL p x.p = true := by
          cases hp : bltL p x.p
          · rw [blt_tri hb hp] at he; simp at he
          · rfl
        simp only [Bool.not_false, if_true, List.singleton_append, List.cons_append, List.nil_append]
        refine List.pairwise_cons.2 ⟨fun y hy => ?_, List.pairwise_cons.2 ⟨fun y hy => h1.1 y (List.mem_filter.1 hy).1, hd⟩⟩
        rcases List.mem_cons.1 hy with rfl | hy
        · exact hp
        · exact hlt y (List.mem_filter.1 hy).1
      · simp only [Bool.not_true, Bool.false_eq_true, if_false, List.singleton_append, List.cons_append, List.nil_append]
        exact List.pairwise_cons.2 ⟨fun y hy => hlt y (List.mem_filter.1 hy).1, hd⟩
    · simp only [setL, hb, Bool.not_true, Bool.and_false, Bool.false_eq_true, if_false, Bool.or_false, List.nil_append, blt_ne hb, Bool.not_false, if_true, List.singleton_append]
      refine List.pairwise_cons.2 ⟨fun y hy => ?_, setR_srt h1.2⟩
      rcases setL_mem hy with rfl | hy
      · exact hb
      · exact h1.1 y hy

/-- Items that may be. -/
def OkI (x : It) : Prop := x.p ≠ [] ∧ isPathR x.p = true ∧ rightNodeR x.n = true ∧ x.n.t < 18446744073709551616
structure OkT0 (t : List It) : Prop where
  srt : Srt t
  its : ∀ x ∈ t, OkI x
  len : t.length ≤ 120
theorem OkT0.nil : OkT0 [] := ⟨List.Pairwise.nil, fun x h => by simp at h, by simp⟩
theorem isPathR_len {p : List UInt8} (h : isPathR p = true) : p.length ≤ 120 := by
  unfold isPathR at h
  simp only [Bool.or_eq_true, Bool.and_eq_true, decide_eq_true_eq, beq_iff_eq] at h
  rcases h with rfl | h
  · simp
  · omega
theorem rightNodeR_len {n : Nd} (h : rightNodeR n = true) : n.d.length ≤ 2000 := by
  unfold rightNodeR targetR at h
  rw [Bool.and_eq_true] at h
  have h := h.2
  split at h
  · simp only [decide_eq_true_eq] at h; omega
  · split at h
    · simp only [beq_iff_eq] at h; omega
    · split at h
      · simp only [Bool.and_eq_true, decide_eq_true_eq] at h; omega
      · cases h
theorem OkT0.plen {t : List It} (h : OkT0 t) : ∀ x ∈ t, x.p.length ≤ 120 := fun x hx => isPathR_len (h.its x hx).2.1
theorem OkT0.dlen {t : List It} (h : OkT0 t) : ∀ x ∈ t, x.n.d.length ≤ 2000 := fun x hx => rightNodeR_len (h.its x hx).2.2.1
theorem OkT0.filter {t : List It} (h : OkT0 t) (f : It → Bool) : OkT0 (t.filter f) :=
  ⟨h.srt.filter _, fun x hx => h.its x (List.mem_filter.1 hx).1, Nat.le_trans (List.length_filter_le ..) h.len⟩
theorem OkT0.remove {t : List It} (h : OkT0 t) (p : List UInt8) : OkT0 (removeR t p) := (h.filter _).filter _
theorem OkT0.tlen {t : List It} (h : OkT0 t) : ∀ x ∈ t, x.n.t < 18446744073709551616 := fun x hx => (h.its x hx).2.2.2
theorem OkT0.put {t : List It} {p : List UInt8} {n : Nd} (h : OkT0 t) (hnt : n.t < 18446744073709551616) (he : (putR t p n).2 = 0) : OkT0 (putR t p n).1 := by
  have hb : OkT0 (if n.k != 2 then noneBelow t p else t) := by split; exact h.filter _; exact h
  unfold putR at he ⊢
  generalize (if n.k != 2 then noneBelow t p else t) = u at he hb ⊢
  split at he
  · cases he
  · rename_i h1
    split at he
    · cases he
    · rename_i h2
      split at he
      · cases he
      · rename_i h3
        rw [if_neg h1, if_neg h2, if_neg h3]
        simp only [Bool.or_eq_true, not_or, beq_iff_eq, Bool.not_eq_true', Bool.not_eq_false] at h1
        refine ⟨setR_srt hb.srt, fun x hx => ?_, ?_⟩
        · rcases setL_mem hx with rfl | hx
          · exact ⟨h1.1.1, h1.1.2, h1.2, hnt⟩
          · exact hb.its x hx
        · simp only [decide_eq_true_eq] at h3
          show (setR _ p n).length ≤ 120
          omega

theorem cutL_app (r : List UInt8) : ∀ (s w : List UInt8), cutL w (s ++ 47 :: r) = cutL w s ++ cutL [] r
  | [], w => by simp [cutL]
  | b :: s, w => by
    simp only [List.cons_append, cutL]
    split
    · rw [cutL_app r s []]; rfl
    · rw [cutL_app r s (w ++ [b])]
theorem belowR_eq {a q : List UInt8} (ha : a ≠ []) (h : belowR a q = true) : ∃ r, q = a ++ 47 :: r := by
  unfold belowR at h
  rw [if_neg (by simpa using ha)] at h
  simp only [Bool.or_eq_true, Bool.and_eq_true, decide_eq_true_eq, beq_iff_eq] at h
  rcases h with ⟨_, h⟩ | ⟨_, h⟩
  · refine ⟨q.drop (a.length + 1), ?_⟩
    have := List.take_append_drop (a.length + 1) q
    rw [h] at this
    rw [List.append_assoc] at this
    exact this.symm
  · exact ⟨[], h⟩
theorem OkI.moved {a b : List UInt8} {x : It} (ha : a ≠ []) (hb : b ≠ []) (hbp : isPathR b = true) (hx : OkI x) (hc : (!(x.p == a) && !belowR a x.p) = false) (hl : ¬ decide ((120 : Int) < (b.length + (x.p.drop a.length).length : Nat)) = true) : OkI ⟨b ++ x.p.drop a.length, x.n⟩ := by
  refine ⟨by simp [hb], ?_, hx.2.2⟩
  simp only [decide_eq_true_eq] at hl
  have hl2 : (b ++ x.p.drop a.length).length ≤ 120 := by rw [List.length_append]; omega
  have hbq : (cutR b).all rightNameR = true := by
    unfold isPathR at hbp
    have : (b == []) = false := by simpa using hb
    rw [this, Bool.false_or, Bool.and_eq_true] at hbp
    exact hbp.1
  have hxq : (cutR x.p).all rightNameR = true := by
    have h := hx.2.1
    unfold isPathR at h
    have : (x.p == []) = false := by simpa using hx.1
    rw [this, Bool.false_or, Bool.and_eq_true] at h
    exact h.1
  unfold isPathR
  simp only [Bool.or_eq_true, Bool.and_eq_true, decide_eq_true_eq]
  refine .inr ⟨?_, by omega⟩
  cases he : x.p == a
  · rw [he] at hc
    have hbl : belowR a x.p = true := by simpa using hc
    obtain ⟨r, hr⟩ := belowR_eq ha hbl
    have hdr : x.p.drop a.length = 47 :: r := by rw [hr]; simp
    rw [hdr]
    rw [hr] at hxq
    unfold cutR at hxq hbq ⊢
    rw [cutL_app, List.all_append, Bool.and_eq_true] at hxq
    rw [cutL_app, List.all_append, hbq, hxq.2]; rfl
  · have hdr : x.p.drop a.length = [] := by rw [eq_of_beq he]; simp
    rw [hdr, List.append_nil]
    exact hbq
theorem moveL_ok {a b : List UInt8} (ha : a ≠ []) (hb : b ≠ []) (hbp : isPathR b = true) : ∀ {t out : List It}, (∀ x ∈ t, OkI x) → Srt out → (∀ x ∈ out, OkI x) → (moveL a b out t).2 = 0 → Srt (moveL a b out t).1 ∧ (∀ x ∈ (moveL a b out t).1, OkI x)
  | [], out, _, h2, h3, _ => ⟨h2, h3⟩
  | x :: r, out, h1, h2, h3, h4 => by
    have hr : ∀ y ∈ r, OkI y := fun y hy => h1 y (List.mem_cons_of_mem _ hy)
    rw [moveL] at h4 ⊢
    split at h4
    · rename_i hc; rw [if_pos hc]; exact moveL_ok ha hb hbp hr h2 h3 h4
    · rename_i hc
      split at h4
      · cases h4
      · rename_i hl
        rw [if_neg hc, if_neg hl]
        have hc2 : (!(x.p == a) && !belowR a x.p) = false := by simpa using hc
        have hxm := (h1 x List.mem_cons_self).moved ha hb hbp hc2 hl
        refine moveL_ok ha hb hbp hr (setR_srt h2) (fun y hy => ?_) h4
        rcases setL_mem hy with rfl | hy
        · exact hxm
        · exact h3 y hy
def mvd (a : List UInt8) (x : It) : Bool := !(!(x.p == a) && !belowR a x.p)
theorem moveL_len {a b : List UInt8} : ∀ (t out : List It), (moveL a b out t).1.length ≤ out.length + (t.filter (mvd a)).length
  | [], out => by simp [moveL]
  | x :: r, out => by
    cases hm : mvd a x
    · have hc : (!(x.p == a) && !belowR a x.p) = true := by simpa only [mvd, Bool.not_eq_false'] using hm
      rw [moveL, if_pos hc, List.filter_cons, if_neg (by rw [hm]; decide)]
      exact moveL_len r out
    · have hc : ¬ (!(x.p == a) && !belowR a x.p) = true := by simp only [mvd, Bool.not_eq_true'] at hm; rw [hm]; decide
      rw [moveL, if_neg hc, List.filter_cons, if_pos hm, List.length_cons]
      split
      · exact Nat.zero_le _
      · have h1 := moveL_len (a := a) (b := b) r (setR out (b ++ x.p.drop a.length) x.n)
        have h2 := setR_len out (b ++ x.p.drop a.length) x.n
        omega
theorem removeR_split (a : List UInt8) : ∀ t : List It, (removeR t a).length + (t.filter (mvd a)).length = t.length
  | [] => rfl
  | x :: r => by
    have h := removeR_split a r
    unfold removeR dropR noneBelow at h ⊢
    rw [List.filter_filter] at h ⊢
    simp only [List.filter_cons]
    cases hm : mvd a x
    · have hc : (!(x.p == a) && !belowR a x.p) = true := by simpa only [mvd, Bool.not_eq_false'] using hm
      rw [if_pos hc, if_neg (by decide), List.length_cons, List.length_cons]; omega
    · have hc : ¬ (!(x.p == a) && !belowR a x.p) = true := by simp only [mvd, Bool.not_eq_true'] at hm; rw [hm]; decide
      rw [if_neg hc, if_pos rfl, List.length_cons, List.length_cons]; omega
theorem OkT0.move {t : List It} {a b : List UInt8} (h : OkT0 t) (he : (moveR t a b).2 = 0) : OkT0 (moveR t a b).1 := by
  unfold moveR at he ⊢
  split at he
  · cases he
  · rename_i h1
    rw [if_neg h1]
    split at he
    · cases he
    · rename_i h2
      rw [if_neg h2]
      split at he
      · cases he
      · rename_i h3
        rw [if_neg h3]
        split at he
        · cases he
        · rename_i h4
          rw [if_neg h4]
          split at he
          · cases he
          · rename_i h5
            rw [if_neg h5]
            simp only [Bool.or_eq_true, not_or, beq_iff_eq, Bool.not_eq_true', Bool.not_eq_false] at h1
            have hr := h.remove a
            obtain ⟨k1, k2⟩ := moveL_ok h1.1.1.1 h1.1.1.2 h1.2 h.its hr.srt hr.its he
            refine ⟨k1, k2, ?_⟩
            have k3 := moveL_len (a := a) (b := b) t (removeR t a)
            have k4 := removeR_split a t
            have k5 := h.len
            omega
end Go.Dm
end

section
/-! A tree's directories are there. -/
namespace Go.Dm
open Go
theorem getR_mem {p : List UInt8} {n : Nd} : ∀ {t : List It}, getR t p = some n → ∃ x ∈ t, x.p = p ∧ x.n = n
  | [], h => by simp [getR] at h
  | x :: r, h => by
    rw [getR] at h
    split at h
    · rename_i hx
      exact ⟨x, List.mem_cons_self, eq_of_beq hx, by simpa using h⟩
    · obtain ⟨y, hy, h2⟩ := getR_mem h
      exact ⟨y, List.mem_cons_of_mem _ hy, h2⟩
def Par (t : List It) : Prop := ∀ x ∈ t, isDirR t (dirOfR x.p) = true

theorem lastSlash_spec (p : List UInt8) : ∀ k, k ≤ p.length → (lastSlash p k = none ∧ ∀ j (h : j < p.length), j < k → p[j] ≠ 47) ∨ (∃ i, ∃ h : i < p.length, lastSlash p k = some i ∧ i < k ∧ p[i] = 47 ∧ ∀ j (h : j < p.length), i < j → j < k → p[j] ≠ 47)
  | 0, _ => .inl ⟨rfl, fun j _ h => by omega⟩
  | k + 1, hk => by
    have hlt : k < p.length := by omega
    have hg : p.getD k 0 = p[k] := by simp [List.getD_eq_getElem?_getD, hlt]
    rw [lastSlash, hg]
    by_cases hb : p[k] = 47
    · rw [hb, if_pos (by decide)]
      exact .inr ⟨k, hlt, rfl, by omega, hb, fun j h h1 h2 => by omega⟩
    · have : ¬ ((p[k].toNat : Int) == 47) = true := by
        intro h
        have h := eq_of_beq h
        exact hb (UInt8.toNat_inj.1 (by have : (47 : UInt8).toNat = 47 := rfl; omega))
      rw [if_neg this]
      rcases lastSlash_spec p k (by omega) with ⟨h1, h2⟩ | ⟨i, h, h1, h2, h3, h4⟩
      · refine .inl ⟨h1, fun j hj hjk => ?_⟩
        rcases Nat.lt_or_ge j k with h | h
        · exact h2 j hj h
        · have : j = k := by omega
          subst this; exact hb
      · refine .inr ⟨i, h, h1, by omega, h3, fun j hj hij hjk => ?_⟩
        rcases Nat.lt_or_ge j k with h' | h'
        · exact h4 j hj hij h'
        · have : j = k := by omega
          subst this; exact hb
theorem dir_spec (p : List UInt8) : (dirOfR p = [] ∧ 47 ∉ p) ∨ ∃ n, p = dirOfR p ++ 47 :: n ∧ 47 ∉ n := by
  unfold dirOfR
  rcases lastSlash_spec p p.length (Nat.le_refl _) with ⟨h1, h2⟩ | ⟨i, h, h1, h2, h3, h4⟩
  · rw [h1]
    refine .inl ⟨rfl, fun hm => ?_⟩
    obtain ⟨j, hj, he⟩ := List.mem_iff_getElem.1 hm
    exact h2 j hj hj he
  · rw [h1]
    refine .inr ⟨p.drop (i + 1), ?_, fun hm => ?_⟩
    · have := List.take_append_drop i p
      rw [List.drop_eq_getElem_cons h, h3] at this
      exact this.symm
    · obtain ⟨j, hj, he⟩ := List.mem_iff_getElem.1 hm
      rw [List.getElem_drop] at he
      rw [List.length_drop] at hj
      exact h4 (i + 1 + j) (by omega) (by omega) (by omega) he
theorem slash_unique {d n d' n' : List UInt8} (h : d ++ 47 :: n = d' ++ 47 :: n') (hn : 47 ∉ n) (hn' : 47 ∉ n') : d = d' ∧ n = n' := by
  rcases List.append_eq_append_iff.1 h with ⟨c, h1, h2⟩ | ⟨c, h1, h2⟩
  · cases c with
    | nil => simp at h1 h2; exact ⟨h1.symm, h2⟩
    | cons x c =>
      simp only [List.cons_append, List.cons.injEq] at h2
      exact absurd (by rw [h2.2]; simp) hn
  · cases c with
    | nil => simp at h1 h2; exact ⟨h1, h2.symm⟩
    | cons x c =>
      simp only [List.cons_append, List.cons.injEq] at h2
      exact absurd (by rw [h2.2]; simp) hn'
theorem dir_of {d n : List UInt8} (hn : 47 ∉ n) : dirOfR (d ++ 47 :: n) = d := by
  rcases dir_spec (d ++ 47 :: n) with ⟨_, h⟩ | ⟨m, h, hm⟩
  · exact absurd (by simp) h
  · exact ((slash_unique h hn hm).1).symm
theorem dir_cases {p : List UInt8} (h : dirOfR p ≠ []) : ∃ n, p = dirOfR p ++ 47 :: n ∧ 47 ∉ n := by
  rcases dir_spec p with ⟨h1, _⟩ | h1
  · exact absurd h1 h
  · exact h1
theorem below_mk {a r : List UInt8} (ha : a ≠ []) : belowR a (a ++ 47 :: r) = true := by
  unfold belowR
  rw [if_neg (by simpa using ha)]
  cases r with
  | nil => simp
  | cons b r =>
    have h1 : decide (((a ++ 47 :: b :: r).length : Int) > a.length + 1) = true := by simp; omega
    have h2 : (a ++ 47 :: b :: r).take (a.length + 1) = a ++ [47] := by
      rw [List.take_append]; simp [List.take_of_length_le]
    rw [h1, h2]; simp
theorem below_iff {a q : List UInt8} (ha : a ≠ []) : belowR a q = true ↔ ∃ r, q = a ++ 47 :: r := ⟨belowR_eq ha, fun ⟨_, h⟩ => h ▸ below_mk ha⟩
theorem below_dir {a q : List UInt8} (ha : a ≠ []) (hd : dirOfR q ≠ []) (h : dirOfR q = a ∨ belowR a (dirOfR q) = true) : belowR a q = true := by
  obtain ⟨n, hn, _⟩ := dir_cases hd
  rcases h with h | h
  · rw [hn, h]; exact below_mk ha
  · obtain ⟨r, hr⟩ := belowR_eq ha h
    rw [hn, hr, List.append_assoc]; exact below_mk ha
theorem below_up {a q : List UInt8} (ha : a ≠ []) (h : belowR a q = true) : dirOfR q = a ∨ belowR a (dirOfR q) = true := by
  obtain ⟨r, hr⟩ := belowR_eq ha h
  rcases dir_spec q with ⟨_, h1⟩ | ⟨n, h1, h2⟩
  · exact absurd (by rw [hr]; simp) h1
  · rw [hr] at h1
    rcases List.append_eq_append_iff.1 h1 with ⟨c, e1, e2⟩ | ⟨c, e1, e2⟩
    · cases c with
      | nil => left; rw [hr]; simpa using e1
      | cons x c =>
        simp only [List.cons_append, List.cons.injEq] at e2
        right
        rw [hr, e1, ← e2.1]; exact below_mk ha
    · cases c with
      | nil => left; rw [hr]; simpa using e1.symm
      | cons x c =>
        simp only [List.cons_append, List.cons.injEq] at e2
        exact absurd (by rw [e2.2]; simp) h2
theorem dir_lt {p : List UInt8} (h : dirOfR p ≠ []) : (dirOfR p).length < p.length := by
  obtain ⟨n, hn, _⟩ := dir_cases h
  have := congrArg List.length hn
  simp only [List.length_append, List.length_cons] at this
  omega

theorem getR_filter (g : List UInt8 → Bool) (q : List UInt8) : ∀ t : List It, getR (t.filter fun x => g x.p) q = if g q then getR t q else none
  | [] => by simp [getR]
  | x :: r => by
    rw [List.filter_cons]
    by_cases hx : x.p = q
    · subst hx
      cases hg : g x.p
      · simp only [hg, Bool.false_eq_true, if_false]
        have := getR_filter g x.p r
        simpa [hg] using this
      · simp [hg, getR]
    · have hb : (x.p == q) = false := by simpa using hx
      split
      · simp only [getR, hb, Bool.false_eq_true, if_false]; exact getR_filter g q r
      · simp only [getR, hb, Bool.false_eq_true, if_false]; exact getR_filter g q r
theorem removeR_filter (t : List It) (p : List UInt8) : removeR t p = t.filter fun x => !(x.p == p) && !belowR p x.p := by
  unfold removeR dropR noneBelow
  rw [List.filter_filter]
theorem getR_remove (t : List It) (p q : List UInt8) : getR (removeR t p) q = if (!(q == p) && !belowR p q) then getR t q else none := by
  rw [removeR_filter]; exact getR_filter (fun q => !(q == p) && !belowR p q) q t
theorem getR_noneBelow (t : List It) (p q : List UInt8) : getR (noneBelow t p) q = if !belowR p q then getR t q else none := getR_filter (fun q => !belowR p q) q t
theorem getR_drop_ne {p q : List UInt8} (h : (q == p) = false) (t : List It) : getR (dropR t p) q = getR t q := by
  unfold dropR
  rw [getR_filter (fun q => !(q == p)) q t, h]; rfl
theorem getR_setL {p q : List UInt8} {n : Nd} : ∀ t : List It, getR (setL p n false t) q = if q == p then some n else getR t q
  | [] => by
    simp only [setL, Bool.false_eq_true, if_false, getR]
    rw [show (p == q) = (q == p) from BEq.comm]
  | x :: r => by
    have hc : (p == q) = (q == p) := BEq.comm
    simp only [setL, Bool.not_false, Bool.true_and, Bool.false_or]
    cases hb : bltL x.p p
    · simp only [Bool.not_false, if_true, List.singleton_append, getR, hc, setL_true]
      cases hq : q == p
      · simp only [Bool.false_eq_true, if_false]
        have hd := getR_drop_ne hq r
        cases hx : x.p == p
        · simp only [Bool.not_false, if_true, List.singleton_append, getR, hd]
        · have hxq : (x.p == q) = false := by
            rw [eq_of_beq hx, hc]; exact hq
          simp only [Bool.not_true, Bool.false_eq_true, if_false, List.nil_append, hd, hxq]
      · rfl
    · have ih := getR_setL (p := p) (q := q) (n := n) r
      have hx : (x.p == p) = false := blt_ne hb
      simp only [Bool.not_true, Bool.false_eq_true, if_false, List.nil_append, hx, Bool.not_false, if_true, List.singleton_append, getR, ih]
      cases hq : q == p
      · rfl
      · have hxq : (x.p == q) = false := by rw [eq_of_beq hq]; exact hx
        simp [hxq]
theorem getR_setR {p q : List UInt8} {n : Nd} (t : List It) : getR (setR t p n) q = if q == p then some n else getR t q := getR_setL t
theorem isDir_some {t : List It} {q : List UInt8} (hq : q ≠ []) (h : isDirR t q = true) : ∃ m, getR t q = some m ∧ m.k = 2 := by
  unfold isDirR at h
  have : (q == []) = false := by simpa using hq
  rw [this, Bool.false_or] at h
  cases hg : getR t q with
  | none => rw [hg] at h; cases h
  | some m => rw [hg] at h; exact ⟨m, rfl, by simpa using h⟩
theorem isDir_mk {t : List It} {q : List UInt8} {m : Nd} (h : getR t q = some m) (hk : m.k = 2) : isDirR t q = true := by
  unfold isDirR; rw [h]; simp [hk]
theorem Par.remove {t : List It} (h : Par t) (hne : ∀ x ∈ t, x.p ≠ []) (p : List UInt8) : Par (removeR t p) := by
  intro x hx
  rw [removeR_filter, List.mem_filter] at hx
  obtain ⟨hx, hg⟩ := hx
  by_cases hq : dirOfR x.p = []
  · rw [hq]; rfl
  obtain ⟨m, h1, h2⟩ := isDir_some hq (h x hx)
  refine isDir_mk (m := m) ?_ h2
  rw [getR_remove, h1]
  simp only [Bool.and_eq_true, Bool.not_eq_true'] at hg
  by_cases hp : p = []
  · subst hp
    have := hne x hx
    simp [belowR, this] at hg
  have k1 : (dirOfR x.p == p) = false := by
    cases hc : dirOfR x.p == p
    · rfl
    · rw [below_dir hp hq (.inl (eq_of_beq hc))] at hg; cases hg.2
  have k2 : belowR p (dirOfR x.p) = false := by
    cases hc : belowR p (dirOfR x.p)
    · rfl
    · rw [below_dir hp hq (.inr hc)] at hg; cases hg.2
  rw [k1, k2]; rfl
theorem Par.set {t u : List It} {p : List UInt8} {n : Nd} (h : Par t) (hp : p ≠ []) (hd : isDirR t (dirOfR p) = true) (hu : u = if n.k != 2 then noneBelow t p else t) : Par (setR u p n) := by
  have key : ∀ q, q ≠ [] → q ≠ p → (n.k ≠ 2 → belowR p q = false) → ∀ m, getR t q = some m → getR (setR u p n) q = some m := by
    intro q h0 h1 h2 m hm
    rw [getR_setR]
    have : (q == p) = false := by simpa using h1
    rw [this, hu]
    simp only [Bool.false_eq_true, if_false]
    split
    · rename_i hk
      rw [getR_noneBelow, h2 (by simpa using hk)]; simpa using hm
    · exact hm
  intro x hx
  by_cases hq : dirOfR x.p = []
  · rw [hq]; rfl
  rcases setL_mem hx with rfl | hx
  · obtain ⟨m, h1, h2⟩ := isDir_some hq hd
    have hlt := dir_lt hq
    simp only at hq hlt ⊢
    refine isDir_mk (key _ hq (fun e => by rw [e] at hlt; omega) (fun _ => ?_) m h1) h2
    cases hb : belowR p (dirOfR p)
    · rfl
    · have := belowR_len hb; omega
  · have hxt : x ∈ t ∧ (n.k ≠ 2 → belowR p x.p = false) := by
      rw [hu] at hx
      split at hx
      · have := List.mem_filter.1 hx
        exact ⟨this.1, fun _ => by simpa using this.2⟩
      · rename_i hk
        exact ⟨hx, fun h => absurd (by simpa using h) hk⟩
    obtain ⟨m, h1, h2⟩ := isDir_some hq (h x hxt.1)
    by_cases he : dirOfR x.p = p
    · have hk : n.k = 2 := by
        rcases Decidable.em (n.k = 2) with h | h
        · exact h
        · have h3 := hxt.2 h
          rw [below_dir hp hq (.inl he)] at h3; cases h3
      refine isDir_mk (m := n) ?_ hk
      rw [getR_setR, he]; simp
    · refine isDir_mk (key _ hq he (fun hk => ?_) m h1) h2
      have h3 := hxt.2 hk
      cases hb : belowR p (dirOfR x.p)
      · rfl
      · rw [below_dir hp hq (.inr hb)] at h3; cases h3

theorem par_up {t : List It} {b : List UInt8} (h : Par t) (hb : b ≠ []) : ∀ (n : Nat) (q : List UInt8), q.length ≤ n → (getR t q).isSome = true → belowR b q = true → (getR t b).isSome = true
  | 0, q, hl, _, hq => by
    have h1 : q = [] := by simpa using hl
    subst h1
    have h2 := belowR_len hq
    have : b = [] := by simpa using h2
    exact absurd this hb
  | n + 1, q, hl, hs, hq => by
    obtain ⟨m, hm⟩ := Option.isSome_iff_exists.1 hs
    obtain ⟨x, hx, rfl, _⟩ := getR_mem hm
    have hdx := h x hx
    rcases below_up hb hq with h1 | h1
    · rw [h1] at hdx
      obtain ⟨m, h2, _⟩ := isDir_some hb hdx
      rw [h2]; rfl
    · have h0 : dirOfR x.p ≠ [] := by
        intro h0
        rw [h0] at h1
        have := belowR_len h1
        have : b = [] := by simpa using this
        exact absurd this hb
      obtain ⟨m, h2, _⟩ := isDir_some h0 hdx
      have hlt := dir_lt h0
      exact par_up h hb n _ (by omega) (by rw [h2]; rfl) h1
theorem moveL_mem {a b : List UInt8} {z : It} : ∀ {t out : List It}, (moveL a b out t).2 = 0 → z ∈ (moveL a b out t).1 → z ∈ out ∨ ∃ y ∈ t, mvd a y = true ∧ z = ⟨b ++ y.p.drop a.length, y.n⟩
  | [], out, _, h => .inl h
  | x :: r, out, h0, h => by
    rw [moveL] at h0 h
    split at h0
    · rename_i hc
      rw [if_pos hc] at h
      rcases moveL_mem h0 h with h | ⟨y, hy, h⟩
      · exact .inl h
      · exact .inr ⟨y, List.mem_cons_of_mem _ hy, h⟩
    · rename_i hc
      split at h0
      · cases h0
      · rename_i hl
        rw [if_neg hc, if_neg hl] at h
        have hm : mvd a x = true := by
          have hc2 : (!(x.p == a) && !belowR a x.p) = false := by simpa only [Bool.not_eq_true] using hc
          rw [mvd, hc2]; rfl
        rcases moveL_mem h0 h with h | ⟨y, hy, h⟩
        · rcases setL_mem h with rfl | h
          · exact .inr ⟨x, List.mem_cons_self, hm, rfl⟩
          · exact .inl h
        · exact .inr ⟨y, List.mem_cons_of_mem _ hy, h⟩
theorem mvd_form {a : List UInt8} (ha : a ≠ []) {y : It} (h : mvd a y = true) : ∃ s, y.p = a ++ s ∧ (s = [] ∨ ∃ r, s = 47 :: r) := by
  unfold mvd at h
  simp only [Bool.not_eq_true', Bool.and_eq_false_iff, Bool.not_eq_false'] at h
  rcases h with h | h
  · exact ⟨[], by rw [List.append_nil]; exact eq_of_beq h, .inl rfl⟩
  · obtain ⟨r, hr⟩ := belowR_eq ha h
    exact ⟨47 :: r, hr, .inr ⟨r, rfl⟩⟩
/-- A path that no moved item takes reads as it did; the path that a moved item takes reads as it. -/
theorem moveL_get {a b : List UInt8} (ha : a ≠ []) {q : List UInt8} : ∀ {t out : List It}, (moveL a b out t).2 = 0 → (∀ y ∈ t, mvd a y = true → b ++ y.p.drop a.length ≠ q) → getR (moveL a b out t).1 q = getR out q
  | [], _, _, _ => rfl
  | x :: r, out, h0, h => by
    have hr : ∀ y ∈ r, mvd a y = true → b ++ y.p.drop a.length ≠ q := fun y hy => h y (List.mem_cons_of_mem _ hy)
    rw [moveL] at h0 ⊢
    split at h0
    · rename_i hc; rw [if_pos hc]; exact moveL_get ha h0 hr
    · rename_i hc
      split at h0
      · cases h0
      · rename_i hl
        rw [if_neg hc, if_neg hl, moveL_get ha h0 hr, getR_setR]
        have hm : mvd a x = true := by
          have hc2 : (!(x.p == a) && !belowR a x.p) = false := by simpa only [Bool.not_eq_true] using hc
          rw [mvd, hc2]; rfl
        have := h x List.mem_cons_self hm
        have e : (q == b ++ x.p.drop a.length) = false := by simpa using fun e => this e.symm
        rw [e]; rfl
theorem moveL_got {a b : List UInt8} (ha : a ≠ []) {y : It} (hm : mvd a y = true) : ∀ {t out : List It}, Srt t → (moveL a b out t).2 = 0 → y ∈ t → getR (moveL a b out t).1 (b ++ y.p.drop a.length) = some y.n
  | x :: r, out, hs, h0, hy => by
    obtain ⟨hs1, hs2⟩ := List.pairwise_cons.1 hs
    rw [moveL] at h0 ⊢
    split at h0
    · rename_i hc
      rw [if_pos hc]
      rcases List.mem_cons.1 hy with rfl | hy
      · unfold mvd at hm; rw [hc] at hm; cases hm
      · exact moveL_got ha hm hs2 h0 hy
    · rename_i hc
      split at h0
      · cases h0
      · rename_i hl
        rw [if_neg hc, if_neg hl]
        rcases List.mem_cons.1 hy with rfl | hy
        · rw [moveL_get ha h0, getR_setR]; · simp
          intro z hz hmz he
          obtain ⟨s, e1, _⟩ := mvd_form ha hm
          obtain ⟨s', e2, _⟩ := mvd_form ha hmz
          rw [e1, e2] at he
          simp only [List.drop_left, List.append_cancel_left_eq] at he
          have h1 := hs1 z hz
          rw [e1, e2, he, blt_irrefl] at h1; cases h1
        · exact moveL_got ha hm hs2 h0 hy
theorem Par.move {t : List It} {a b : List UInt8} (h : Par t) (hs : Srt t) (hne : ∀ x ∈ t, x.p ≠ []) (ha : a ≠ []) (hb : b ≠ []) (hab : belowR a b = false) (hbt : (getR t b).isSome = false) (hdb : isDirR t (dirOfR b) = true) (haa : a ≠ b)
    (h0 : (moveL a b (removeR t a) t).2 = 0) : Par (moveL a b (removeR t a) t).1 := by
  -- what stays reads as it did
  have stay : ∀ q m, q ≠ [] → getR t q = some m → (q == a) = false → belowR a q = false → getR (moveL a b (removeR t a) t).1 q = some m := by
    intro q m hq hm h1 h2
    rw [moveL_get ha h0, getR_remove, h1, h2]; · simpa using hm
    intro y hy hmy he
    obtain ⟨s, e1, e2⟩ := mvd_form ha hmy
    rw [e1, List.drop_left] at he
    rcases e2 with rfl | ⟨r, rfl⟩
    · rw [List.append_nil] at he
      subst he
      rw [hm] at hbt; cases hbt
    · have := par_up h hb q.length q (Nat.le_refl _) (by rw [hm]; rfl) (by rw [← he]; exact below_mk hb)
      rw [this] at hbt; cases hbt
  have up : ∀ x ∈ t, (x.p == a) = false → belowR a x.p = false → isDirR (moveL a b (removeR t a) t).1 (dirOfR x.p) = true := by
    intro x hx h1 h2
    by_cases hq : dirOfR x.p = []
    · rw [hq]; rfl
    obtain ⟨m, k1, k2⟩ := isDir_some hq (h x hx)
    refine isDir_mk (stay _ m hq k1 ?_ ?_) k2
    · cases hc : dirOfR x.p == a
      · rfl
      · rw [below_dir ha hq (.inl (eq_of_beq hc))] at h2; cases h2
    · cases hc : belowR a (dirOfR x.p)
      · rfl
      · rw [below_dir ha hq (.inr hc)] at h2; cases h2
  intro z hz
  rcases moveL_mem h0 hz with hz | ⟨y, hy, hm, rfl⟩
  · rw [removeR_filter, List.mem_filter] at hz
    obtain ⟨hz, hg⟩ := hz
    simp only [Bool.and_eq_true, Bool.not_eq_true'] at hg
    exact up z hz hg.1 hg.2
  · obtain ⟨s, e1, e2⟩ := mvd_form ha hm
    simp only [e1, List.drop_left]
    rcases e2 with rfl | ⟨r, rfl⟩
    · rw [List.append_nil]
      by_cases hq : dirOfR b = []
      · rw [hq]; rfl
      obtain ⟨m, k1, k2⟩ := isDir_some hq hdb
      refine isDir_mk (stay _ m hq k1 ?_ ?_) k2
      · cases hc : dirOfR b == a
        · rfl
        · rw [below_dir ha hq (.inl (eq_of_beq hc))] at hab; cases hab
      · cases hc : belowR a (dirOfR b)
        · rfl
        · rw [below_dir ha hq (.inr hc)] at hab; cases hab
    · -- below what was moved
      have hby : belowR a y.p = true := by rw [e1]; exact below_mk ha
      have hq : dirOfR y.p ≠ [] := by
        rcases below_up ha hby with h1 | h1
        · rw [h1]; exact ha
        · intro h2
          rw [h2] at h1
          have := belowR_len h1
          have : a = [] := by simpa using this
          exact absurd this ha
      obtain ⟨m, k1, k2⟩ := isDir_some hq (h y hy)
      obtain ⟨w, hw, hwp, hwn⟩ := getR_mem k1
      have hmw : mvd a w = true := by
        unfold mvd
        rw [hwp]
        rcases below_up ha hby with h1 | h1
        · rw [h1]; simp
        · rw [h1]; simp
      have hgot := moveL_got (b := b) (out := removeR t a) ha hmw hs h0 hw
      obtain ⟨s', e3, _⟩ := mvd_form ha hmw
      obtain ⟨n, hn, hn47⟩ := dir_cases hq
      have he : dirOfR (b ++ 47 :: r) = b ++ w.p.drop a.length := by
        rw [e3, List.drop_left]
        rw [hwp] at e3
        rw [e3, e1, List.append_assoc] at hn
        have hn2 : (47 :: r : List UInt8) = s' ++ 47 :: n := List.append_cancel_left hn
        rw [hn2, ← List.append_assoc]
        exact dir_of hn47
      rw [he]
      exact isDir_mk hgot (by rw [hwn]; exact k2)
end Go.Dm
end

section
namespace Go.Dm
open Go
structure OkT (t : List It) : Prop extends OkT0 t where
  par : Par t
theorem OkT.nil : OkT [] := ⟨OkT0.nil, fun x h => by simp at h⟩
theorem OkT.ne {t : List It} (h : OkT t) : ∀ x ∈ t, x.p ≠ [] := fun x hx => (h.its x hx).1
theorem OkT.plen {t : List It} (h : OkT t) : ∀ x ∈ t, x.p.length ≤ 120 := h.toOkT0.plen
theorem OkT.dlen {t : List It} (h : OkT t) : ∀ x ∈ t, x.n.d.length ≤ 2000 := h.toOkT0.dlen
theorem OkT.tlen {t : List It} (h : OkT t) : ∀ x ∈ t, x.n.t < 18446744073709551616 := h.toOkT0.tlen
theorem OkT.remove {t : List It} (h : OkT t) (p : List UInt8) : OkT (removeR t p) := ⟨h.toOkT0.remove p, h.par.remove h.ne p⟩
theorem OkT.put {t : List It} {p : List UInt8} {n : Nd} (h : OkT t) (hnt : n.t < 18446744073709551616) (he : (putR t p n).2 = 0) : OkT (putR t p n).1 := by
  refine ⟨h.toOkT0.put hnt he, ?_⟩
  unfold putR at he ⊢
  generalize hu : (if n.k != 2 then noneBelow t p else t) = u at he ⊢
  split at he
  · cases he
  · rename_i h1
    split at he
    · cases he
    · rename_i h2
      split at he
      · cases he
      · rename_i h3
        rw [if_neg h1, if_neg h2, if_neg h3]
        simp only [Bool.or_eq_true, not_or, beq_iff_eq, Bool.not_eq_true', Bool.not_eq_false] at h1 h2
        exact h.par.set h1.1.1 h2 hu.symm
theorem OkT.move {t : List It} {a b : List UInt8} (h : OkT t) (he : (moveR t a b).2 = 0) : OkT (moveR t a b).1 := by
  refine ⟨h.toOkT0.move he, ?_⟩
  unfold moveR at he ⊢
  split at he
  · cases he
  · rename_i h1
    rw [if_neg h1]
    split at he
    · cases he
    · rename_i h2
      rw [if_neg h2]
      split at he
      · cases he
      · rename_i h3
        rw [if_neg h3]
        split at he
        · cases he
        · rename_i h4
          rw [if_neg h4]
          split at he
          · cases he
          · rename_i h5
            rw [if_neg h5]
            simp only [Bool.or_eq_true, not_or, beq_iff_eq, Bool.not_eq_true', Bool.not_eq_false] at h1 h2 h3 h4 h5
            refine h.par.move h.srt h.ne h1.1.1.1 h1.1.1.2 (by simpa using h3) (by simpa using h4) h5 (fun e => ?_) he
            rw [e] at h2; exact h4 h2
end Go.Dm
end

section
/-
  Raw items; a nil argument as an empty slice. No condition.
-/
namespace Go.Dm
open Go

theorem swp_sl {P : Program} {X0 : Ctx} {s : DS} {Q : Exit → DS → Prop} {c : Code} (i k : Nat) (hn : look s.t i = .c (.p .nil)) (h : SWP P X0 c ⟨s.n, (i, .c (.p (.sl k []))) :: s.t, s.h⟩ Q) : SWP P X0 c s Q := by
  intro gd X a hh hi hs ht
  refine h gd X a hh hi hs ⟨ht.size, fun j => ?_, ht.defs⟩
  simp only [look]
  split
  · rename_i hij
    subst hij
    have := ht.rel j
    rw [hn] at this
    exact wkD.rel (x := .c (.p .nil)) (y := .c (.p (.sl k []))) wkP_nil this
  · exact ht.rel j
theorem vc_sl {P : Program} {X0 : Ctx} {n : Nat} {t : Fr} {h : DHeap} {Q : Exit → DS → Prop} {c : Code} (i k : Nat) (hn : look t i = .c (.p .nil)) (hd : SWP P X0 c ⟨n, (i, .c (.p (.sl k []))) :: t, h⟩ Q) : SWP P X0 c ⟨n, t, h⟩ Q :=
  swp_sl i k hn hd

def wkDs : List DV → List DV → Prop
  | [], [] => True
  | x :: xs, y :: ys => wkD x y ∧ wkDs xs ys
  | _, _ => False
theorem wkDs.rel {X : Ctx} : ∀ {xs ys : List DV} {vs : List Value}, wkDs xs ys → RelDs X xs vs → RelDs X ys vs
  | [], [], _, _, h => h
  | _ :: _, _ :: _, _ :: _, h, hr => ⟨wkD.rel h.1 hr.1, wkDs.rel h.2 hr.2⟩
  | _ :: _, _ :: _, [], _, hr => hr.elim
/-- A raw item. -/
structure RI where
  p : Int
  n : RN
def RI.cs (x : RI) : List PV := [.i .i64 x.p, .i .i64 x.n.k, .i .i64 x.n.m, .i .i64 x.n.t, .f x.n.x, .sl 1 (encB x.n.d)]
def encI (l : List RI) : List (List PV) := l.map RI.cs
theorem encI_len (l : List RI) : (encI l).length = l.length := by simp [encI]
theorem encI_one (t : List RI) : (∀ x ∈ encI t, x.length = 6) = True := eq_true fun x hx => by
  simp only [encI, List.mem_map] at hx
  obtain ⟨y, _, rfl⟩ := hx
  rfl
/-- A raw turn. -/
structure RU where
  what : Int
  at' : Int
  to' : Int
  n : RN
def RU.cs (x : RU) : List PV := [.i .i64 x.what, .i .i64 x.at', .i .i64 x.to', .i .i64 x.n.k, .i .i64 x.n.m, .i .i64 x.n.t, .f x.n.x, .sl 1 (encB x.n.d)]
def encU (l : List RU) : List (List PV) := l.map RU.cs
theorem encU_len (l : List RU) : (encU l).length = l.length := by simp [encU]
theorem encU_one (t : List RU) : (∀ x ∈ encU t, x.length = 8) = True := eq_true fun x hx => by
  simp only [encU, List.mem_map] at hx
  obtain ⟨y, _, rfl⟩ := hx
  rfl
theorem rn_eta (x : RN) : RN.mk x.k x.m x.t x.x x.d = x := rfl
attribute [go_sem] rn_eta encI_len encI_one encU_len encU_one
/-- A change. -/
structure Ch where
  p : List UInt8
  k : Int
  o : Nd
  n : Nd
def Ch.cs (x : Ch) : List PV := [.s x.p, .i .i64 x.k, .i .i64 x.o.k, .i .i64 x.o.m, .f x.o.t, .sl 1 (encB x.o.d), .i .i64 x.n.k, .i .i64 x.n.m, .f x.n.t, .sl 1 (encB x.n.d)]
def encC (l : List Ch) : List (List PV) := l.map Ch.cs
theorem encC_len (l : List Ch) : (encC l).length = l.length := by simp [encC]
theorem encC_nil : encC [] = [] := rfl
theorem encC_app (a b : List Ch) : encC a ++ encC b = encC (a ++ b) := by simp [encC]
theorem encC_take (a : List Ch) (n : Nat) : (encC a).take n = encC (a.take n) := by simp [encC]
theorem encC_drop (a : List Ch) (n : Nat) : (encC a).drop n = encC (a.drop n) := by simp [encC]
theorem encC_one (t : List Ch) : (∀ x ∈ encC t, x.length = 10) = True := eq_true fun x hx => by
  simp only [encC, List.mem_map] at hx
  obtain ⟨y, _, rfl⟩ := hx
  rfl
theorem encC_snoc (t : List Ch) (p : List UInt8) (k k1 m1 k2 m2 : Int) (t1 t2 : Nat) (d1 d2 : List UInt8) : encC t ++ [[.s p, .i .i64 k, .i .i64 k1, .i .i64 m1, .f t1, .sl 1 (encB d1), .i .i64 k2, .i .i64 m2, .f t2, .sl 1 (encB d2)]] = encC (t ++ [⟨p, k, ⟨k1, m1, t1, d1⟩, ⟨k2, m2, t2, d2⟩⟩]) := by simp [encC, Ch.cs]
theorem ch_eta (x : Ch) : Ch.mk x.p x.k x.o x.n = x := rfl
attribute [go_sem] encC_len encC_nil encC_app encC_take encC_drop encC_one encC_snoc ch_eta
end Go.Dm
end
