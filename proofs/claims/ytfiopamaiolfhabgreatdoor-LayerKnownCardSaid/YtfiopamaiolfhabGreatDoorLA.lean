import Derived.Test.YtfiopamaiolfhabGreatDoorSU
import Derived.Test.YtfiopamaiolfhabGreatDoorSD
import Derived.Test.YtfiopamaiolfhabGreatDoorSC
import Derived.Test.YtfiopamaiolfhabGreatDoorVE

section
/-
  Layers: entries, what one does to a tree, which may be. No program in sight.
-/

set_option linter.unusedSimpArgs false
set_option linter.unusedVariables false
namespace Go.Dm
open Go

structure En where
  p : List UInt8
  k : Int
  o : Bool
  n : Nd
def En.cs (x : En) : List PV := [.s x.p, .i .i64 x.k, .b x.o, .i .i64 x.n.k, .i .i64 x.n.m, .f x.n.t, .sl 1 (encB x.n.d)]
def encE (l : List En) : List (List PV) := l.map En.cs
theorem encE_len (l : List En) : (encE l).length = l.length := by simp [encE]
theorem encE_nil : encE [] = [] := rfl
theorem encE_at {t : List En} {k : Nat} {x : En} (h : t[k]? = some x) : (encE t).getD k [] = [.s x.p, .i .i64 x.k, .b x.o, .i .i64 x.n.k, .i .i64 x.n.m, .f x.n.t, .sl 1 (encB x.n.d)] := by
  simp only [encE, List.getD_eq_getElem?_getD, List.getElem?_map, h]
  rfl
theorem encE_one (t : List En) : (∀ x ∈ encE t, x.length = 7) = True := eq_true fun x hx => by
  obtain ⟨y, _, rfl⟩ := List.mem_map.1 hx
  rfl
theorem encE_take (a : List En) (n : Nat) : (encE a).take n = encE (a.take n) := by simp [encE]
theorem encE_drop (a : List En) (n : Nat) : (encE a).drop n = encE (a.drop n) := by simp [encE]
theorem encE_app (a b : List En) : encE a ++ encE b = encE (a ++ b) := by simp [encE]
theorem encE_snoc (t : List En) (p : List UInt8) (k : Int) (o : Bool) (nk nm : Int) (nt : Nat) (d : List UInt8) : encE t ++ [[.s p, .i .i64 k, .b o, .i .i64 nk, .i .i64 nm, .f nt, .sl 1 (encB d)]] = encE (t ++ [⟨p, k, o, ⟨nk, nm, nt, d⟩⟩]) := by simp [encE, En.cs]
theorem en_eta (x : En) : En.mk x.p x.k x.o x.n = x := rfl
attribute [go_sem] encE_len encE_nil encE_one encE_take encE_drop encE_app encE_snoc en_eta

def shutE (x : En) : Bool := x.k == 2 || x.n.k != 2
def coverE (t : List It) (x : En) : Bool := x.o || (shutE x || !isDirR t x.p)
def goE (t : List It) (x : En) (y : It) : Bool := y.p == x.p || (coverE t x && belowR x.p y.p)
def leftE (t : List It) (x : En) : List It := t.filter fun y => !goE t x y
def over1 (t : List It) (x : En) : List It := if x.k == 2 then leftE t x else setR (leftE t x) x.p x.n
def overs (t : List It) (l : List En) : List It := l.foldl over1 t
def overF (t : List It) (l : List En) : List It × Bool := if rightT (overs t l) then (overs t l, true) else ([], false)

theorem leftE_srt {t : List It} (h : Srt t) (x : En) : Srt (leftE t x) := h.filter _
theorem over1_srt {t : List It} (h : Srt t) (x : En) : Srt (over1 t x) := by
  unfold over1; split
  · exact leftE_srt h x
  · exact setR_srt (leftE_srt h x)
theorem overs_srt : ∀ {l : List En} {t : List It}, Srt t → Srt (overs t l)
  | [], _, h => h
  | x :: l, t, h => overs_srt (l := l) (over1_srt h x)
theorem leftE_len (t : List It) (x : En) : (leftE t x).length ≤ t.length := List.length_filter_le ..
theorem over1_len (t : List It) (x : En) : (over1 t x).length ≤ t.length + 1 := by
  have := leftE_len t x
  have := setR_len (leftE t x) x.p x.n
  unfold over1; split <;> omega
theorem leftE_no {t : List It} {x : En} : ∀ y ∈ leftE t x, (y.p == x.p) = false := fun y hy => by
  have := (List.mem_filter.1 hy).2
  simp only [goE, Bool.not_eq_true', Bool.or_eq_false_iff] at this
  exact this.1
theorem over1_mem {t : List It} {x : En} {y : It} (h : y ∈ over1 t x) : y = ⟨x.p, x.n⟩ ∨ y ∈ t := by
  unfold over1 at h
  split at h
  · exact .inr (List.mem_filter.1 h).1
  · rcases setL_mem h with h | h
    · exact .inl h
    · exact .inr (List.mem_filter.1 h).1

/-! As the document says it. -/
end Go.Dm
namespace Go.Dm
open Go
/-- May an entry be, alone? -/
def mayE (x : En) : Bool := !(x.p == []) && (isPathR x.p && (if x.k == 2 then !x.o && zeroN x.n else (x.k == 1 && rightNodeR x.n) && (!x.o || x.n.k == 2)))
/-- A layer that may be. -/
structure OkE (l : List En) : Prop where
  may : ∀ x ∈ l, mayE x = true
  srt : l.Pairwise fun x y => bltL x.p y.p = true
  open_ : l.Pairwise fun y x => (shutE y && belowR y.p x.p) = false
  tlen : ∀ x ∈ l, x.n.t < 18446744073709551616
  len : l.length ≤ 1000
theorem OkE.plen {l : List En} (h : OkE l) : ∀ x ∈ l, x.p.length ≤ 120 := fun x hx => by
  have := h.may x hx
  simp only [mayE, Bool.and_eq_true] at this
  exact isPathR_len this.2.1
theorem OkE.dlen {l : List En} (h : OkE l) : ∀ x ∈ l, x.n.d.length ≤ 2000 := fun x hx => by
  have := h.may x hx
  simp only [mayE, Bool.and_eq_true] at this
  have h2 := this.2.2
  split at h2
  · simp only [Bool.and_eq_true, zeroN, beq_iff_eq] at h2
    omega
  · simp only [Bool.and_eq_true] at h2
    exact rightNodeR_len h2.1.2
end Go.Dm
namespace Go.Dm
open Go
theorem overs_len (t : List It) (l : List En) : ∀ k, (overs t (l.take k)).length ≤ t.length + k
  | 0 => by simp [overs]
  | k + 1 => by
    have ih := overs_len t l k
    rcases Nat.lt_or_ge k l.length with h | h
    · have e : overs t (l.take (k + 1)) = over1 (overs t (l.take k)) l[k] := by
        unfold overs; rw [List.take_add_one, List.getElem?_eq_getElem h, List.foldl_append]; rfl
      rw [e]
      have := over1_len (overs t (l.take k)) l[k]
      omega
    · rw [List.take_of_length_le (by omega)]
      rw [List.take_of_length_le (by omega)] at ih
      omega
theorem overs_mem {y : It} : ∀ {l : List En} {t : List It}, y ∈ overs t l → y ∈ t ∨ ∃ x ∈ l, y = ⟨x.p, x.n⟩
  | [], _, h => .inl h
  | x :: l, t, h => by
    rcases overs_mem (l := l) (t := over1 t x) h with h | ⟨z, hz, e⟩
    · rcases over1_mem h with h | h
      · exact .inr ⟨x, List.mem_cons_self, h⟩
      · exact .inl h
    · exact .inr ⟨z, List.mem_cons_of_mem _ hz, e⟩
end Go.Dm

end

section
/-
  Layers, one over the other. No program in sight.
-/

set_option linter.unusedSimpArgs false
set_option linter.unusedVariables false
namespace Go.Dm
open Go
def encL (ls : List (List En)) : List (List PV) := ls.map fun l => [.sl 7 (encE l)]
theorem encL_len (ls : List (List En)) : (encL ls).length = ls.length := by simp [encL]
theorem encL_nil : encL [] = [] := rfl
theorem encL_one (t : List (List En)) : (∀ x ∈ encL t, x.length = 1) = True := eq_true fun x hx => by
  obtain ⟨y, _, rfl⟩ := List.mem_map.1 hx
  rfl
theorem encL_take (a : List (List En)) (n : Nat) : (encL a).take n = encL (a.take n) := by simp [encL]
theorem encL_drop (a : List (List En)) (n : Nat) : (encL a).drop n = encL (a.drop n) := by simp [encL]
theorem encL_app (a b : List (List En)) : encL a ++ encL b = encL (a ++ b) := by simp [encL]
theorem encL_snoc (t : List (List En)) (l : List En) : encL t ++ [[.sl 7 (encE l)]] = encL (t ++ [l]) := by simp [encL]
attribute [go_sem] encL_len encL_nil encL_one encL_take encL_drop encL_app encL_snoc

/-! As the document folds and lays over: the same. -/
end Go.Dm

end

section
/-
  Layers: the layer that makes one tree of another, as the document makes it. No program in sight.
-/

set_option linter.unusedSimpArgs false
set_option linter.unusedVariables false
namespace Go.Dm
open Go

def isB (l : List (List UInt8)) (p : List UInt8) : Bool := l.any fun q => q == p
def hasDirB (t : List It) (p : List UInt8) : Bool := !(p == []) && isDirR t p
def staysB (t w : List It) (p : List UInt8) : Bool := t.any fun y => (getR w y.p).isSome && belowR p y.p
def opqB (t w : List It) (x : It) : Bool := (x.n.k == 2 && (hasDirB t x.p && !decide (((namesF t x.p).length : Int) < 2))) && !staysB t w x.p
def opqM (t w : List It) : List (List UInt8) := (w.filter (opqB t w)).map fun x => x.p
def putM (t : List It) (os : List (List UInt8)) (x : It) : List En :=
  if isB os x.p then [⟨x.p, 1, true, x.n⟩] else if (!(getR t x.p).isSome || !sameNd ((getR t x.p).getD nd0) x.n) then [⟨x.p, 1, false, x.n⟩] else []
def putsM (t : List It) (os : List (List UInt8)) (w : List It) : List En := w.flatMap (putM t os)
def covF (w : List It) (os : List (List UInt8)) : Nat → List UInt8 → Bool
  | 0, _ => false
  | n + 1, q => if q == [] then false else if (!(getR w q).isSome || (((getR w q).getD nd0).k != 2 || isB os q)) then true else covF w os n (dirOfR q)
def covM (w : List It) (os : List (List UInt8)) (p : List UInt8) : Bool := covF w os p.length (dirOfR p)
def entN (l : List En) (p : List UInt8) : Nat := (l.takeWhile fun x => bltL x.p p).length
def entM (l : List En) (e : En) : List En := l.take (entN l e.p) ++ e :: l.drop (entN l e.p)
def goneE (p : List UInt8) : En := ⟨p, 2, false, nd0⟩
def goneM (w : List It) (os : List (List UInt8)) (out : List En) (y : It) : List En :=
  if ((getR w y.p).isSome || covM w os y.p) then out else entM out (goneE y.p)
def makeF (t w : List It) : List En := t.foldl (goneM w (opqM t w)) (putsM t (opqM t w) w)

theorem dir_le (p : List UInt8) : (dirOfR p).length ≤ p.length := by
  by_cases h : dirOfR p = []
  · rw [h]; exact Nat.zero_le _
  · exact Nat.le_of_lt (dir_lt h)
theorem entN_le (l : List En) (p : List UInt8) : entN l p ≤ l.length := (List.takeWhile_sublist _).length_le
theorem entM_len (l : List En) (e : En) : (entM l e).length = l.length + 1 := by
  have := entN_le l e.p
  simp only [entM, List.length_append, List.length_cons, List.length_take, List.length_drop]
  omega
theorem putM_len (t : List It) (os : List (List UInt8)) (x : It) : (putM t os x).length ≤ 1 := by
  unfold putM; split
  · exact Nat.le_refl _
  · split
    · exact Nat.le_refl _
    · exact Nat.zero_le _
theorem putsM_len (t : List It) (os : List (List UInt8)) : ∀ w : List It, (putsM t os w).length ≤ w.length
  | [] => Nat.le_refl _
  | x :: w => by
    have h1 := putM_len t os x
    have h2 := putsM_len t os w
    unfold putsM at h2 ⊢
    rw [List.flatMap_cons, List.length_append, List.length_cons]
    omega
theorem putsM_next {t : List It} {os : List (List UInt8)} {w : List It} {k : Nat} {x : It} (h : w[k]? = some x) : putsM t os (w.take (k + 1)) = putsM t os (w.take k) ++ putM t os x := by
  unfold putsM
  rw [List.take_add_one, h, List.flatMap_append]
  simp
theorem goneM_len (w : List It) (os : List (List UInt8)) (out : List En) (y : It) : (goneM w os out y).length ≤ out.length + 1 := by
  unfold goneM; split
  · omega
  · rw [entM_len]; omega
theorem covF_more {w : List It} {os : List (List UInt8)} {n : Nat} {q : List UInt8} (h : q ≠ []) : covF w os (n + 1) q = if (!(getR w q).isSome || (((getR w q).getD nd0).k != 2 || isB os q)) then true else covF w os n (dirOfR q) := by
  rw [covF, if_neg (by simpa using h)]
theorem covF_nil {w : List It} {os : List (List UInt8)} : ∀ n : Nat, covF w os n [] = false
  | 0 => rfl
  | n + 1 => by rw [covF]; simp
end Go.Dm

end

section
/-
  Layers: the layer that makes one tree of another is one that may be. No program in sight.
-/

set_option linter.unusedSimpArgs false
set_option linter.unusedVariables false
namespace Go.Dm
open Go

theorem par_kind {t : List It} {b : List UInt8} (h : Par t) (hb : b ≠ []) : ∀ (n : Nat) (q : List UInt8), q.length ≤ n → (getR t q).isSome = true → belowR b q = true → ∃ m, getR t b = some m ∧ (m.k == 2) = true
  | 0, q, hl, _, hq => by
    have h1 : q = [] := by simpa using hl
    subst h1
    have h2 := belowR_len hq
    have : b = [] := by simpa using h2
    exact absurd this hb
  | n + 1, q, hl, hs, hq => by
    obtain ⟨m, hm⟩ := Option.isSome_iff_exists.1 hs
    obtain ⟨x, hx, rfl, _⟩ := getR_mem hm
    have hdx := h x hx
    rcases below_up hb hq with h1 | h1
    · rw [h1] at hdx
      obtain ⟨m, h2, h3⟩ := isDir_some hb hdx
      exact ⟨m, h2, by first | exact h3 | simpa using h3⟩
    · have h0 : dirOfR x.p ≠ [] := by
        intro h0
        rw [h0] at h1
        have := belowR_len h1
        have : b = [] := by simpa using this
        exact absurd this hb
      obtain ⟨m, h2, _⟩ := isDir_some h0 hdx
      have hlt := dir_lt h0
      exact par_kind h hb n _ (by omega) (by rw [h2]; rfl) h1

theorem covF_spec {w : List It} {os : List (List UInt8)} {a : List UInt8} (ha : a ≠ []) : ∀ (n : Nat) (q : List UInt8), q.length ≤ n → covF w os n q = false → (q = a ∨ belowR a q = true) → (∃ m, getR w a = some m ∧ (m.k == 2) = true) ∧ isB os a = false
  | 0, q, hl, _, hq => by
    have h1 : q = [] := by simpa using hl
    subst h1
    rcases hq with hq | hq
    · exact absurd hq.symm ha
    · have h2 := belowR_len hq
      have : a = [] := by simpa using h2
      exact absurd this ha
  | n + 1, q, hl, hc, hq => by
    by_cases h0 : q = []
    · subst h0
      rcases hq with hq | hq
      · exact absurd hq.symm ha
      · have h2 := belowR_len hq
        have : a = [] := by simpa using h2
        exact absurd this ha
    · rw [covF_more h0] at hc
      split at hc
      · cases hc
      · rename_i h1
        simp only [Bool.not_eq_true, Bool.or_eq_false_iff] at h1
        obtain ⟨h2, h3, h4⟩ := h1
        rcases hq with rfl | hq
        · refine ⟨?_, h4⟩
          cases hg : getR w q with
          | none => rw [hg] at h2; simp at h2
          | some m => rw [hg] at h3; exact ⟨m, rfl, by simpa using h3⟩
        · have hdl : (dirOfR q).length ≤ n := by
            by_cases h : dirOfR q = []
            · rw [h]; exact Nat.zero_le _
            · have := dir_lt h; omega
          exact covF_spec ha n _ hdl hc (below_up ha hq)
theorem covM_spec {w : List It} {os : List (List UInt8)} {a p : List UInt8} (ha : a ≠ []) (hc : covM w os p = false) (hb : belowR a p = true) : (∃ m, getR w a = some m ∧ (m.k == 2) = true) ∧ isB os a = false :=
  covF_spec ha _ _ (dir_le p) hc (below_up ha hb)

theorem putsM_mem {t : List It} {os : List (List UInt8)} {w : List It} {e : En} (h : e ∈ putsM t os w) : ∃ x ∈ w, e = ⟨x.p, 1, isB os x.p, x.n⟩ := by
  unfold putsM at h
  obtain ⟨x, hx, h⟩ := List.mem_flatMap.1 h
  refine ⟨x, hx, ?_⟩
  unfold putM at h
  split at h
  · rename_i h1; rw [List.mem_singleton.1 h, h1]
  · rename_i h1
    split at h
    · rw [List.mem_singleton.1 h]; simp only [Bool.not_eq_true] at h1; rw [h1]
    · simp at h

def SrtE (l : List En) : Prop := l.Pairwise fun x y => bltL x.p y.p = true
theorem entM_cons (y : En) (l : List En) (e : En) : entM (y :: l) e = if bltL y.p e.p then y :: entM l e else e :: y :: l := by
  unfold entM entN
  rw [List.takeWhile_cons]
  split <;> simp
theorem entM_nil (e : En) : entM [] e = [e] := rfl
theorem entM_mem {l : List En} {e x : En} : x ∈ entM l e ↔ x ∈ l ∨ x = e := by
  induction l with
  | nil => simp [entM_nil]
  | cons y l ih =>
    rw [entM_cons]
    split
    · rw [List.mem_cons, ih, List.mem_cons, or_assoc]
    · simp only [List.mem_cons]
      constructor
      · rintro (h | h | h)
        · exact .inr h
        · exact .inl (.inl h)
        · exact .inl (.inr h)
      · rintro ((h | h) | h)
        · exact .inr (.inl h)
        · exact .inr (.inr h)
        · exact .inl h
theorem entM_srt {l : List En} {e : En} (h : SrtE l) (hn : ∀ x ∈ l, x.p ≠ e.p) : SrtE (entM l e) := by
  induction l with
  | nil => rw [entM_nil]; exact List.pairwise_singleton _ _
  | cons y l ih =>
    obtain ⟨h1, h2⟩ := List.pairwise_cons.1 h
    rw [entM_cons]
    split
    · rename_i hb
      refine List.pairwise_cons.2 ⟨fun x hx => ?_, ih h2 fun x hx => hn x (List.mem_cons_of_mem _ hx)⟩
      rcases entM_mem.1 hx with hx | rfl
      · exact h1 x hx
      · exact hb
    · rename_i hb
      have hlt : bltL e.p y.p = true := by
        cases hc : bltL e.p y.p
        · exact absurd (blt_tri (by simpa using hb) hc) (hn y List.mem_cons_self)
        · rfl
      refine List.pairwise_cons.2 ⟨fun x hx => ?_, h⟩
      rcases List.mem_cons.1 hx with rfl | hx
      · exact hlt
      · exact blt_trans hlt (h1 x hx)
theorem putsM_srt {t : List It} {os : List (List UInt8)} {w : List It} (h : Srt w) : SrtE (putsM t os w) := by
  induction w with
  | nil => exact List.Pairwise.nil
  | cons x w ih =>
    obtain ⟨h1, h2⟩ := List.pairwise_cons.1 h
    have e : putsM t os (x :: w) = putM t os x ++ putsM t os w := by unfold putsM; rw [List.flatMap_cons]
    rw [e]
    have hl : ∀ y ∈ putM t os x, y.p = x.p := fun y hy => by
      have : y ∈ putsM t os [x] := by unfold putsM; simpa using hy
      obtain ⟨z, hz, e⟩ := putsM_mem this
      rw [List.mem_singleton.1 hz] at e
      rw [e]
    refine List.pairwise_append.2 ⟨?_, ih h2, fun y hy z hz => ?_⟩
    · unfold putM
      split
      · exact List.pairwise_singleton _ _
      · split
        · exact List.pairwise_singleton _ _
        · exact List.Pairwise.nil
    · obtain ⟨v, hv, e⟩ := putsM_mem hz
      rw [hl y hy, e]
      exact h1 v hv

theorem gones_ok {w : List It} {os : List (List UInt8)} : ∀ {r : List It} {out : List En}, Srt r → SrtE out → (∀ e ∈ out, ∀ y ∈ r, (getR w y.p).isSome = false → e.p ≠ y.p) →
    SrtE (r.foldl (goneM w os) out) ∧ ∀ e, e ∈ r.foldl (goneM w os) out ↔ e ∈ out ∨ ∃ y ∈ r, e = goneE y.p ∧ (getR w y.p).isSome = false ∧ covM w os y.p = false
  | [], out, _, h, _ => ⟨h, fun e => by simp⟩
  | y :: r, out, hr, h, hn => by
    obtain ⟨h1, h2⟩ := List.pairwise_cons.1 hr
    rw [List.foldl_cons]
    unfold goneM
    split
    · rename_i hc
      obtain ⟨h3, h4⟩ := gones_ok (w := w) (os := os) h2 h fun e he z hz => hn e he z (List.mem_cons_of_mem _ hz)
      refine ⟨h3, fun e => (h4 e).trans ?_⟩
      constructor
      · rintro (h | ⟨z, hz, h⟩)
        · exact .inl h
        · exact .inr ⟨z, List.mem_cons_of_mem _ hz, h⟩
      · rintro (h | ⟨z, hz, h, h5, h6⟩)
        · exact .inl h
        · rcases List.mem_cons.1 hz with rfl | hz
          · rw [h5, h6] at hc; cases hc
          · exact .inr ⟨z, hz, h, h5, h6⟩
    · rename_i hc
      simp only [Bool.not_eq_true, Bool.or_eq_false_iff] at hc
      have hs := entM_srt (e := goneE y.p) h fun x hx => hn x hx y List.mem_cons_self hc.1
      obtain ⟨h3, h4⟩ := gones_ok (w := w) (os := os) (out := entM out (goneE y.p)) h2 hs fun e he z hz hg => by
        rcases entM_mem.1 he with he | rfl
        · exact hn e he z (List.mem_cons_of_mem _ hz) hg
        · intro e2
          have := h1 z hz
          rw [show (goneE y.p).p = y.p from rfl] at e2
          rw [e2, blt_irrefl] at this
          cases this
      refine ⟨h3, fun e => (h4 e).trans ?_⟩
      rw [entM_mem]
      constructor
      · rintro ((h | h) | ⟨z, hz, h⟩)
        · exact .inl h
        · exact .inr ⟨y, List.mem_cons_self, h, hc⟩
        · exact .inr ⟨z, List.mem_cons_of_mem _ hz, h⟩
      · rintro (h | ⟨z, hz, h⟩)
        · exact .inl (.inl h)
        · rcases List.mem_cons.1 hz with rfl | hz
          · exact .inl (.inr h.1)
          · exact .inr ⟨z, hz, h⟩
theorem gones_len (w : List It) (os : List (List UInt8)) : ∀ (r : List It) (out : List En), (r.foldl (goneM w os) out).length ≤ out.length + r.length
  | [], out => Nat.le_refl _
  | y :: r, out => by
    have h1 := goneM_len w os out y
    have h2 := gones_len w os r (goneM w os out y)
    rw [List.foldl_cons, List.length_cons]
    omega

theorem getR_isNone {w : List It} {p : List UInt8} (h : (getR w p).isSome = false) : ∀ x ∈ w, Srt w → x.p ≠ p := fun x hx hs e => by
  rw [← e, getR_self hs hx] at h
  cases h

theorem make_mem {t w : List It} (ht : OkT t) (hw : OkT w) : SrtE (makeF t w) ∧ ∀ e, e ∈ makeF t w ↔ e ∈ putsM t (opqM t w) w ∨ ∃ y ∈ t, e = goneE y.p ∧ (getR w y.p).isSome = false ∧ covM w (opqM t w) y.p = false :=
  gones_ok ht.srt (putsM_srt hw.srt) fun e he y _ hg => by
    obtain ⟨x, hx, rfl⟩ := putsM_mem he
    exact getR_isNone hg x hx hw.srt

theorem opq_dir {t w : List It} (hw : OkT w) {x : It} (hx : x ∈ w) (h : isB (opqM t w) x.p = true) : opqB t w x = true := by
  unfold isB opqM at h
  rw [List.any_eq_true] at h
  obtain ⟨q, hq, e⟩ := h
  obtain ⟨z, hz, rfl⟩ := List.mem_map.1 hq
  obtain ⟨hz, hb⟩ := List.mem_filter.1 hz
  have e := eq_of_beq e
  have h1 := getR_self hw.srt hz
  have h2 := getR_self hw.srt hx
  rw [e, h2] at h1
  have hn : x.n = z.n := Option.some.inj h1
  have : x = z := by cases x; cases z; simp only at e hn; subst e; subst hn; rfl
  rw [this]; exact hb

theorem make_ok {t w : List It} (ht : OkT t) (hw : OkT w) : OkE (makeF t w) := by
  obtain ⟨hs, hm⟩ := make_mem ht hw
  have hc : ∀ e ∈ makeF t w, (∃ x ∈ w, e = ⟨x.p, 1, isB (opqM t w) x.p, x.n⟩) ∨ ∃ y ∈ t, e = goneE y.p ∧ (getR w y.p).isSome = false ∧ covM w (opqM t w) y.p = false := fun e he => by
    rcases (hm e).1 he with h | h
    · exact .inl (putsM_mem h)
    · exact .inr h
  refine ⟨fun e he => ?_, hs, List.pairwise_iff_getElem.2 fun i j hi hj _ => ?_, fun e he => ?_, ?_⟩
  · rcases hc e he with ⟨x, hx, rfl⟩ | ⟨y, hy, rfl, _⟩
    · obtain ⟨h1, h2, h3, _⟩ := hw.its x hx
      have h1 : (x.p == []) = false := by simpa using h1
      simp only [mayE, h1, h2, h3, Bool.not_false, Bool.true_and, show ((1 : Int) == 2) = false from rfl, show ((1 : Int) == 1) = true from rfl, Bool.false_eq_true, if_false]
      cases ho : isB (opqM t w) x.p
      · rfl
      · have := opq_dir hw hx ho
        unfold opqB at this
        simp only [Bool.and_eq_true] at this
        rw [this.1.1]; rfl
    · obtain ⟨h1, h2, _⟩ := ht.its y hy
      have h1 : (y.p == []) = false := by simpa using h1
      simp only [mayE, goneE, h1, h2]
      rfl
  · have hy := hc _ (List.getElem_mem hi)
    have hx := hc _ (List.getElem_mem hj)
    generalize (makeF t w)[i] = y at hy
    generalize (makeF t w)[j] = x at hx
    cases hsh : shutE y
    · rfl
    · cases hb : belowR y.p x.p
      · rfl
      · exfalso
        have hyp : y.p ≠ [] := by
          rcases hy with ⟨v, hv, rfl⟩ | ⟨v, hv, rfl, _⟩
          · exact hw.ne v hv
          · exact ht.ne v hv
        have hdir : ∃ m, getR w y.p = some m ∧ (m.k == 2) = true := by
          rcases hx with ⟨v, hv, rfl⟩ | ⟨v, hv, rfl, _, h6⟩
          · exact par_kind hw.par hyp _ _ (Nat.le_refl _) (by rw [getR_self hw.srt hv]; rfl) hb
          · exact (covM_spec hyp h6 hb).1
        obtain ⟨m, h1, h2⟩ := hdir
        rcases hy with ⟨v, hv, rfl⟩ | ⟨v, hv, rfl, h5, _⟩
        · rw [show (En.mk v.p 1 (isB (opqM t w) v.p) v.n).p = v.p from rfl, getR_self hw.srt hv] at h1
          have h1 := Option.some.inj h1
          unfold shutE at hsh
          simp only [h1, bne, h2] at hsh
          cases hsh
        · rw [show (goneE v.p).p = v.p from rfl] at h1
          rw [h1] at h5
          cases h5
  · rcases hc e he with ⟨x, hx, rfl⟩ | ⟨y, hy, rfl, _⟩
    · exact hw.tlen x hx
    · show (0 : Nat) < 18446744073709551616; decide
  · have h1 := gones_len w (opqM t w) t (putsM t (opqM t w) w)
    have h2 := putsM_len t (opqM t w) w
    have h3 := ht.len
    have h4 := hw.len
    unfold makeF
    omega
end Go.Dm

end

section
/-
  Layers of trees, each over the one ahead. No program in sight.
-/

set_option linter.unusedSimpArgs false
set_option linter.unusedVariables false
namespace Go.Dm
open Go
def encII (l : List (List RI)) : List (List PV) := l.map fun x => [.sl 6 (encI x)]
def encUU (l : List (List RU)) : List (List PV) := l.map fun x => [.sl 8 (encU x)]
def encTs (l : List (List It)) : List (List PV) := l.map fun x => [.sl 5 (encT x)]
theorem encII_len (l : List (List RI)) : (encII l).length = l.length := by simp [encII]
theorem encUU_len (l : List (List RU)) : (encUU l).length = l.length := by simp [encUU]
theorem encTs_len (l : List (List It)) : (encTs l).length = l.length := by simp [encTs]
theorem encII_one (t : List (List RI)) : (∀ x ∈ encII t, x.length = 1) = True := eq_true fun x hx => by
  obtain ⟨y, _, rfl⟩ := List.mem_map.1 hx; rfl
theorem encUU_one (t : List (List RU)) : (∀ x ∈ encUU t, x.length = 1) = True := eq_true fun x hx => by
  obtain ⟨y, _, rfl⟩ := List.mem_map.1 hx; rfl
theorem encTs_one (t : List (List It)) : (∀ x ∈ encTs t, x.length = 1) = True := eq_true fun x hx => by
  obtain ⟨y, _, rfl⟩ := List.mem_map.1 hx; rfl
theorem encTs_snoc (t : List (List It)) (l : List It) : encTs t ++ [[.sl 5 (encT l)]] = encTs (t ++ [l]) := by simp [encTs]
theorem encTs_nil : encTs [] = [] := rfl
attribute [go_sem] encII_len encUU_len encTs_len encII_one encUU_one encTs_one encTs_snoc encTs_nil

end Go.Dm

end

section
/-
  Layers: what shows at a path. No program in sight.
-/

set_option linter.unusedSimpArgs false
set_option linter.unusedVariables false
namespace Go.Dm
open Go

def zeroEn : En := ⟨[], 0, false, nd0⟩
def En.cv (x : En) : List CV := [.p (.s x.p), .p (.i .i64 x.k), .p (.b x.o), .p (.i .i64 x.n.k), .p (.i .i64 x.n.m), .p (.f x.n.t), .p (.sl 1 (encB x.n.d))]
def entryR (l : List En) (p : List UInt8) : Option En := l.find? fun x => x.p == p
def shF (l : List En) : Nat → List UInt8 → Bool
  | 0, _ => false
  | n + 1, q => if q == [] then false else if ((entryR l q).isSome && (((entryR l q).getD zeroEn).k == 2 || (((entryR l q).getD zeroEn).o || ((entryR l q).getD zeroEn).n.k != 2))) then true else shF l n (dirOfR q)
def shutL (l : List En) (p : List UInt8) : Bool := shF l p.length (dirOfR p)
theorem shF_more {l : List En} {n : Nat} {q : List UInt8} (h : q ≠ []) : shF l (n + 1) q = if ((entryR l q).isSome && (((entryR l q).getD zeroEn).k == 2 || (((entryR l q).getD zeroEn).o || ((entryR l q).getD zeroEn).n.k != 2))) then true else shF l n (dirOfR q) := by
  rw [shF, if_neg (by simpa using h)]
theorem shF_nil {l : List En} : ∀ n : Nat, shF l n [] = false
  | 0 => rfl
  | n + 1 => by rw [shF]; simp
end Go.Dm

end

section
/-
  Layers: what a layer does at a path; that the layer made of two trees leads from the one to the other; what shows at a path is what is folded. No program in sight.
-/

set_option linter.unusedSimpArgs false
set_option linter.unusedVariables false
namespace Go.Dm
open Go

theorem getR_leftE (t : List It) (x : En) (p : List UInt8) : getR (leftE t x) p = if ((p == x.p) || (coverE t x && belowR x.p p)) then none else getR t p := by
  have := getR_filter (fun q => !((q == x.p) || (coverE t x && belowR x.p q))) p t
  unfold leftE goE
  rw [this]
  cases ((p == x.p) || (coverE t x && belowR x.p p)) <;> rfl
theorem over1_get (t : List It) (x : En) (p : List UInt8) : getR (over1 t x) p = if p == x.p then (if x.k == 2 then none else some x.n) else if coverE t x && belowR x.p p then none else getR t p := by
  unfold over1
  split
  · rw [getR_leftE]
    cases p == x.p <;> simp
  · rw [getR_setR, getR_leftE]
    cases p == x.p <;> simp
theorem below_blt {a p : List UInt8} (ha : a ≠ []) (h : belowR a p = true) : bltL a p = true := by
  obtain ⟨r, rfl⟩ := belowR_eq ha h
  exact blt_app a 47 r
theorem below_trans {a b c : List UInt8} (ha : a ≠ []) (h : belowR a b = true) (k : belowR b c = true) : belowR a c = true := by
  obtain ⟨r, rfl⟩ := belowR_eq ha h
  obtain ⟨s, rfl⟩ := belowR_eq (by simp) k
  rw [List.append_assoc, List.cons_append]
  exact below_mk ha
theorem below_len {a p : List UInt8} (ha : a ≠ []) (h : belowR a p = true) : a.length < p.length := by
  obtain ⟨r, rfl⟩ := belowR_eq ha h
  simp
theorem below_no {a : List UInt8} (ha : a ≠ []) : belowR a [] = false := by
  cases h : belowR a []
  · rfl
  · have := below_len ha h
    simp at this

theorem overs_cons (t : List It) (x : En) (l : List En) : overs t (x :: l) = overs (over1 t x) l := rfl
theorem overs_keep {p : List UInt8} : ∀ {l : List En} {t : List It}, (∀ x ∈ l, (p == x.p) = false ∧ belowR x.p p = false) → getR (overs t l) p = getR t p
  | [], _, _ => rfl
  | x :: l, t, h => by
    obtain ⟨h1, h2⟩ := h x List.mem_cons_self
    rw [overs_cons, overs_keep fun y hy => h y (List.mem_cons_of_mem _ hy), over1_get, h1, h2, Bool.and_false]
    rfl
theorem overs_none {p : List UInt8} : ∀ {l : List En} {t : List It}, (∀ x ∈ l, (p == x.p) = false) → getR t p = none → getR (overs t l) p = none
  | [], _, _, h => h
  | x :: l, t, h, h0 => by
    rw [overs_cons]
    refine overs_none (fun y hy => h y (List.mem_cons_of_mem _ hy)) ?_
    rw [over1_get, h x List.mem_cons_self, h0]
    simp
theorem overs_entry {x : En} : ∀ {l : List En} {t : List It}, SrtE l → (∀ y ∈ l, y.p ≠ []) → x ∈ l → getR (overs t l) x.p = if x.k == 2 then none else some x.n
  | [], _, _, _, h => by cases h
  | y :: l, t, hs, hn, hx => by
    obtain ⟨h1, h2⟩ := List.pairwise_cons.1 hs
    rw [overs_cons]
    rcases List.mem_cons.1 hx with rfl | hx
    · rw [overs_keep fun z hz => ⟨blt_ne (h1 z hz), ?_⟩, over1_get, beq_self_eq_true, if_pos rfl]
      cases hb : belowR z.p x.p
      · rfl
      · have := below_blt (hn z (List.mem_cons_of_mem _ hz)) hb
        rw [blt_asymm (h1 z hz)] at this
        cases this
    · exact overs_entry h2 (fun z hz => hn z (List.mem_cons_of_mem _ hz)) hx
theorem overs_shut {p : List UInt8} {e : En} : ∀ {l : List En} {t : List It}, (∀ x ∈ l, (p == x.p) = false) → e ∈ l → belowR e.p p = true → (e.o || shutE e) = true → getR (overs t l) p = none
  | [], _, _, h, _, _ => by cases h
  | y :: l, t, h, he, hb, hs => by
    rw [overs_cons]
    rcases List.mem_cons.1 he with rfl | he
    · refine overs_none (fun x hx => h x (List.mem_cons_of_mem _ hx)) ?_
      have hc : coverE t e = true := by
        unfold coverE
        rw [← Bool.or_assoc, hs, Bool.true_or]
      rw [over1_get, h e List.mem_cons_self, hc, hb]
      rfl
    · exact overs_shut (fun x hx => h x (List.mem_cons_of_mem _ hx)) he hb hs
theorem overs_open {p : List UInt8} : ∀ {l : List En} {t : List It}, (∀ x ∈ l, x.p ≠ [] ∧ (p == x.p) = false ∧ (belowR x.p p = true → (x.o || shutE x) = false)) → (∀ q, (getR t p).isSome = true → belowR q p = true → q ≠ [] → isDirR t q = true) → getR (overs t l) p = getR t p
  | [], _, _, _ => rfl
  | x :: l, t, h, hc => by
    obtain ⟨h0, h1, h2⟩ := h x List.mem_cons_self
    have hcov : belowR x.p p = true → (getR t p).isSome = true → coverE t x = false := fun hb hs => by
      have h3 := h2 hb
      rw [Bool.or_eq_false_iff] at h3
      unfold coverE
      rw [h3.1, h3.2, hc x.p hs hb h0]
      rfl
    have he : getR (over1 t x) p = getR t p := by
      rw [over1_get, h1]
      cases hb : belowR x.p p
      · simp
      · cases hs : getR t p with
        | none => simp
        | some n => rw [hcov hb (by rw [hs]; rfl)]; simp
    rw [overs_cons, overs_open (fun y hy => h y (List.mem_cons_of_mem _ hy)) ?_, he]
    intro q hs hb hq
    rw [he] at hs
    obtain ⟨m, hm, hk⟩ := isDir_some hq (hc q hs hb hq)
    cases hqx : q == x.p
    · refine isDir_mk (m := m) ?_ hk
      rw [over1_get, hqx]
      cases hbx : belowR x.p q
      · simpa using hm
      · rw [hcov (below_trans h0 hbx hb) hs]
        simpa using hm
    · have e := eq_of_beq hqx
      rw [e] at hb
      have h3 := h2 hb
      rw [Bool.or_eq_false_iff] at h3
      have h4 := h3.2
      unfold shutE at h4
      rw [Bool.or_eq_false_iff] at h4
      refine isDir_mk (m := x.n) ?_ (by simpa using h4.2)
      rw [over1_get, hqx, if_pos rfl, h4.1]
      rfl

/-! A layer's entries by their paths. -/
theorem srtE_inj : ∀ {l : List En}, SrtE l → ∀ x ∈ l, ∀ y ∈ l, x.p = y.p → x = y
  | [], _, x, hx, _, _, _ => by cases hx
  | z :: l, h, x, hx, y, hy, e => by
    obtain ⟨h1, h2⟩ := List.pairwise_cons.1 h
    rcases List.mem_cons.1 hx with e1 | g1 <;> rcases List.mem_cons.1 hy with e2 | g2
    · rw [e1, e2]
    · have := blt_ne (h1 y g2); rw [← e1, e] at this; simp at this
    · have := blt_ne (h1 x g1); rw [← e2, e] at this; simp at this
    · exact srtE_inj h2 x g1 y g2 e
theorem entryR_of {l : List En} (h : SrtE l) {x : En} (hx : x ∈ l) : entryR l x.p = some x := by
  cases hf : entryR l x.p with
  | none => exact absurd (beq_self_eq_true x.p) (by simpa using List.find?_eq_none.1 hf x hx)
  | some y =>
    have h1 := eq_of_beq (List.find?_some (p := fun z : En => z.p == x.p) hf)
    rw [srtE_inj h y (List.mem_of_find?_eq_some hf) x hx h1]
theorem entryR_mem {l : List En} {p : List UInt8} {x : En} (h : entryR l p = some x) : x ∈ l ∧ x.p = p := ⟨List.mem_of_find?_eq_some h, eq_of_beq (List.find?_some (p := fun z : En => z.p == p) h)⟩
theorem entryR_no {l : List En} {p : List UInt8} (h : entryR l p = none) : ∀ x ∈ l, (p == x.p) = false := fun x hx => by
  have h1 := List.find?_eq_none.1 h x hx
  cases hp : p == x.p
  · rfl
  · rw [eq_of_beq hp] at h1; simp at h1
theorem shF_iff {l : List En} (hs : SrtE l) (hn : ∀ x ∈ l, x.p ≠ []) : ∀ (n : Nat) (q : List UInt8), q.length ≤ n → (shF l n q = true ↔ ∃ e ∈ l, (e.p = q ∨ belowR e.p q = true) ∧ (e.o || shutE e) = true) := by
  have h00 : ¬ ∃ e ∈ l, (e.p = [] ∨ belowR e.p [] = true) ∧ (e.o || shutE e) = true := by
    rintro ⟨e, he, h | h, _⟩
    · exact hn e he h
    · rw [below_no (hn e he)] at h; cases h
  intro n
  induction n with
  | zero =>
    intro q hl
    have h1 : q = [] := by simpa using hl
    subst h1
    exact ⟨fun h => (by simp [shF] at h), fun h => absurd h h00⟩
  | succ n ih =>
    intro q hl
    by_cases h0 : q = []
    · subst h0
      exact ⟨fun h => (by rw [shF_nil] at h; cases h), fun h => absurd h h00⟩
    · have hdl : (dirOfR q).length ≤ n := by
        by_cases h : dirOfR q = []
        · rw [h]; exact Nat.zero_le _
        · have := dir_lt h; omega
      have hsh : ∀ e : En, (e.k == 2 || (e.o || e.n.k != 2)) = (e.o || shutE e) := fun e => by
        unfold shutE
        cases e.k == 2 <;> cases e.o <;> rfl
      rw [shF_more h0]
      split
      · rename_i hc
        refine ⟨fun _ => ?_, fun _ => rfl⟩
        cases he : entryR l q with
        | none => rw [he] at hc; cases hc
        | some e =>
          rw [he, Option.getD_some, hsh] at hc
          obtain ⟨h1, h2⟩ := entryR_mem he
          exact ⟨e, h1, .inl h2, by simpa using hc⟩
      · rename_i hc
        rw [ih _ hdl]
        constructor
        · rintro ⟨e, he, h1, h2⟩
          refine ⟨e, he, .inr ?_, h2⟩
          refine below_dir (hn e he) (fun hd => ?_) (h1.imp Eq.symm id)
          rw [hd] at h1
          exact h00 ⟨e, he, h1, h2⟩
        · rintro ⟨e, he, h1, h2⟩
          rcases h1 with h1 | h1
          · rw [← h1, entryR_of hs he, Option.getD_some, hsh, h2] at hc
            exact absurd rfl hc
          · exact ⟨e, he, (below_up (hn e he) h1).imp Eq.symm id, h2⟩
theorem shutL_iff {l : List En} (hs : SrtE l) (hn : ∀ x ∈ l, x.p ≠ []) (p : List UInt8) : shutL l p = true ↔ ∃ e ∈ l, belowR e.p p = true ∧ (e.o || shutE e) = true := by
  unfold shutL
  rw [shF_iff hs hn _ _ (dir_le p)]
  constructor
  · rintro ⟨e, he, h1, h2⟩
    refine ⟨e, he, below_dir (hn e he) (fun hd => ?_) (h1.imp Eq.symm id), h2⟩
    rw [hd] at h1
    rcases h1 with h1 | h1
    · exact hn e he h1
    · rw [below_no (hn e he)] at h1; cases h1
  · rintro ⟨e, he, h1, h2⟩
    exact ⟨e, he, (below_up (hn e he) h1).imp Eq.symm id, h2⟩

/-- What a layer does at a path. -/
theorem overs_get {t : List It} {l : List En} (hp : Par t) (hs : SrtE l) (hn : ∀ x ∈ l, x.p ≠ []) (p : List UInt8) :
    getR (overs t l) p = match entryR l p with
      | some e => if e.k == 2 then none else some e.n
      | none => if shutL l p then none else getR t p := by
  cases he : entryR l p with
  | some e =>
    obtain ⟨h1, rfl⟩ := entryR_mem he
    exact overs_entry hs hn h1
  | none =>
    have hno := entryR_no he
    cases hsh : shutL l p
    · refine overs_open (fun x hx => ⟨hn x hx, hno x hx, fun hb => ?_⟩) fun q h1 h2 h3 => ?_
      · cases h : (x.o || shutE x)
        · rfl
        · rw [(shutL_iff hs hn p).2 ⟨x, hx, hb, h⟩] at hsh; cases hsh
      · obtain ⟨m, h4, h5⟩ := par_kind hp h3 _ _ (Nat.le_refl _) h1 h2
        exact isDir_mk h4 (by simpa using h5)
    · obtain ⟨e, h1, h2, h3⟩ := (shutL_iff hs hn p).1 hsh
      exact overs_shut hno h1 h2 h3

/-! The layer that is made leads from the one tree to the other. -/
theorem OkE.ne {l : List En} (h : OkE l) : ∀ x ∈ l, x.p ≠ [] := fun x hx e => by
  have := h.may x hx
  unfold mayE at this
  rw [e] at this
  cases this
theorem right_same {x y : Nd} (hx : rightNodeR x = true) (hxt : x.t < 18446744073709551616) (hy : rightNodeR y = true) (hyt : y.t < 18446744073709551616) (h : sameNd x y = true) : x = y := by
  have e1 := (right_plain hx hxt).2
  have e2 := (right_plain hy hyt).2
  simp only [sameNd, Bool.and_eq_true, beq_iff_eq] at h
  obtain ⟨⟨⟨h1, h2⟩, h3⟩, h4⟩ := h
  rw [e1, e2] at h4
  cases x; cases y
  simp only at h1 h2 h3 h4
  subst h1; subst h2; subst h3; subst h4
  rfl
theorem covF_some {w : List It} {os : List (List UInt8)} : ∀ (n : Nat) (q : List UInt8), covF w os n q = true → ∃ a, a ≠ [] ∧ (q = a ∨ belowR a q = true) ∧ (!(getR w a).isSome || (((getR w a).getD nd0).k != 2 || isB os a)) = true
  | 0, _, h => by cases h
  | n + 1, q, h => by
    by_cases h0 : q = []
    · rw [h0, covF_nil] at h; cases h
    · rw [covF_more h0] at h
      split at h
      · rename_i hc
        exact ⟨q, h0, .inl rfl, hc⟩
      · obtain ⟨a, h1, h2, h3⟩ := covF_some n _ h
        refine ⟨a, h1, .inr (below_dir h1 (fun hd => ?_) h2), h3⟩
        rw [hd] at h2
        rcases h2 with h2 | h2
        · exact h1 h2.symm
        · rw [below_no h1] at h2; cases h2
theorem covM_some {w : List It} {os : List (List UInt8)} {p : List UInt8} (h : covM w os p = true) : ∃ a, a ≠ [] ∧ belowR a p = true ∧ (!(getR w a).isSome || (((getR w a).getD nd0).k != 2 || isB os a)) = true := by
  obtain ⟨a, h1, h2, h3⟩ := covF_some _ _ h
  refine ⟨a, h1, below_dir h1 (fun hd => ?_) h2, h3⟩
  rw [hd] at h2
  rcases h2 with h2 | h2
  · exact h1 h2.symm
  · rw [below_no h1] at h2; cases h2
theorem puts_in {t : List It} {os : List (List UInt8)} {w : List It} {x : It} (hx : x ∈ w) {e : En} (he : e ∈ putM t os x) : e ∈ putsM t os w := List.mem_flatMap.2 ⟨x, hx, he⟩
theorem cov_shut {t w : List It} (ht : OkT t) (hw : OkT w) : ∀ (n : Nat) (p : List UInt8), p.length ≤ n → (getR t p).isSome = true → covM w (opqM t w) p = true → ∃ e ∈ makeF t w, belowR e.p p = true ∧ (e.o || shutE e) = true
  | 0, p, hl, _, hc => by
    have h1 : p = [] := by simpa using hl
    subst h1
    cases hc
  | n + 1, p, hl, hs, hc => by
    obtain ⟨_, hm⟩ := make_mem ht hw
    obtain ⟨a, h1, h2, h3⟩ := covM_some hc
    obtain ⟨m, h4, h5⟩ := par_kind ht.par h1 _ _ (Nat.le_refl _) hs h2
    cases hg : getR w a with
    | none =>
      cases hca : covM w (opqM t w) a
      · obtain ⟨y, hy, rfl, _⟩ := getR_mem h4
        exact ⟨goneE y.p, (hm _).2 (.inr ⟨y, hy, rfl, by rw [hg]; rfl, hca⟩), h2, rfl⟩
      · have := below_len h1 h2
        obtain ⟨e, h6, h7, h8⟩ := cov_shut ht hw n a (by omega) (by rw [h4]; rfl) hca
        exact ⟨e, h6, below_trans ((make_ok ht hw).ne e h6) h7 h2, h8⟩
    | some k =>
      obtain ⟨x, hx, rfl, rfl⟩ := getR_mem hg
      rw [hg, Option.getD_some, Option.isSome_some, Bool.not_true, Bool.false_or] at h3
      cases hi : isB (opqM t w) x.p
      · rw [hi, Bool.or_false] at h3
        refine ⟨⟨x.p, 1, false, x.n⟩, (hm _).2 (.inl (puts_in hx ?_)), h2, ?_⟩
        · unfold putM
          rw [hi, if_neg (by decide), h4, Option.getD_some]
          have : sameNd m x.n = false := by
            unfold sameNd
            have : (m.k == x.n.k) = false := by
              cases hq : m.k == x.n.k
              · rfl
              · rw [← eq_of_beq hq, bne, h5] at h3; cases h3
            rw [this]; rfl
          rw [this]
          exact List.mem_singleton.2 rfl
        · unfold shutE
          rw [h3]; rfl
      · refine ⟨⟨x.p, 1, true, x.n⟩, (hm _).2 (.inl (puts_in hx ?_)), h2, rfl⟩
        unfold putM
        rw [hi, if_pos rfl]
        exact List.mem_singleton.2 rfl

theorem make_get {t w : List It} (ht : OkT t) (hw : OkT w) (p : List UInt8) : getR (overs t (makeF t w)) p = getR w p := by
  obtain ⟨hs, hm⟩ := make_mem ht hw
  have hok := make_ok ht hw
  have hn := hok.ne
  rw [overs_get ht.par hs hn]
  cases he : entryR (makeF t w) p with
  | some e =>
    obtain ⟨h1, rfl⟩ := entryR_mem he
    rcases (hm e).1 h1 with h | ⟨y, hy, rfl, h3, _⟩
    · obtain ⟨x, hx, rfl⟩ := putsM_mem h
      exact (getR_self hw.srt hx).symm
    · show none = getR w y.p
      cases hg : getR w y.p with
      | none => rfl
      | some n => rw [hg] at h3; cases h3
  | none =>
    have hno := entryR_no he
    have hput : ∀ x ∈ w, x.p = p → isB (opqM t w) p = false ∧ ∃ m, getR t p = some m ∧ sameNd m x.n = true := fun x hx hp => by
      subst hp
      cases hi : isB (opqM t w) x.p
      · refine ⟨rfl, ?_⟩
        cases hc : (!(getR t x.p).isSome || !sameNd ((getR t x.p).getD nd0) x.n)
        · cases hg : getR t x.p with
          | none => rw [hg] at hc; cases hc
          | some m =>
            rw [hg, Option.getD_some] at hc
            exact ⟨m, rfl, by simpa using hc⟩
        · have := hno ⟨x.p, 1, false, x.n⟩ ((hm _).2 (.inl (puts_in hx (by
            unfold putM
            rw [hi, if_neg (by decide), hc]
            exact List.mem_singleton.2 rfl))))
          simp at this
      · have := hno ⟨x.p, 1, true, x.n⟩ ((hm _).2 (.inl (puts_in hx (by
          unfold putM
          rw [hi, if_pos rfl]
          exact List.mem_singleton.2 rfl))))
        simp at this
    cases hsh : shutL (makeF t w) p
    · show getR t p = getR w p
      cases hg : getR w p with
      | some n =>
        obtain ⟨x, hx, rfl, rfl⟩ := getR_mem hg
        obtain ⟨_, m, h1, h2⟩ := hput x hx rfl
        obtain ⟨y, hy, _, rfl⟩ := getR_mem h1
        rw [h1, right_same (ht.its y hy).2.2.1 (ht.its y hy).2.2.2 (hw.its x hx).2.2.1 (hw.its x hx).2.2.2 h2]
      | none =>
        cases hgt : getR t p with
        | none => rfl
        | some n =>
          exfalso
          obtain ⟨y, hy, rfl, _⟩ := getR_mem hgt
          cases hc : covM w (opqM t w) y.p
          · have := hno (goneE y.p) ((hm _).2 (.inr ⟨y, hy, rfl, by rw [hg]; rfl, hc⟩))
            rw [show (goneE y.p).p = y.p from rfl] at this
            simp at this
          · obtain ⟨e, h1, h2, h3⟩ := cov_shut ht hw _ _ (Nat.le_refl _) (by rw [hgt]; rfl) hc
            rw [(shutL_iff hs hn _).2 ⟨e, h1, h2, h3⟩] at hsh
            cases hsh
    · show none = getR w p
      cases hg : getR w p with
      | none => rfl
      | some n =>
        exfalso
        obtain ⟨e, h1, h2, h3⟩ := (shutL_iff hs hn p).1 hsh
        obtain ⟨m, h4, h5⟩ := par_kind hw.par (hn e h1) _ _ (Nat.le_refl _) (by rw [hg]; rfl) h2
        rcases (hm e).1 h1 with h | ⟨y, hy, rfl, h6, _⟩
        · obtain ⟨x, hx, rfl⟩ := putsM_mem h
          rw [show (En.mk x.p 1 (isB (opqM t w) x.p) x.n).p = x.p from rfl, getR_self hw.srt hx] at h4
          have h4 := Option.some.inj h4
          have hsf : shutE ⟨x.p, 1, isB (opqM t w) x.p, x.n⟩ = false := by
            unfold shutE
            simp only [h4, bne, h5]
            rfl
          rw [hsf, Bool.or_false] at h3
          have hb := opq_dir hw hx h3
          unfold opqB at hb
          simp only [Bool.and_eq_true, Bool.not_eq_true'] at hb
          have hst := hb.2
          obtain ⟨v, hv, rfl, rfl⟩ := getR_mem hg
          obtain ⟨_, k, h7, _⟩ := hput v hv rfl
          obtain ⟨z, hz, hzp, _⟩ := getR_mem h7
          have : staysB t w x.p = true := List.any_eq_true.2 ⟨z, hz, by rw [hzp, hg]; exact h2⟩
          rw [this] at hst
          cases hst
        · rw [show (goneE y.p).p = y.p from rfl] at h4
          rw [h4] at h6
          cases h6

theorem srt_ext {s t : List It} (hs : Srt s) (ht : Srt t) (h : ∀ p, getR s p = getR t p) : s = t := by
  have key : ∀ {a b : List It}, Srt a → (∀ p, getR a p = getR b p) → ∀ x, x ∈ a → x ∈ b := fun ha he x hx => by
    have h1 := getR_self ha hx
    rw [he] at h1
    obtain ⟨y, hy, h2, h3⟩ := getR_mem h1
    have : y = x := by cases y; cases x; simp only at h2 h3; subst h2; subst h3; rfl
    rw [← this]; exact hy
  exact srt_mem_eq hs ht fun x => ⟨key hs h x, key ht (fun p => (h p).symm) x⟩
theorem over_make {t w : List It} (ht : OkT t) (hw : OkT w) : overF t (makeF t w) = (w, true) := by
  have e : overs t (makeF t w) = w := srt_ext (overs_srt ht.srt) hw.srt (make_get ht hw)
  unfold overF
  rw [e, rightT_of hw, if_pos rfl]
/-! What shows at a path is what is folded. -/
end Go.Dm

end

section
/-
  Layers: of a tree and itself there is nothing; no entry could be left out. No program in sight.
-/

set_option linter.unusedSimpArgs false
set_option linter.unusedVariables false
namespace Go.Dm
open Go

end Go.Dm

end

section
/-
  Layers: what the program makes of two trees is what the document makes. No program in sight.
-/

set_option linter.unusedSimpArgs false
set_option linter.unusedVariables false
namespace Go.Dm
open Go Go.Sort Go.Proofs

def keptM (t w : List It) (p : List UInt8) : Bool := t.any fun y => belowR p y.p && (getR w y.p).isSome
def opaqueM (t w : List It) (p : List UInt8) : Bool := isDirR w p && (isDirR t p && (!decide (((namesF t p).length : Int) < 2) && !keptM t w p))
theorem kept_stays (t w : List It) (p : List UInt8) : keptM t w p = staysB t w p := by
  unfold keptM staysB
  congr 1
  funext y
  rw [Bool.and_comm]
theorem isB_of {t w : List It} {x : It} (hx : x ∈ w) (h : opqB t w x = true) : isB (opqM t w) x.p = true :=
  List.any_eq_true.2 ⟨x.p, List.mem_map.2 ⟨x, List.mem_filter.2 ⟨hx, h⟩, rfl⟩, beq_self_eq_true _⟩
theorem opaque_isB {t w : List It} (hw : OkT w) {x : It} (hx : x ∈ w) : ((x.n.k == 2) && opaqueM t w x.p) = isB (opqM t w) x.p := by
  have h0 : (x.p == []) = false := by simpa using hw.ne x hx
  have h1 : isDirR w x.p = (x.n.k == 2) := by
    unfold isDirR
    rw [getR_self hw.srt hx, h0, Bool.false_or]
  have h2 : ((x.n.k == 2) && opaqueM t w x.p) = opqB t w x := by
    unfold opaqueM opqB hasDirB
    rw [h1, h0, kept_stays]
    cases x.n.k == 2 <;> cases isDirR t x.p <;> simp
  rw [h2]
  cases hb : isB (opqM t w) x.p
  · cases ho : opqB t w x
    · rfl
    · rw [isB_of hx ho] at hb; cases hb
  · exact opq_dir hw hx hb
/-- What the program asks of a path on its way up. -/
def hidQ (t w : List It) (q : List UInt8) : Bool := !(getR w q).isSome || (!isDirR w q || opaqueM t w q)
theorem hid_eq {t w : List It} (hw : OkT w) {q : List UInt8} (hq : q ≠ []) : hidQ t w q = (!(getR w q).isSome || (((getR w q).getD nd0).k != 2 || isB (opqM t w) q)) := by
  have h0 : (q == []) = false := by simpa using hq
  unfold hidQ
  cases hg : getR w q with
  | none => rfl
  | some n =>
    obtain ⟨x, hx, rfl, rfl⟩ := getR_mem hg
    have h1 : isDirR w x.p = (x.n.k == 2) := by
      unfold isDirR
      rw [hg, h0, Bool.false_or]
    have h2 := opaque_isB (t := t) hw hx
    rw [h1, Option.isSome_some, Option.getD_some, ← h2]
    cases hk : x.n.k == 2 <;> simp [bne, hk]

def gonesM (t w : List It) : List En := (t.filter fun y => !(getR w y.p).isSome && !covM w (opqM t w) y.p).map fun y => goneE y.p
/-- Entries as the program lays them down, not yet in order. -/
def makeL (t w : List It) : List En := putsM t (opqM t w) w ++ gonesM t w
theorem make_mem' {t w : List It} (ht : OkT t) (hw : OkT w) (e : En) : e ∈ makeF t w ↔ e ∈ makeL t w := by
  rw [(make_mem ht hw).2 e]
  unfold makeL gonesM
  rw [List.mem_append, List.mem_map]
  constructor
  · rintro (h | ⟨y, hy, rfl, h1, h2⟩)
    · exact .inl h
    · exact .inr ⟨y, List.mem_filter.2 ⟨hy, by rw [h1, h2]; rfl⟩, rfl⟩
  · rintro (h | ⟨y, hy, rfl⟩)
    · exact .inl h
    · obtain ⟨h1, h2⟩ := List.mem_filter.1 hy
      simp only [Bool.and_eq_true, Bool.not_eq_true'] at h2
      exact .inr ⟨y, h1, rfl, h2.1, h2.2⟩
theorem srtE_nodup {l : List En} (h : SrtE l) : l.Nodup := h.imp fun {a b} h e => by subst e; rw [blt_irrefl] at h; cases h
theorem makeL_nodup {t w : List It} (ht : OkT t) (hw : OkT w) : (makeL t w).Nodup := by
  unfold makeL
  refine List.nodup_append.2 ⟨srtE_nodup (putsM_srt hw.srt), ?_, fun a ha b hb e => ?_⟩
  · have : (gonesM t w).Pairwise fun x y => bltL x.p y.p = true := List.pairwise_map.2 ((ht.srt.filter _).imp fun h => h)
    exact srtE_nodup this
  · obtain ⟨x, hx, rfl⟩ := putsM_mem ha
    obtain ⟨y, _, rfl⟩ := List.mem_map.1 hb
    injection e with _ h _ _
    cases h
/-- Entries in order. -/
def leE (x y : En) : Bool := !bltL y.p x.p
def sortE (l : List En) : List En := l.mergeSort leE
theorem sortE_perm (l : List En) : (sortE l).Perm l := List.mergeSort_perm _ _
theorem sortE_len (l : List En) : (sortE l).length = l.length := List.length_mergeSort ..
theorem sortE_sorted (l : List En) : (sortE l).Pairwise fun x y => bltL y.p x.p = false := by
  have h : (sortE l).Pairwise fun x y => leE x y = true := by
    refine List.pairwise_mergeSort (le := leE) ?_ ?_ _
    · intro a b c h1 h2
      simp only [leE, Bool.not_eq_true'] at h1 h2 ⊢
      cases e : bltL c.p a.p with
      | false => rfl
      | true =>
        cases f : bltL a.p b.p with
        | true => have := blt_trans e f; rw [h2] at this; cases this
        | false => have := blt_tri f h1; rw [← this, e] at h2; cases h2
    · intro a b
      simp only [leE]
      cases h : bltL b.p a.p with
      | false => simp
      | true => simp [blt_asymm h]
  exact h.imp fun h => by unfold leE at h; simpa using h
theorem cfE_total {l : List En} (hu : ∀ x ∈ l, ∀ y ∈ l, x.p = y.p → x = y) : ∀ x ∈ encE l, ∀ y ∈ encE l, ltOf cfI x y = false → ltOf cfI y x = false → x = y := by
  rw [lt_cfI]
  intro x hx y hy h k
  obtain ⟨a, ha, rfl⟩ := List.mem_map.1 hx
  obtain ⟨b, hb, rfl⟩ := List.mem_map.1 hy
  rw [hu a ha b hb (blt_tri h k)]
theorem encE_sort (l : List En) : (encE l).mergeSort (leBy (ltOf cfI)) = encE (sortE l) := by
  rw [lt_cfI]
  unfold encE sortE
  exact (List.map_mergeSort (r := leE) (s := leBy ltVI) (f := En.cs) (l := l) fun a _ b _ => rfl).symm
theorem makeL_inj {t w : List It} (ht : OkT t) (hw : OkT w) : ∀ x ∈ makeL t w, ∀ y ∈ makeL t w, x.p = y.p → x = y :=
  fun x hx y hy e => srtE_inj (make_mem ht hw).1 x ((make_mem' ht hw x).2 hx) y ((make_mem' ht hw y).2 hy) e
theorem make_sort {t w : List It} (ht : OkT t) (hw : OkT w) : sortE (makeL t w) = makeF t w := by
  obtain ⟨hs, _⟩ := make_mem ht hw
  have hinj := makeL_inj ht hw
  have hnd : (sortE (makeL t w)).Nodup := (sortE_perm _).nodup_iff.2 (makeL_nodup ht hw)
  have hstrict : (sortE (makeL t w)).Pairwise fun x y => bltL x.p y.p = true := by
    refine ((sortE_sorted (makeL t w)).and hnd).imp_of_mem fun {a b} ha hb h => ?_
    obtain ⟨h1, h2⟩ := h
    cases h3 : bltL a.p b.p
    · exact absurd (hinj a ((sortE_perm _).mem_iff.1 ha) b ((sortE_perm _).mem_iff.1 hb) (blt_tri h3 h1)) h2
    · rfl
  exact List.Perm.eq_of_pairwise (le := fun (x y : En) => bltL x.p y.p = true) (fun _ _ _ _ h k => by rw [blt_asymm h] at k; cases k) hstrict hs
    ((List.perm_ext_iff_of_nodup hnd (srtE_nodup hs)).2 fun e => (sortE_perm _).mem_iff.trans (make_mem' ht hw e).symm)
end Go.Dm

end

section
/-
  Layers that are the same; layers and trees at their lists' weakened forms. No program in sight.
-/

set_option linter.unusedSimpArgs false
set_option linter.unusedVariables false
namespace Go.Dm
open Go
def sameEn (x y : En) : Bool := x.p == y.p && (x.k == y.k && (x.o == y.o && ndSame x.n y.n))
def sameEs : List En → List En → Bool
  | [], [] => true
  | x :: a, y :: b => sameEn x y && sameEs a b
  | _, _ => false
theorem sameEs_drop {a b : List En} {k : Nat} {x y : En} (ha : a[k]? = some x) (hb : b[k]? = some y) : sameEs (a.drop k) (b.drop k) = (sameEn x y && sameEs (a.drop (k + 1)) (b.drop (k + 1))) := by
  obtain ⟨h1, rfl⟩ := List.getElem?_eq_some_iff.1 ha
  obtain ⟨h2, rfl⟩ := List.getElem?_eq_some_iff.1 hb
  rw [List.drop_eq_getElem_cons h1, List.drop_eq_getElem_cons h2, sameEs]
theorem sameEs_len : ∀ {a b : List En}, a.length ≠ b.length → sameEs a b = false
  | [], [], h => absurd rfl h
  | [], _ :: _, _ => rfl
  | _ :: _, [], _ => rfl
  | x :: a, y :: b, h => by
    rw [sameEs, sameEs_len (a := a) (b := b) fun e => h (by simp [e]), Bool.and_false]
theorem sameEs_refl : ∀ {a : List En}, (∀ x ∈ a, x.n.wf) → sameEs a a = true
  | [], _ => rfl
  | x :: a, h => by
    rw [sameEs, sameEs_refl fun y hy => h y (List.mem_cons_of_mem _ hy), sameEn, ndSame_self (h x List.mem_cons_self)]
    simp
end Go.Dm

end
