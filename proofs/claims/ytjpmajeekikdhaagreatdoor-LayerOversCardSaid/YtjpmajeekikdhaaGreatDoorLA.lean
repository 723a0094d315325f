import Derived.Test.YtjpmajeekikdhaaGreatDoorSU
import Derived.Test.YtjpmajeekikdhaaGreatDoorSD
import Derived.Test.YtjpmajeekikdhaaGreatDoorSC
import Derived.Test.YtjpmajeekikdhaaGreatDoorVE

section
/-
  Layers: entries, what one does to a tree, which may be. No program in sight.
-/

set_option linter.unusedSimpArgs false
set_option linter.unusedVariables false
namespace Go.Dm
open Go

structure En where
  p : List UInt8
  k : Int
  o : Bool
  n : Nd
def En.cs (x : En) : List PV := [.s x.p, .i .i64 x.k, .b x.o, .i .i64 x.n.k, .i .i64 x.n.m, .f x.n.t, .sl 1 (encB x.n.d)]
def encE (l : List En) : List (List PV) := l.map En.cs
theorem encE_len (l : List En) : (encE l).length = l.length := by simp [encE]
theorem encE_nil : encE [] = [] := rfl
theorem encE_at {t : List En} {k : Nat} {x : En} (h : t[k]? = some x) : (encE t).getD k [] = [.s x.p, .i .i64 x.k, .b x.o, .i .i64 x.n.k, .i .i64 x.n.m, .f x.n.t, .sl 1 (encB x.n.d)] := by
  simp only [encE, List.getD_eq_getElem?_getD, List.getElem?_map, h]
  rfl
theorem encE_one (t : List En) : (∀ x ∈ encE t, x.length = 7) = True := eq_true fun x hx => by
  obtain ⟨y, _, rfl⟩ := List.mem_map.1 hx
  rfl
theorem encE_take (a : List En) (n : Nat) : (encE a).take n = encE (a.take n) := by simp [encE]
theorem encE_drop (a : List En) (n : Nat) : (encE a).drop n = encE (a.drop n) := by simp [encE]
theorem encE_app (a b : List En) : encE a ++ encE b = encE (a ++ b) := by simp [encE]
theorem encE_snoc (t : List En) (p : List UInt8) (k : Int) (o : Bool) (nk nm : Int) (nt : Nat) (d : List UInt8) : encE t ++ [[.s p, .i .i64 k, .b o, .i .i64 nk, .i .i64 nm, .f nt, .sl 1 (encB d)]] = encE (t ++ [⟨p, k, o, ⟨nk, nm, nt, d⟩⟩]) := by simp [encE, En.cs]
theorem en_eta (x : En) : En.mk x.p x.k x.o x.n = x := rfl
attribute [go_sem] encE_len encE_nil encE_one encE_take encE_drop encE_app encE_snoc en_eta

def shutE (x : En) : Bool := x.k == 2 || x.n.k != 2
def coverE (t : List It) (x : En) : Bool := x.o || (shutE x || !isDirR t x.p)
def goE (t : List It) (x : En) (y : It) : Bool := y.p == x.p || (coverE t x && belowR x.p y.p)
def leftE (t : List It) (x : En) : List It := t.filter fun y => !goE t x y
def over1 (t : List It) (x : En) : List It := if x.k == 2 then leftE t x else setR (leftE t x) x.p x.n
def overs (t : List It) (l : List En) : List It := l.foldl over1 t
def overF (t : List It) (l : List En) : List It × Bool := if rightT (overs t l) then (overs t l, true) else ([], false)

theorem leftE_srt {t : List It} (h : Srt t) (x : En) : Srt (leftE t x) := h.filter _
theorem over1_srt {t : List It} (h : Srt t) (x : En) : Srt (over1 t x) := by
  unfold over1; split
  · exact leftE_srt h x
  · exact setR_srt (leftE_srt h x)
theorem overs_srt : ∀ {l : List En} {t : List It}, Srt t → Srt (overs t l)
  | [], _, h => h
  | x :: l, t, h => overs_srt (l := l) (over1_srt h x)
theorem leftE_len (t : List It) (x : En) : (leftE t x).length ≤ t.length := List.length_filter_le ..
theorem over1_len (t : List It) (x : En) : (over1 t x).length ≤ t.length + 1 := by
  have := leftE_len t x
  have := setR_len (leftE t x) x.p x.n
  unfold over1; split <;> omega
theorem leftE_no {t : List It} {x : En} : ∀ y ∈ leftE t x, (y.p == x.p) = false := fun y hy => by
  have := (List.mem_filter.1 hy).2
  simp only [goE, Bool.not_eq_true', Bool.or_eq_false_iff] at this
  exact this.1
theorem over1_mem {t : List It} {x : En} {y : It} (h : y ∈ over1 t x) : y = ⟨x.p, x.n⟩ ∨ y ∈ t := by
  unfold over1 at h
  split at h
  · exact .inr (List.mem_filter.1 h).1
  · rcases setL_mem h with h | h
    · exact .inl h
    · exact .inr (List.mem_filter.1 h).1

/-! As the document says it. -/
theorem setR_drop {p : List UInt8} {n : Nd} : ∀ {t : List It}, Srt t → setR (dropR t p) p n = setR t p n
  | [], _ => rfl
  | x :: r, h => by
    obtain ⟨h1, h2⟩ := List.pairwise_cons.1 h
    cases hp : x.p == p
    · have e : dropR (x :: r) p = x :: dropR r p := by unfold dropR; rw [List.filter_cons, hp]; rfl
      rw [e]
      unfold setR
      rw [setL, setL, hp]
      cases hb : bltL x.p p
      · simp only [Bool.not_false, Bool.and_self, Bool.or_true, setL_true]
        congr 2
        unfold dropR; rw [List.filter_filter]; simp
      · have := setR_drop (p := p) (n := n) h2
        unfold setR at this
        simp only [Bool.not_true, Bool.and_false, Bool.or_false, Bool.false_eq_true, if_false]
        rw [this]
    · have ep := eq_of_beq hp
      have hr : dropR r p = r := List.filter_eq_self.2 fun y hy => by
        have := blt_ne (h1 y hy)
        rw [ep] at this
        cases hq : y.p == p
        · rfl
        · rw [eq_of_beq hq] at this; simp at this
      have e : dropR (x :: r) p = r := by
        have : dropR (x :: r) p = dropR r p := by unfold dropR; rw [List.filter_cons, hp]; rfl
        rw [this, hr]
      rw [e]
      have hx : setR (x :: r) p n = ⟨p, n⟩ :: r := by
        unfold setR
        rw [setL, hp, ep, blt_irrefl]
        simp only [Bool.not_false, Bool.and_self, Bool.or_true, setL_true, hr]
        rfl
      rw [hx]
      cases r with
      | nil => rfl
      | cons y r =>
        have hy := h1 y List.mem_cons_self
        rw [ep] at hy
        have hyn : (y.p == p) = false := by
          cases hq : y.p == p
          · rfl
          · rw [eq_of_beq hq, blt_irrefl] at hy; cases hy
        unfold setR
        rw [setL, blt_asymm hy, hyn]
        simp only [Bool.not_false, Bool.and_self, Bool.or_true, setL_true]
        have h3 : dropR r p = r := by
          have : dropR (y :: r) p = y :: dropR r p := by unfold dropR; rw [List.filter_cons, hyn]; rfl
          rw [hr] at this
          exact (List.cons.inj this).2.symm
        rw [h3]; rfl
/-- What the document does with an entry. -/
def refOver1 (t : List It) (x : En) : List It := if x.k == 2 then removeR t x.p else setR (if x.o || (x.n.k != 2 || !isDirR t x.p) then noneBelow t x.p else t) x.p x.n
theorem refOver1_eq {t : List It} (h : Srt t) (x : En) : refOver1 t x = over1 t x := by
  unfold refOver1 over1
  split
  · rename_i hk
    rw [removeR_filter]
    unfold leftE goE coverE shutE
    rw [hk]
    congr 1
    funext y
    simp
  · rename_i hk
    have hk : (x.k == 2) = false := by simpa using hk
    have e : leftE t x = dropR (if x.o || (x.n.k != 2 || !isDirR t x.p) then noneBelow t x.p else t) x.p := by
      unfold leftE goE coverE shutE
      rw [hk, Bool.false_or]
      generalize (x.o || (x.n.k != 2 || !isDirR t x.p)) = c
      cases c
      · unfold dropR; simp
      · unfold dropR noneBelow
        rw [if_pos rfl, List.filter_filter]
        congr 1
        funext y
        simp
    rw [e]
    refine (setR_drop ?_).symm
    split
    · exact h.filter _
    · exact h
end Go.Dm
namespace Go.Dm
open Go
/-- May an entry be, alone? -/
def mayE (x : En) : Bool := !(x.p == []) && (isPathR x.p && (if x.k == 2 then !x.o && zeroN x.n else (x.k == 1 && rightNodeR x.n) && (!x.o || x.n.k == 2)))
/-- A layer that may be. -/
structure OkE (l : List En) : Prop where
  may : ∀ x ∈ l, mayE x = true
  srt : l.Pairwise fun x y => bltL x.p y.p = true
  open_ : l.Pairwise fun y x => (shutE y && belowR y.p x.p) = false
  tlen : ∀ x ∈ l, x.n.t < 18446744073709551616
  len : l.length ≤ 1000
theorem OkE.plen {l : List En} (h : OkE l) : ∀ x ∈ l, x.p.length ≤ 120 := fun x hx => by
  have := h.may x hx
  simp only [mayE, Bool.and_eq_true] at this
  exact isPathR_len this.2.1
theorem OkE.dlen {l : List En} (h : OkE l) : ∀ x ∈ l, x.n.d.length ≤ 2000 := fun x hx => by
  have := h.may x hx
  simp only [mayE, Bool.and_eq_true] at this
  have h2 := this.2.2
  split at h2
  · simp only [Bool.and_eq_true, zeroN, beq_iff_eq] at h2
    omega
  · simp only [Bool.and_eq_true] at h2
    exact rightNodeR_len h2.1.2
end Go.Dm
namespace Go.Dm
open Go
theorem overs_len (t : List It) (l : List En) : ∀ k, (overs t (l.take k)).length ≤ t.length + k
  | 0 => by simp [overs]
  | k + 1 => by
    have ih := overs_len t l k
    rcases Nat.lt_or_ge k l.length with h | h
    · have e : overs t (l.take (k + 1)) = over1 (overs t (l.take k)) l[k] := by
        unfold overs; rw [List.take_add_one, List.getElem?_eq_getElem h, List.foldl_append]; rfl
      rw [e]
      have := over1_len (overs t (l.take k)) l[k]
      omega
    · rw [List.take_of_length_le (by omega)]
      rw [List.take_of_length_le (by omega)] at ih
      omega
theorem overs_mem {y : It} : ∀ {l : List En} {t : List It}, y ∈ overs t l → y ∈ t ∨ ∃ x ∈ l, y = ⟨x.p, x.n⟩
  | [], _, h => .inl h
  | x :: l, t, h => by
    rcases overs_mem (l := l) (t := over1 t x) h with h | ⟨z, hz, e⟩
    · rcases over1_mem h with h | h
      · exact .inr ⟨x, List.mem_cons_self, h⟩
      · exact .inl h
    · exact .inr ⟨z, List.mem_cons_of_mem _ hz, e⟩
end Go.Dm

end

section
/-
  Layers, one over the other. No program in sight.
-/

set_option linter.unusedSimpArgs false
set_option linter.unusedVariables false
namespace Go.Dm
open Go
def encL (ls : List (List En)) : List (List PV) := ls.map fun l => [.sl 7 (encE l)]
theorem encL_len (ls : List (List En)) : (encL ls).length = ls.length := by simp [encL]
theorem encL_nil : encL [] = [] := rfl
theorem encL_one (t : List (List En)) : (∀ x ∈ encL t, x.length = 1) = True := eq_true fun x hx => by
  obtain ⟨y, _, rfl⟩ := List.mem_map.1 hx
  rfl
theorem encL_take (a : List (List En)) (n : Nat) : (encL a).take n = encL (a.take n) := by simp [encL]
theorem encL_drop (a : List (List En)) (n : Nat) : (encL a).drop n = encL (a.drop n) := by simp [encL]
theorem encL_app (a b : List (List En)) : encL a ++ encL b = encL (a ++ b) := by simp [encL]
theorem encL_snoc (t : List (List En)) (l : List En) : encL t ++ [[.sl 7 (encE l)]] = encL (t ++ [l]) := by simp [encL]
attribute [go_sem] encL_len encL_nil encL_one encL_take encL_drop encL_app encL_snoc

theorem overF_ok {t : List It} {l : List En} (ht : OkT t) (hl : OkE l) (h : (overF t l).2 = true) : OkT (overF t l).1 := by
  unfold overF at h ⊢
  split at h
  · rename_i hr
    rw [if_pos hr]
    refine rightT_ok (fun y hy => ?_) hr
    rcases overs_mem hy with hy | ⟨x, hx, rfl⟩
    · exact ht.tlen y hy
    · exact hl.tlen x hx
  · cases h
/-! As the document folds and lays over: the same. -/
theorem refOvers_eq {t : List It} (h : Srt t) : ∀ {l : List En}, l.foldl refOver1 t = overs t l := by
  intro l
  induction l generalizing t with
  | nil => rfl
  | cons x l ih =>
    show l.foldl refOver1 (refOver1 t x) = overs (over1 t x) l
    rw [refOver1_eq h, ih (over1_srt h x)]
end Go.Dm

end

section
/-
  Layers: the layer that makes one tree of another, as the document makes it. No program in sight.
-/

set_option linter.unusedSimpArgs false
set_option linter.unusedVariables false
namespace Go.Dm
open Go

def isB (l : List (List UInt8)) (p : List UInt8) : Bool := l.any fun q => q == p
def hasDirB (t : List It) (p : List UInt8) : Bool := !(p == []) && isDirR t p
def staysB (t w : List It) (p : List UInt8) : Bool := t.any fun y => (getR w y.p).isSome && belowR p y.p
def opqB (t w : List It) (x : It) : Bool := (x.n.k == 2 && (hasDirB t x.p && !decide (((namesF t x.p).length : Int) < 2))) && !staysB t w x.p
def opqM (t w : List It) : List (List UInt8) := (w.filter (opqB t w)).map fun x => x.p
def putM (t : List It) (os : List (List UInt8)) (x : It) : List En :=
  if isB os x.p then [⟨x.p, 1, true, x.n⟩] else if (!(getR t x.p).isSome || !sameNd ((getR t x.p).getD nd0) x.n) then [⟨x.p, 1, false, x.n⟩] else []
def putsM (t : List It) (os : List (List UInt8)) (w : List It) : List En := w.flatMap (putM t os)
def covF (w : List It) (os : List (List UInt8)) : Nat → List UInt8 → Bool
  | 0, _ => false
  | n + 1, q => if q == [] then false else if (!(getR w q).isSome || (((getR w q).getD nd0).k != 2 || isB os q)) then true else covF w os n (dirOfR q)
def covM (w : List It) (os : List (List UInt8)) (p : List UInt8) : Bool := covF w os p.length (dirOfR p)
def entN (l : List En) (p : List UInt8) : Nat := (l.takeWhile fun x => bltL x.p p).length
def entM (l : List En) (e : En) : List En := l.take (entN l e.p) ++ e :: l.drop (entN l e.p)
def goneE (p : List UInt8) : En := ⟨p, 2, false, nd0⟩
def goneM (w : List It) (os : List (List UInt8)) (out : List En) (y : It) : List En :=
  if ((getR w y.p).isSome || covM w os y.p) then out else entM out (goneE y.p)
def makeF (t w : List It) : List En := t.foldl (goneM w (opqM t w)) (putsM t (opqM t w) w)

theorem dir_le (p : List UInt8) : (dirOfR p).length ≤ p.length := by
  by_cases h : dirOfR p = []
  · rw [h]; exact Nat.zero_le _
  · exact Nat.le_of_lt (dir_lt h)
theorem entN_le (l : List En) (p : List UInt8) : entN l p ≤ l.length := (List.takeWhile_sublist _).length_le
theorem entN_step {p : List UInt8} : ∀ {l : List En} {k : Nat} {x : En}, l[k]? = some x → k ≤ entN l p → (bltL x.p p = true → k + 1 ≤ entN l p) ∧ (bltL x.p p = false → k = entN l p)
  | [], k, x, h, _ => by simp at h
  | y :: l, 0, x, h, _ => by
    simp only [List.getElem?_cons_zero, Option.some.injEq] at h
    subst h
    unfold entN
    rw [List.takeWhile_cons]
    cases hb : bltL y.p p
    · simp
    · simp
  | y :: l, k + 1, x, h, hk => by
    rw [List.getElem?_cons_succ] at h
    unfold entN at hk ⊢
    rw [List.takeWhile_cons] at hk ⊢
    cases hb : bltL y.p p
    · rw [hb] at hk; simp at hk
    · rw [hb] at hk
      simp only [if_true, List.length_cons] at hk ⊢
      have := entN_step (p := p) h (by unfold entN; omega)
      unfold entN at this
      exact ⟨fun a => by have := this.1 a; omega, fun a => by have := this.2 a; omega⟩
theorem entM_len (l : List En) (e : En) : (entM l e).length = l.length + 1 := by
  have := entN_le l e.p
  simp only [entM, List.length_append, List.length_cons, List.length_take, List.length_drop]
  omega
theorem putM_len (t : List It) (os : List (List UInt8)) (x : It) : (putM t os x).length ≤ 1 := by
  unfold putM; split
  · exact Nat.le_refl _
  · split
    · exact Nat.le_refl _
    · exact Nat.zero_le _
theorem putsM_len (t : List It) (os : List (List UInt8)) : ∀ w : List It, (putsM t os w).length ≤ w.length
  | [] => Nat.le_refl _
  | x :: w => by
    have h1 := putM_len t os x
    have h2 := putsM_len t os w
    unfold putsM at h2 ⊢
    rw [List.flatMap_cons, List.length_append, List.length_cons]
    omega
theorem putsM_next {t : List It} {os : List (List UInt8)} {w : List It} {k : Nat} {x : It} (h : w[k]? = some x) : putsM t os (w.take (k + 1)) = putsM t os (w.take k) ++ putM t os x := by
  unfold putsM
  rw [List.take_add_one, h, List.flatMap_append]
  simp
theorem opqM_next {t w : List It} {k : Nat} {x : It} (h : w[k]? = some x) : ((w.take (k + 1)).filter (opqB t w)).map (fun x => x.p) = ((w.take k).filter (opqB t w)).map (fun x => x.p) ++ (if opqB t w x then [x.p] else []) := by
  rw [filter_next h, List.map_append]
  split <;> rfl
theorem opqM_len (t w : List It) : (opqM t w).length ≤ w.length := by
  unfold opqM; rw [List.length_map]; exact List.length_filter_le ..
theorem goneM_len (w : List It) (os : List (List UInt8)) (out : List En) (y : It) : (goneM w os out y).length ≤ out.length + 1 := by
  unfold goneM; split
  · omega
  · rw [entM_len]; omega
theorem covF_more {w : List It} {os : List (List UInt8)} {n : Nat} {q : List UInt8} (h : q ≠ []) : covF w os (n + 1) q = if (!(getR w q).isSome || (((getR w q).getD nd0).k != 2 || isB os q)) then true else covF w os n (dirOfR q) := by
  rw [covF, if_neg (by simpa using h)]
theorem covF_nil {w : List It} {os : List (List UInt8)} : ∀ n : Nat, covF w os n [] = false
  | 0 => rfl
  | n + 1 => by rw [covF]; simp
end Go.Dm

end

section
/-
  Layers: the layer that makes one tree of another is one that may be. No program in sight.
-/

set_option linter.unusedSimpArgs false
set_option linter.unusedVariables false
namespace Go.Dm
open Go

theorem par_kind {t : List It} {b : List UInt8} (h : Par t) (hb : b ≠ []) : ∀ (n : Nat) (q : List UInt8), q.length ≤ n → (getR t q).isSome = true → belowR b q = true → ∃ m, getR t b = some m ∧ (m.k == 2) = true
  | 0, q, hl, _, hq => by
    have h1 : q = [] := by simpa using hl
    subst h1
    have h2 := belowR_len hq
    have : b = [] := by simpa using h2
    exact absurd this hb
  | n + 1, q, hl, hs, hq => by
    obtain ⟨m, hm⟩ := Option.isSome_iff_exists.1 hs
    obtain ⟨x, hx, rfl, _⟩ := getR_mem hm
    have hdx := h x hx
    rcases below_up hb hq with h1 | h1
    · rw [h1] at hdx
      obtain ⟨m, h2, h3⟩ := isDir_some hb hdx
      exact ⟨m, h2, by first | exact h3 | simpa using h3⟩
    · have h0 : dirOfR x.p ≠ [] := by
        intro h0
        rw [h0] at h1
        have := belowR_len h1
        have : b = [] := by simpa using this
        exact absurd this hb
      obtain ⟨m, h2, _⟩ := isDir_some h0 hdx
      have hlt := dir_lt h0
      exact par_kind h hb n _ (by omega) (by rw [h2]; rfl) h1

theorem covF_spec {w : List It} {os : List (List UInt8)} {a : List UInt8} (ha : a ≠ []) : ∀ (n : Nat) (q : List UInt8), q.length ≤ n → covF w os n q = false → (q = a ∨ belowR a q = true) → (∃ m, getR w a = some m ∧ (m.k == 2) = true) ∧ isB os a = false
  | 0, q, hl, _, hq => by
    have h1 : q = [] := by simpa using hl
    subst h1
    rcases hq with hq | hq
    · exact absurd hq.symm ha
    · have h2 := belowR_len hq
      have : a = [] := by simpa using h2
      exact absurd this ha
  | n + 1, q, hl, hc, hq => by
    by_cases h0 : q = []
    · subst h0
      rcases hq with hq | hq
      · exact absurd hq.symm ha
      · have h2 := belowR_len hq
        have : a = [] := by simpa using h2
        exact absurd this ha
    · rw [covF_more h0] at hc
      split at hc
      · cases hc
      · rename_i h1
        simp only [Bool.not_eq_true, Bool.or_eq_false_iff] at h1
        obtain ⟨h2, h3, h4⟩ := h1
        rcases hq with rfl | hq
        · refine ⟨?_, h4⟩
          cases hg : getR w q with
          | none => rw [hg] at h2; simp at h2
          | some m => rw [hg] at h3; exact ⟨m, rfl, by simpa using h3⟩
        · have hdl : (dirOfR q).length ≤ n := by
            by_cases h : dirOfR q = []
            · rw [h]; exact Nat.zero_le _
            · have := dir_lt h; omega
          exact covF_spec ha n _ hdl hc (below_up ha hq)
theorem covM_spec {w : List It} {os : List (List UInt8)} {a p : List UInt8} (ha : a ≠ []) (hc : covM w os p = false) (hb : belowR a p = true) : (∃ m, getR w a = some m ∧ (m.k == 2) = true) ∧ isB os a = false :=
  covF_spec ha _ _ (dir_le p) hc (below_up ha hb)

theorem putsM_mem {t : List It} {os : List (List UInt8)} {w : List It} {e : En} (h : e ∈ putsM t os w) : ∃ x ∈ w, e = ⟨x.p, 1, isB os x.p, x.n⟩ := by
  unfold putsM at h
  obtain ⟨x, hx, h⟩ := List.mem_flatMap.1 h
  refine ⟨x, hx, ?_⟩
  unfold putM at h
  split at h
  · rename_i h1; rw [List.mem_singleton.1 h, h1]
  · rename_i h1
    split at h
    · rw [List.mem_singleton.1 h]; simp only [Bool.not_eq_true] at h1; rw [h1]
    · simp at h

def SrtE (l : List En) : Prop := l.Pairwise fun x y => bltL x.p y.p = true
theorem entM_cons (y : En) (l : List En) (e : En) : entM (y :: l) e = if bltL y.p e.p then y :: entM l e else e :: y :: l := by
  unfold entM entN
  rw [List.takeWhile_cons]
  split <;> simp
theorem entM_nil (e : En) : entM [] e = [e] := rfl
theorem entM_mem {l : List En} {e x : En} : x ∈ entM l e ↔ x ∈ l ∨ x = e := by
  induction l with
  | nil => simp [entM_nil]
  | cons y l ih =>
    rw [entM_cons]
    split
    · rw [List.mem_cons, ih, List.mem_cons, or_assoc]
    · simp only [List.mem_cons]
      constructor
      · rintro (h | h | h)
        · exact .inr h
        · exact .inl (.inl h)
        · exact .inl (.inr h)
      · rintro ((h | h) | h)
        · exact .inr (.inl h)
        · exact .inr (.inr h)
        · exact .inl h
theorem entM_srt {l : List En} {e : En} (h : SrtE l) (hn : ∀ x ∈ l, x.p ≠ e.p) : SrtE (entM l e) := by
  induction l with
  | nil => rw [entM_nil]; exact List.pairwise_singleton _ _
  | cons y l ih =>
    obtain ⟨h1, h2⟩ := List.pairwise_cons.1 h
    rw [entM_cons]
    split
    · rename_i hb
      refine List.pairwise_cons.2 ⟨fun x hx => ?_, ih h2 fun x hx => hn x (List.mem_cons_of_mem _ hx)⟩
      rcases entM_mem.1 hx with hx | rfl
      · exact h1 x hx
      · exact hb
    · rename_i hb
      have hlt : bltL e.p y.p = true := by
        cases hc : bltL e.p y.p
        · exact absurd (blt_tri (by simpa using hb) hc) (hn y List.mem_cons_self)
        · rfl
      refine List.pairwise_cons.2 ⟨fun x hx => ?_, h⟩
      rcases List.mem_cons.1 hx with rfl | hx
      · exact hlt
      · exact blt_trans hlt (h1 x hx)
theorem putsM_srt {t : List It} {os : List (List UInt8)} {w : List It} (h : Srt w) : SrtE (putsM t os w) := by
  induction w with
  | nil => exact List.Pairwise.nil
  | cons x w ih =>
    obtain ⟨h1, h2⟩ := List.pairwise_cons.1 h
    have e : putsM t os (x :: w) = putM t os x ++ putsM t os w := by unfold putsM; rw [List.flatMap_cons]
    rw [e]
    have hl : ∀ y ∈ putM t os x, y.p = x.p := fun y hy => by
      have : y ∈ putsM t os [x] := by unfold putsM; simpa using hy
      obtain ⟨z, hz, e⟩ := putsM_mem this
      rw [List.mem_singleton.1 hz] at e
      rw [e]
    refine List.pairwise_append.2 ⟨?_, ih h2, fun y hy z hz => ?_⟩
    · unfold putM
      split
      · exact List.pairwise_singleton _ _
      · split
        · exact List.pairwise_singleton _ _
        · exact List.Pairwise.nil
    · obtain ⟨v, hv, e⟩ := putsM_mem hz
      rw [hl y hy, e]
      exact h1 v hv

theorem gones_ok {w : List It} {os : List (List UInt8)} : ∀ {r : List It} {out : List En}, Srt r → SrtE out → (∀ e ∈ out, ∀ y ∈ r, (getR w y.p).isSome = false → e.p ≠ y.p) →
    SrtE (r.foldl (goneM w os) out) ∧ ∀ e, e ∈ r.foldl (goneM w os) out ↔ e ∈ out ∨ ∃ y ∈ r, e = goneE y.p ∧ (getR w y.p).isSome = false ∧ covM w os y.p = false
  | [], out, _, h, _ => ⟨h, fun e => by simp⟩
  | y :: r, out, hr, h, hn => by
    obtain ⟨h1, h2⟩ := List.pairwise_cons.1 hr
    rw [List.foldl_cons]
    unfold goneM
    split
    · rename_i hc
      obtain ⟨h3, h4⟩ := gones_ok (w := w) (os := os) h2 h fun e he z hz => hn e he z (List.mem_cons_of_mem _ hz)
      refine ⟨h3, fun e => (h4 e).trans ?_⟩
      constructor
      · rintro (h | ⟨z, hz, h⟩)
        · exact .inl h
        · exact .inr ⟨z, List.mem_cons_of_mem _ hz, h⟩
      · rintro (h | ⟨z, hz, h, h5, h6⟩)
        · exact .inl h
        · rcases List.mem_cons.1 hz with rfl | hz
          · rw [h5, h6] at hc; cases hc
          · exact .inr ⟨z, hz, h, h5, h6⟩
    · rename_i hc
      simp only [Bool.not_eq_true, Bool.or_eq_false_iff] at hc
      have hs := entM_srt (e := goneE y.p) h fun x hx => hn x hx y List.mem_cons_self hc.1
      obtain ⟨h3, h4⟩ := gones_ok (w := w) (os := os) (out := entM out (goneE y.p)) h2 hs fun e he z hz hg => by
        rcases entM_mem.1 he with he | rfl
        · exact hn e he z (List.mem_cons_of_mem _ hz) hg
        · intro e2
          have := h1 z hz
          rw [show (goneE y.p).p = y.p from rfl] at e2
          rw [e2, blt_irrefl] at this
          cases this
      refine ⟨h3, fun e => (h4 e).trans ?_⟩
      rw [entM_mem]
      constructor
      · rintro ((h | h) | ⟨z, hz, h⟩)
        · exact .inl h
        · exact .inr ⟨y, List.mem_cons_self, h, hc⟩
        · exact .inr ⟨z, List.mem_cons_of_mem _ hz, h⟩
      · rintro (h | ⟨z, hz, h⟩)
        · exact .inl (.inl h)
        · rcases List.mem_cons.1 hz with rfl | hz
          · exact .inl (.inr h.1)
          · exact .inr ⟨z, hz, h⟩
theorem gones_len (w : List It) (os : List (List UInt8)) : ∀ (r : List It) (out : List En), (r.foldl (goneM w os) out).length ≤ out.length + r.length
  | [], out => Nat.le_refl _
  | y :: r, out => by
    have h1 := goneM_len w os out y
    have h2 := gones_len w os r (goneM w os out y)
    rw [List.foldl_cons, List.length_cons]
    omega

theorem getR_isNone {w : List It} {p : List UInt8} (h : (getR w p).isSome = false) : ∀ x ∈ w, Srt w → x.p ≠ p := fun x hx hs e => by
  rw [← e, getR_self hs hx] at h
  cases h

theorem make_mem {t w : List It} (ht : OkT t) (hw : OkT w) : SrtE (makeF t w) ∧ ∀ e, e ∈ makeF t w ↔ e ∈ putsM t (opqM t w) w ∨ ∃ y ∈ t, e = goneE y.p ∧ (getR w y.p).isSome = false ∧ covM w (opqM t w) y.p = false :=
  gones_ok ht.srt (putsM_srt hw.srt) fun e he y _ hg => by
    obtain ⟨x, hx, rfl⟩ := putsM_mem he
    exact getR_isNone hg x hx hw.srt

theorem opq_dir {t w : List It} (hw : OkT w) {x : It} (hx : x ∈ w) (h : isB (opqM t w) x.p = true) : opqB t w x = true := by
  unfold isB opqM at h
  rw [List.any_eq_true] at h
  obtain ⟨q, hq, e⟩ := h
  obtain ⟨z, hz, rfl⟩ := List.mem_map.1 hq
  obtain ⟨hz, hb⟩ := List.mem_filter.1 hz
  have e := eq_of_beq e
  have h1 := getR_self hw.srt hz
  have h2 := getR_self hw.srt hx
  rw [e, h2] at h1
  have hn : x.n = z.n := Option.some.inj h1
  have : x = z := by cases x; cases z; simp only at e hn; subst e; subst hn; rfl
  rw [this]; exact hb

theorem make_ok {t w : List It} (ht : OkT t) (hw : OkT w) : OkE (makeF t w) := by
  obtain ⟨hs, hm⟩ := make_mem ht hw
  have hc : ∀ e ∈ makeF t w, (∃ x ∈ w, e = ⟨x.p, 1, isB (opqM t w) x.p, x.n⟩) ∨ ∃ y ∈ t, e = goneE y.p ∧ (getR w y.p).isSome = false ∧ covM w (opqM t w) y.p = false := fun e he => by
    rcases (hm e).1 he with h | h
    · exact .inl (putsM_mem h)
    · exact .inr h
  refine ⟨fun e he => ?_, hs, List.pairwise_iff_getElem.2 fun i j hi hj _ => ?_, fun e he => ?_, ?_⟩
  · rcases hc e he with ⟨x, hx, rfl⟩ | ⟨y, hy, rfl, _⟩
    · obtain ⟨h1, h2, h3, _⟩ := hw.its x hx
      have h1 : (x.p == []) = false := by simpa using h1
      simp only [mayE, h1, h2, h3, Bool.not_false, Bool.true_and, show ((1 : Int) == 2) = false from rfl, show ((1 : Int) == 1) = true from rfl, Bool.false_eq_true, if_false]
      cases ho : isB (opqM t w) x.p
      · rfl
      · have := opq_dir hw hx ho
        unfold opqB at this
        simp only [Bool.and_eq_true] at this
        rw [this.1.1]; rfl
    · obtain ⟨h1, h2, _⟩ := ht.its y hy
      have h1 : (y.p == []) = false := by simpa using h1
      simp only [mayE, goneE, h1, h2]
      rfl
  · have hy := hc _ (List.getElem_mem hi)
    have hx := hc _ (List.getElem_mem hj)
    generalize (makeF t w)[i] = y at hy
    generalize (makeF t w)[j] = x at hx
    cases hsh : shutE y
    · rfl
    · cases hb : belowR y.p x.p
      · rfl
      · exfalso
        have hyp : y.p ≠ [] := by
          rcases hy with ⟨v, hv, rfl⟩ | ⟨v, hv, rfl, _⟩
          · exact hw.ne v hv
          · exact ht.ne v hv
        have hdir : ∃ m, getR w y.p = some m ∧ (m.k == 2) = true := by
          rcases hx with ⟨v, hv, rfl⟩ | ⟨v, hv, rfl, _, h6⟩
          · exact par_kind hw.par hyp _ _ (Nat.le_refl _) (by rw [getR_self hw.srt hv]; rfl) hb
          · exact (covM_spec hyp h6 hb).1
        obtain ⟨m, h1, h2⟩ := hdir
        rcases hy with ⟨v, hv, rfl⟩ | ⟨v, hv, rfl, h5, _⟩
        · rw [show (En.mk v.p 1 (isB (opqM t w) v.p) v.n).p = v.p from rfl, getR_self hw.srt hv] at h1
          have h1 := Option.some.inj h1
          unfold shutE at hsh
          simp only [h1, bne, h2] at hsh
          cases hsh
        · rw [show (goneE v.p).p = v.p from rfl] at h1
          rw [h1] at h5
          cases h5
  · rcases hc e he with ⟨x, hx, rfl⟩ | ⟨y, hy, rfl, _⟩
    · exact hw.tlen x hx
    · show (0 : Nat) < 18446744073709551616; decide
  · have h1 := gones_len w (opqM t w) t (putsM t (opqM t w) w)
    have h2 := putsM_len t (opqM t w) w
    have h3 := ht.len
    have h4 := hw.len
    unfold makeF
    omega
end Go.Dm

end

section
/-
  Layers: what shows at a path. No program in sight.
-/

set_option linter.unusedSimpArgs false
set_option linter.unusedVariables false
namespace Go.Dm
open Go

def En.cv (x : En) : List CV := [.p (.s x.p), .p (.i .i64 x.k), .p (.b x.o), .p (.i .i64 x.n.k), .p (.i .i64 x.n.m), .p (.f x.n.t), .p (.sl 1 (encB x.n.d))]
end Go.Dm

end

section
/-
  Layers of trees, each over the one ahead. No program in sight.
-/

set_option linter.unusedSimpArgs false
set_option linter.unusedVariables false
namespace Go.Dm
open Go
def encII (l : List (List RI)) : List (List PV) := l.map fun x => [.sl 6 (encI x)]
def encUU (l : List (List RU)) : List (List PV) := l.map fun x => [.sl 8 (encU x)]
def encTs (l : List (List It)) : List (List PV) := l.map fun x => [.sl 5 (encT x)]
theorem encII_len (l : List (List RI)) : (encII l).length = l.length := by simp [encII]
theorem encUU_len (l : List (List RU)) : (encUU l).length = l.length := by simp [encUU]
theorem encTs_len (l : List (List It)) : (encTs l).length = l.length := by simp [encTs]
theorem encII_one (t : List (List RI)) : (∀ x ∈ encII t, x.length = 1) = True := eq_true fun x hx => by
  obtain ⟨y, _, rfl⟩ := List.mem_map.1 hx; rfl
theorem encUU_one (t : List (List RU)) : (∀ x ∈ encUU t, x.length = 1) = True := eq_true fun x hx => by
  obtain ⟨y, _, rfl⟩ := List.mem_map.1 hx; rfl
theorem encTs_one (t : List (List It)) : (∀ x ∈ encTs t, x.length = 1) = True := eq_true fun x hx => by
  obtain ⟨y, _, rfl⟩ := List.mem_map.1 hx; rfl
theorem encTs_snoc (t : List (List It)) (l : List It) : encTs t ++ [[.sl 5 (encT l)]] = encTs (t ++ [l]) := by simp [encTs]
theorem encTs_nil : encTs [] = [] := rfl
attribute [go_sem] encII_len encUU_len encTs_len encII_one encUU_one encTs_one encTs_snoc encTs_nil

end Go.Dm

end

section
/-
  Layers: what a layer does at a path; that the layer made of two trees leads from the one to the other; what shows at a path is what is folded. No program in sight.
-/

set_option linter.unusedSimpArgs false
set_option linter.unusedVariables false
namespace Go.Dm
open Go

/-! A layer's entries by their paths. -/
theorem srtE_inj : ∀ {l : List En}, SrtE l → ∀ x ∈ l, ∀ y ∈ l, x.p = y.p → x = y
  | [], _, x, hx, _, _, _ => by cases hx
  | z :: l, h, x, hx, y, hy, e => by
    obtain ⟨h1, h2⟩ := List.pairwise_cons.1 h
    rcases List.mem_cons.1 hx with e1 | g1 <;> rcases List.mem_cons.1 hy with e2 | g2
    · rw [e1, e2]
    · have := blt_ne (h1 y g2); rw [← e1, e] at this; simp at this
    · have := blt_ne (h1 x g1); rw [← e2, e] at this; simp at this
    · exact srtE_inj h2 x g1 y g2 e
/-! The layer that is made leads from the one tree to the other. -/
theorem OkE.ne {l : List En} (h : OkE l) : ∀ x ∈ l, x.p ≠ [] := fun x hx e => by
  have := h.may x hx
  unfold mayE at this
  rw [e] at this
  cases this
/-! What shows at a path is what is folded. -/
end Go.Dm

end

section
/-
  Layers: of a tree and itself there is nothing; no entry could be left out. No program in sight.
-/

set_option linter.unusedSimpArgs false
set_option linter.unusedVariables false
namespace Go.Dm
open Go

end Go.Dm

end

section
/-
  Layers: which lists of entries may be; their bytes, laid and read. No program in sight.
-/

set_option linter.unusedSimpArgs false
set_option linter.unusedVariables false
namespace Go.Dm
open Go

def aheadE (pre : List En) (p : List UInt8) : Bool := match pre.getLast? with
  | some y => bltL y.p p
  | none => true
def openE (pre : List En) (p : List UInt8) : Bool := pre.all fun y => !(shutE y && belowR y.p p)
def stepE (pre : List En) (x : En) : Bool := mayE x && (aheadE pre x.p && openE pre x.p)
def rightGE : List En → List En → Bool
  | _, [] => true
  | pre, x :: r => stepE pre x && rightGE (pre ++ [x]) r
/-- May a list of entries be a layer? -/
def rightE (l : List En) : Bool := rightGE [] l
theorem getLast_takeE {t : List En} {k : Nat} (hk : 0 < k) (hl : k ≤ t.length) : (t.take k).getLast? = t[k - 1]? := by
  rw [List.getLast?_eq_getElem?, List.length_take, Nat.min_eq_left hl, List.getElem?_take, if_pos (by omega)]
theorem srtE_snoc {t : List En} {x : En} (h : SrtE t) (ha : aheadE t x.p = true) : SrtE (t ++ [x]) := by
  refine List.pairwise_append.2 ⟨h, by simp, fun y hy z hz => ?_⟩
  have : z = x := by simpa using hz
  subst this
  unfold aheadE at ha
  obtain ⟨i, hi, rfl⟩ := List.mem_iff_getElem.1 hy
  rw [List.getLast?_eq_getElem?, List.getElem?_eq_getElem (by omega)] at ha
  simp only at ha
  rcases Nat.lt_or_ge i (t.length - 1) with h1 | h1
  · exact blt_trans (List.pairwise_iff_getElem.1 h i (t.length - 1) hi (by omega) h1) ha
  · have : i = t.length - 1 := by omega
    subst this; exact ha
theorem rightGE_ok : ∀ {r pre : List En}, (∀ x ∈ pre, mayE x = true) → SrtE pre → (pre.Pairwise fun y x => (shutE y && belowR y.p x.p) = false) → rightGE pre r = true → (∀ x ∈ pre ++ r, mayE x = true) ∧ SrtE (pre ++ r) ∧ (pre ++ r).Pairwise fun y x => (shutE y && belowR y.p x.p) = false
  | [], pre, hm, hs, ho, _ => by rw [List.append_nil]; exact ⟨hm, hs, ho⟩
  | x :: r, pre, hm, hs, ho, h => by
    rw [rightGE, Bool.and_eq_true] at h
    obtain ⟨h1, h2⟩ := h
    unfold stepE at h1
    simp only [Bool.and_eq_true] at h1
    obtain ⟨a1, a2, a3⟩ := h1
    have := rightGE_ok (r := r) (pre := pre ++ [x]) (fun y hy => by
      rcases List.mem_append.1 hy with hy | hy
      · exact hm y hy
      · rw [List.mem_singleton.1 hy]; exact a1) (srtE_snoc hs a2) (List.pairwise_append.2 ⟨ho, by simp, fun y hy z hz => by
        rw [List.mem_singleton.1 hz]
        have := List.all_eq_true.1 a3 y hy
        simpa only [Bool.not_eq_true'] using this⟩) h2
    rwa [List.append_assoc] at this
theorem rightE_ok {l : List En} (h : rightE l = true) : (∀ x ∈ l, mayE x = true) ∧ SrtE l ∧ l.Pairwise fun y x => (shutE y && belowR y.p x.p) = false :=
  rightGE_ok (pre := []) (fun x hx => by cases hx) List.Pairwise.nil List.Pairwise.nil h
theorem rightE_okE {l : List En} (ht : ∀ x ∈ l, x.n.t < 18446744073709551616) (hl : l.length ≤ 1000) (h : rightE l = true) : OkE l :=
  ⟨(rightE_ok h).1, (rightE_ok h).2.1, (rightE_ok h).2.2, ht, hl⟩
theorem rightE_drop {l : List En} {k : Nat} {x : En} (h : l[k]? = some x) : rightGE (l.take k) (l.drop k) = (stepE (l.take k) x && rightGE (l.take (k + 1)) (l.drop (k + 1))) := by
  obtain ⟨hk, rfl⟩ := List.getElem?_eq_some_iff.1 h
  rw [List.drop_eq_getElem_cons hk, rightGE, List.take_add_one, h]
  rfl

/-! Bytes. -/
def layEn (x : En) : List UInt8 := textF x.p ++ (byteI x.k 0 :: (byteI (if x.o then 1 else 0) 0 :: (if !(x.k == 1) then [] else layNode x.n)))
def layEs (l : List En) : List UInt8 := u16F l.length ++ (l.map layEn).flatten
def Rd.enG (f : Nat → Bool) (r : Rd) : En × Rd :=
  let p := r.text
  let k := p.2.num 1
  let o := k.2.num 1
  let n := o.2.opt (!((k.1 : Int) == 1))
  (⟨p.1, k.1, f o.1, n.1⟩, n.2)
def Rd.enOk (r : Rd) : Bool :=
  let k := r.text.2.num 1
  (k.2.num 1).2.optOk (!((k.1 : Int) == 1))
def opP (n : Nat) : Bool := decide ((0 : Int) < n)
def opR (n : Nat) : Bool := (n : Int) == 1
/-- Entries as the program reads them: what is no node is an empty one. -/
def Rd.ensP : Nat → Rd → List En
  | 0, _ => []
  | n + 1, r => if r.l then [] else (r.enG opP).1 :: Rd.ensP n (r.enG opP).2
/-- Entries as the document reads them: what is no node ends it. -/
def Rd.ensR : Nat → Rd → Option (List En × Rd)
  | 0, r => some ([], r)
  | n + 1, r => if r.l then some ([], r) else if r.enOk then
      match Rd.ensR n (r.enG opR).2 with
      | some (t, q) => some ((r.enG opR).1 :: t, q)
      | none => none
    else none
theorem mayE_nodes {x : En} (h : mayE x = true) : ((!(x.k == 1)) = true → x.n = nd0) ∧ ((!(x.k == 1)) = false → rightNodeR x.n = true) ∧ (0 ≤ x.k ∧ x.k < 256) ∧ isPathR x.p = true := by
  unfold mayE at h
  simp only [Bool.and_eq_true] at h
  obtain ⟨_, h1, h2⟩ := h
  cases hk : x.k == 2
  · rw [hk, if_neg (by decide)] at h2
    simp only [Bool.and_eq_true] at h2
    have h3 := eq_of_beq h2.1.1
    refine ⟨fun e => ?_, fun _ => h2.1.2, by omega, h1⟩
    rw [h3] at e; cases e
  · rw [hk, if_pos rfl] at h2
    simp only [Bool.and_eq_true] at h2
    have h3 := eq_of_beq hk
    refine ⟨fun _ => zero_eq h2.2, fun e => ?_, by omega, h1⟩
    rw [h3] at e; cases e
theorem en_app {x : En} (h : mayE x = true) (hn : x.n.wf) (f : Nat → Bool) (h0 : f 0 = false) (h1 : f 1 = true) (r : List UInt8) : (Rd.mk (layEn x ++ r) false).enG f = (x, ⟨r, false⟩) ∧ (Rd.mk (layEn x ++ r) false).enOk = true := by
  obtain ⟨m1, m2, ⟨m5, m6⟩, m7⟩ := mayE_nodes h
  have hp : x.p.length < 65536 := by have := isPathR_len m7; omega
  obtain ⟨n1, n2⟩ := opt_app (n := x.n) (b := !(x.k == 1)) m1 m2 hn r
  have hk : ((x.k.toNat : Nat) : Int) = x.k := by omega
  have ho : (0 : Int) ≤ (if x.o then 1 else 0) ∧ (if x.o then (1 : Int) else 0) < 256 := by cases x.o <;> decide
  have hf : f (if x.o then (1 : Int) else 0).toNat = x.o := by cases x.o <;> simp [h0, h1]
  unfold Rd.enG Rd.enOk layEn
  simp only [List.append_assoc, List.cons_append, text_app hp, num_u8 m5 m6, num_u8 ho.1 ho.2, hk, hf, n1, n2]
  exact ⟨by first | trivial | rfl, by first | trivial | rfl⟩
theorem ensP_app : ∀ {t : List En} (_ : ∀ x ∈ t, mayE x = true ∧ x.n.wf) (r : List UInt8), Rd.ensP t.length ⟨(t.map layEn).flatten ++ r, false⟩ = t
  | [], _, r => rfl
  | x :: t, h, r => by
    obtain ⟨h1, h2⟩ := h x List.mem_cons_self
    have ih := ensP_app (t := t) (fun y hy => h y (List.mem_cons_of_mem _ hy)) r
    obtain ⟨e1, e2⟩ := en_app h1 h2 opP (by decide) (by decide) ((t.map layEn).flatten ++ r)
    simp only [List.length_cons, Rd.ensP, List.map_cons, List.flatten_cons, List.append_assoc, e1, ih, Bool.false_eq_true, if_false]
theorem ensR_app : ∀ {t : List En} (_ : ∀ x ∈ t, mayE x = true ∧ x.n.wf) (r : List UInt8), Rd.ensR t.length ⟨(t.map layEn).flatten ++ r, false⟩ = some (t, ⟨r, false⟩)
  | [], _, r => rfl
  | x :: t, h, r => by
    obtain ⟨h1, h2⟩ := h x List.mem_cons_self
    have ih := ensR_app (t := t) (fun y hy => h y (List.mem_cons_of_mem _ hy)) r
    obtain ⟨e1, e2⟩ := en_app h1 h2 opR (by decide) (by decide) ((t.map layEn).flatten ++ r)
    simp only [List.length_cons, Rd.ensR, List.map_cons, List.flatten_cons, List.append_assoc, e1, e2, ih, Bool.false_eq_true, if_false, if_true]
def okEn (x : En) : Prop := x.p.length ≤ 65535 ∧ (x.n.t < 18446744073709551616 ∧ x.n.d.length ≤ 65535) ∧ 0 ≤ x.k ∧ x.k < 256
theorem Rd.enG_ok (f : Nat → Bool) (r : Rd) : okEn (r.enG f).1 := by
  refine ⟨r.text_le, Rd.opt_t _ _, ?_, ?_⟩
  · show (0 : Int) ≤ ((r.text.2.num 1).1 : Nat); omega
  · have := (r.text.2).num_lt1
    show ((r.text.2.num 1).1 : Nat) < (256 : Int); omega
theorem ensP_len : ∀ (n : Nat) (r : Rd), (Rd.ensP n r).length ≤ n
  | 0, _ => Nat.le_refl 0
  | n + 1, r => by
    rw [Rd.ensP]
    split
    · exact Nat.zero_le _
    · exact Nat.succ_le_succ (ensP_len n _)
theorem ensP_all : ∀ (n : Nat) (r : Rd), ∀ x ∈ Rd.ensP n r, okEn x
  | 0, _, x, hx => by cases hx
  | n + 1, r, x, hx => by
    rw [Rd.ensP] at hx
    split at hx
    · cases hx
    · rcases List.mem_cons.1 hx with rfl | hx
      · exact r.enG_ok _
      · exact ensP_all n _ x hx
theorem ensR_all : ∀ {n : Nat} {r q : Rd} {t : List En}, Rd.ensR n r = some (t, q) → t.length ≤ n ∧ ∀ x ∈ t, okEn x
  | 0, r, q, t, h => by
    simp only [Rd.ensR, Option.some.injEq, Prod.mk.injEq] at h
    obtain ⟨rfl, rfl⟩ := h
    exact ⟨Nat.le_refl _, fun x hx => by cases hx⟩
  | n + 1, r, q, t, h => by
    rw [Rd.ensR] at h
    split at h
    · simp only [Option.some.injEq, Prod.mk.injEq] at h
      obtain ⟨rfl, rfl⟩ := h
      exact ⟨Nat.zero_le _, fun x hx => by cases hx⟩
    · split at h
      · split at h
        · rename_i t' q' he
          simp only [Option.some.injEq, Prod.mk.injEq] at h
          obtain ⟨rfl, rfl⟩ := h
          obtain ⟨h1, h2⟩ := ensR_all he
          refine ⟨by rw [List.length_cons]; omega, fun x hx => ?_⟩
          rcases List.mem_cons.1 hx with rfl | hx
          · exact r.enG_ok _
          · exact h2 x hx
        · cases h
      · cases h
/-- What the program reads. -/
def readE (z : List UInt8) : List En := let c := (Rd.mk z false).num 2; Rd.ensP c.1 c.2
def readEOk (z : List UInt8) : Bool := rightE (readE z) && (layEs (readE z) == z)
def readEs (z : List UInt8) : List En × Int := if readEOk z then (readE z, 0) else ([], 2)
/-- What the document reads. -/
def refReadE (z : List UInt8) : List En × Int :=
  let c := (Rd.mk z false).num 2
  match Rd.ensR c.1 c.2 with
  | none => ([], 2)
  | some (t, q) => if !rightE t || (q.l || !(layEs t == z)) then ([], 2) else (t, 0)
theorem readE_len (z : List UInt8) : (readE z).length ≤ 65535 := by
  have h1 := ensP_len ((Rd.mk z false).num 2).1 ((Rd.mk z false).num 2).2
  have h2 := (Rd.mk z false).num_lt2
  unfold readE; simp only; omega
theorem readE_all (z : List UInt8) : ∀ x ∈ readE z, okEn x := ensP_all _ _
theorem lay_num {t : List En} (hl : t.length ≤ 65535) : (Rd.mk (layEs t) false).num 2 = (t.length, ⟨(t.map layEn).flatten, false⟩) := by
  have k1 := num_u16 (z := t.length) (by omega) (by omega) ((t.map layEn).flatten)
  have e : ((t.length : Int)).toNat = t.length := by omega
  rw [e] at k1
  exact k1
theorem readE_lay {t : List En} (h : rightE t = true) (hw : ∀ x ∈ t, x.n.wf) (hl : t.length ≤ 65535) : readE (layEs t) = t := by
  have k2 := ensP_app (t := t) (fun x hx => ⟨(rightE_ok h).1 x hx, hw x hx⟩) []
  rw [List.append_nil] at k2
  unfold readE
  rw [lay_num hl]
  exact k2
theorem readEs_lay {t : List En} (h : rightE t = true) (hw : ∀ x ∈ t, x.n.wf) (hl : t.length ≤ 65535) : readEs (layEs t) = (t, 0) := by
  unfold readEs readEOk
  rw [readE_lay h hw hl, h]; simp
theorem refReadE_lay {t : List En} (h : rightE t = true) (hw : ∀ x ∈ t, x.n.wf) (hl : t.length ≤ 65535) : refReadE (layEs t) = (t, 0) := by
  have k2 := ensR_app (t := t) (fun x hx => ⟨(rightE_ok h).1 x hx, hw x hx⟩) []
  rw [List.append_nil] at k2
  unfold refReadE
  simp only [lay_num hl, k2, h]
  simp
theorem readEs_ref (z : List UInt8) : readEs z = refReadE z := by
  by_cases hc : readEOk z = true
  · unfold readEs
    rw [if_pos hc]
    unfold readEOk at hc
    rw [Bool.and_eq_true] at hc
    have h2 := eq_of_beq hc.2
    have := refReadE_lay hc.1 (fun x hx => (readE_all z x hx).2.1.1) (readE_len z)
    rw [h2] at this
    exact this.symm
  · have e : readEs z = ([], 2) := by unfold readEs; rw [if_neg hc]
    rw [e]
    unfold refReadE
    simp only
    cases he : Rd.ensR ((Rd.mk z false).num 2).1 ((Rd.mk z false).num 2).2 with
    | none => rfl
    | some x =>
      obtain ⟨t, q⟩ := x
      simp only
      split
      · rfl
      · rename_i hq
        exfalso
        simp only [Bool.or_eq_true, Bool.not_eq_true', not_or, Bool.not_eq_false, Bool.not_eq_true] at hq
        obtain ⟨q1, _, q3⟩ := hq
        obtain ⟨h1, h2⟩ := ensR_all he
        have h3 := (Rd.mk z false).num_lt2
        have hr := readEs_lay q1 (fun x hx => (h2 x hx).2.1.1) (by omega)
        rw [eq_of_beq q3, e] at hr
        cases hr
theorem layEn_len (x : En) : (layEn x).length ≤ 17 + x.p.length + x.n.d.length := by
  unfold layEn textF
  simp only [List.length_append, List.length_cons, u16F_len]
  split
  · simp only [List.length_nil]; omega
  · rw [layNode_len]; omega
theorem layEs_len {t : List En} (h : ∀ x ∈ t, x.p.length ≤ 65535 ∧ x.n.d.length ≤ 65535) : (layEs t).length ≤ 2 + 140000 * t.length := by
  have key : ∀ t : List En, (∀ x ∈ t, x.p.length ≤ 65535 ∧ x.n.d.length ≤ 65535) → (t.map layEn).flatten.length ≤ 140000 * t.length := by
    intro t
    induction t with
    | nil => intro _; simp
    | cons x t ih =>
      intro h
      have h1 := h x List.mem_cons_self
      have h2 := layEn_len x
      have h3 := ih fun y hy => h y (List.mem_cons_of_mem _ hy)
      rw [List.map_cons, List.flatten_cons, List.length_append, List.length_cons]
      omega
  have := key t h
  unfold layEs
  rw [List.length_append, u16F_len]
  omega
end Go.Dm

end

section
/-
  Layers: what the program makes of two trees is what the document makes. No program in sight.
-/

set_option linter.unusedSimpArgs false
set_option linter.unusedVariables false
namespace Go.Dm
open Go Go.Sort Go.Proofs

def keptM (t w : List It) (p : List UInt8) : Bool := t.any fun y => belowR p y.p && (getR w y.p).isSome
def opaqueM (t w : List It) (p : List UInt8) : Bool := isDirR w p && (isDirR t p && (!decide (((namesF t p).length : Int) < 2) && !keptM t w p))
theorem kept_stays (t w : List It) (p : List UInt8) : keptM t w p = staysB t w p := by
  unfold keptM staysB
  congr 1
  funext y
  rw [Bool.and_comm]
theorem isB_of {t w : List It} {x : It} (hx : x ∈ w) (h : opqB t w x = true) : isB (opqM t w) x.p = true :=
  List.any_eq_true.2 ⟨x.p, List.mem_map.2 ⟨x, List.mem_filter.2 ⟨hx, h⟩, rfl⟩, beq_self_eq_true _⟩
theorem opaque_isB {t w : List It} (hw : OkT w) {x : It} (hx : x ∈ w) : ((x.n.k == 2) && opaqueM t w x.p) = isB (opqM t w) x.p := by
  have h0 : (x.p == []) = false := by simpa using hw.ne x hx
  have h1 : isDirR w x.p = (x.n.k == 2) := by
    unfold isDirR
    rw [getR_self hw.srt hx, h0, Bool.false_or]
  have h2 : ((x.n.k == 2) && opaqueM t w x.p) = opqB t w x := by
    unfold opaqueM opqB hasDirB
    rw [h1, h0, kept_stays]
    cases x.n.k == 2 <;> cases isDirR t x.p <;> simp
  rw [h2]
  cases hb : isB (opqM t w) x.p
  · cases ho : opqB t w x
    · rfl
    · rw [isB_of hx ho] at hb; cases hb
  · exact opq_dir hw hx hb
/-- What the program asks of a path on its way up. -/
def hidQ (t w : List It) (q : List UInt8) : Bool := !(getR w q).isSome || (!isDirR w q || opaqueM t w q)
theorem hid_eq {t w : List It} (hw : OkT w) {q : List UInt8} (hq : q ≠ []) : hidQ t w q = (!(getR w q).isSome || (((getR w q).getD nd0).k != 2 || isB (opqM t w) q)) := by
  have h0 : (q == []) = false := by simpa using hq
  unfold hidQ
  cases hg : getR w q with
  | none => rfl
  | some n =>
    obtain ⟨x, hx, rfl, rfl⟩ := getR_mem hg
    have h1 : isDirR w x.p = (x.n.k == 2) := by
      unfold isDirR
      rw [hg, h0, Bool.false_or]
    have h2 := opaque_isB (t := t) hw hx
    rw [h1, Option.isSome_some, Option.getD_some, ← h2]
    cases hk : x.n.k == 2 <;> simp [bne, hk]

def gonesM (t w : List It) : List En := (t.filter fun y => !(getR w y.p).isSome && !covM w (opqM t w) y.p).map fun y => goneE y.p
/-- Entries as the program lays them down, not yet in order. -/
def makeL (t w : List It) : List En := putsM t (opqM t w) w ++ gonesM t w
theorem make_mem' {t w : List It} (ht : OkT t) (hw : OkT w) (e : En) : e ∈ makeF t w ↔ e ∈ makeL t w := by
  rw [(make_mem ht hw).2 e]
  unfold makeL gonesM
  rw [List.mem_append, List.mem_map]
  constructor
  · rintro (h | ⟨y, hy, rfl, h1, h2⟩)
    · exact .inl h
    · exact .inr ⟨y, List.mem_filter.2 ⟨hy, by rw [h1, h2]; rfl⟩, rfl⟩
  · rintro (h | ⟨y, hy, rfl⟩)
    · exact .inl h
    · obtain ⟨h1, h2⟩ := List.mem_filter.1 hy
      simp only [Bool.and_eq_true, Bool.not_eq_true'] at h2
      exact .inr ⟨y, h1, rfl, h2.1, h2.2⟩
theorem srtE_nodup {l : List En} (h : SrtE l) : l.Nodup := h.imp fun {a b} h e => by subst e; rw [blt_irrefl] at h; cases h
theorem makeL_nodup {t w : List It} (ht : OkT t) (hw : OkT w) : (makeL t w).Nodup := by
  unfold makeL
  refine List.nodup_append.2 ⟨srtE_nodup (putsM_srt hw.srt), ?_, fun a ha b hb e => ?_⟩
  · have : (gonesM t w).Pairwise fun x y => bltL x.p y.p = true := List.pairwise_map.2 ((ht.srt.filter _).imp fun h => h)
    exact srtE_nodup this
  · obtain ⟨x, hx, rfl⟩ := putsM_mem ha
    obtain ⟨y, _, rfl⟩ := List.mem_map.1 hb
    injection e with _ h _ _
    cases h
/-- Entries in order. -/
def leE (x y : En) : Bool := !bltL y.p x.p
def sortE (l : List En) : List En := l.mergeSort leE
theorem sortE_perm (l : List En) : (sortE l).Perm l := List.mergeSort_perm _ _
theorem sortE_len (l : List En) : (sortE l).length = l.length := List.length_mergeSort ..
theorem sortE_sorted (l : List En) : (sortE l).Pairwise fun x y => bltL y.p x.p = false := by
  have h : (sortE l).Pairwise fun x y => leE x y = true := by
    refine List.pairwise_mergeSort (le := leE) ?_ ?_ _
    · intro a b c h1 h2
      simp only [leE, Bool.not_eq_true'] at h1 h2 ⊢
      cases e : bltL c.p a.p with
      | false => rfl
      | true =>
        cases f : bltL a.p b.p with
        | true => have := blt_trans e f; rw [h2] at this; cases this
        | false => have := blt_tri f h1; rw [← this, e] at h2; cases h2
    · intro a b
      simp only [leE]
      cases h : bltL b.p a.p with
      | false => simp
      | true => simp [blt_asymm h]
  exact h.imp fun h => by unfold leE at h; simpa using h
theorem cfE_total {l : List En} (hu : ∀ x ∈ l, ∀ y ∈ l, x.p = y.p → x = y) : ∀ x ∈ encE l, ∀ y ∈ encE l, ltOf cfI x y = false → ltOf cfI y x = false → x = y := by
  rw [lt_cfI]
  intro x hx y hy h k
  obtain ⟨a, ha, rfl⟩ := List.mem_map.1 hx
  obtain ⟨b, hb, rfl⟩ := List.mem_map.1 hy
  rw [hu a ha b hb (blt_tri h k)]
theorem encE_sort (l : List En) : (encE l).mergeSort (leBy (ltOf cfI)) = encE (sortE l) := by
  rw [lt_cfI]
  unfold encE sortE
  exact (List.map_mergeSort (r := leE) (s := leBy ltVI) (f := En.cs) (l := l) fun a _ b _ => rfl).symm
theorem makeL_inj {t w : List It} (ht : OkT t) (hw : OkT w) : ∀ x ∈ makeL t w, ∀ y ∈ makeL t w, x.p = y.p → x = y :=
  fun x hx y hy e => srtE_inj (make_mem ht hw).1 x ((make_mem' ht hw x).2 hx) y ((make_mem' ht hw y).2 hy) e
theorem make_sort {t w : List It} (ht : OkT t) (hw : OkT w) : sortE (makeL t w) = makeF t w := by
  obtain ⟨hs, _⟩ := make_mem ht hw
  have hinj := makeL_inj ht hw
  have hnd : (sortE (makeL t w)).Nodup := (sortE_perm _).nodup_iff.2 (makeL_nodup ht hw)
  have hstrict : (sortE (makeL t w)).Pairwise fun x y => bltL x.p y.p = true := by
    refine ((sortE_sorted (makeL t w)).and hnd).imp_of_mem fun {a b} ha hb h => ?_
    obtain ⟨h1, h2⟩ := h
    cases h3 : bltL a.p b.p
    · exact absurd (hinj a ((sortE_perm _).mem_iff.1 ha) b ((sortE_perm _).mem_iff.1 hb) (blt_tri h3 h1)) h2
    · rfl
  exact List.Perm.eq_of_pairwise (le := fun (x y : En) => bltL x.p y.p = true) (fun _ _ _ _ h k => by rw [blt_asymm h] at k; cases k) hstrict hs
    ((List.perm_ext_iff_of_nodup hnd (srtE_nodup hs)).2 fun e => (sortE_perm _).mem_iff.trans (make_mem' ht hw e).symm)
end Go.Dm

end

section
/-
  Layers that are the same; layers and trees at their lists' weakened forms. No program in sight.
-/

set_option linter.unusedSimpArgs false
set_option linter.unusedVariables false
namespace Go.Dm
open Go
end Go.Dm

end
