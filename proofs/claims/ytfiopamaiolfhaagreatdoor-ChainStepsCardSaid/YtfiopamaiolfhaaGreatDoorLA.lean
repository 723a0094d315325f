import Derived.Test.YtfiopamaiolfhaaGreatDoorSU
import Derived.Test.YtfiopamaiolfhaaGreatDoorSD
import Derived.Test.YtfiopamaiolfhaaGreatDoorSC

section
/-
  Layers: entries, what one does to a tree, which may be. No program in sight.
-/

set_option linter.unusedSimpArgs false
set_option linter.unusedVariables false
namespace Go.Dm
open Go

structure En where
  p : List UInt8
  k : Int
  o : Bool
  n : Nd
def En.cs (x : En) : List PV := [.s x.p, .i .i64 x.k, .b x.o, .i .i64 x.n.k, .i .i64 x.n.m, .f x.n.t, .sl 1 (encB x.n.d)]
def encE (l : List En) : List (List PV) := l.map En.cs
theorem encE_len (l : List En) : (encE l).length = l.length := by simp [encE]
theorem encE_nil : encE [] = [] := rfl
theorem encE_at {t : List En} {k : Nat} {x : En} (h : t[k]? = some x) : (encE t).getD k [] = [.s x.p, .i .i64 x.k, .b x.o, .i .i64 x.n.k, .i .i64 x.n.m, .f x.n.t, .sl 1 (encB x.n.d)] := by
  simp only [encE, List.getD_eq_getElem?_getD, List.getElem?_map, h]
  rfl
theorem encE_one (t : List En) : (∀ x ∈ encE t, x.length = 7) = True := eq_true fun x hx => by
  obtain ⟨y, _, rfl⟩ := List.mem_map.1 hx
  rfl
theorem encE_take (a : List En) (n : Nat) : (encE a).take n = encE (a.take n) := by simp [encE]
theorem encE_drop (a : List En) (n : Nat) : (encE a).drop n = encE (a.drop n) := by simp [encE]
theorem encE_app (a b : List En) : encE a ++ encE b = encE (a ++ b) := by simp [encE]
theorem encE_snoc (t : List En) (p : List UInt8) (k : Int) (o : Bool) (nk nm : Int) (nt : Nat) (d : List UInt8) : encE t ++ [[.s p, .i .i64 k, .b o, .i .i64 nk, .i .i64 nm, .f nt, .sl 1 (encB d)]] = encE (t ++ [⟨p, k, o, ⟨nk, nm, nt, d⟩⟩]) := by simp [encE, En.cs]
theorem en_eta (x : En) : En.mk x.p x.k x.o x.n = x := rfl
attribute [go_sem] encE_len encE_nil encE_one encE_take encE_drop encE_app encE_snoc en_eta

def shutE (x : En) : Bool := x.k == 2 || x.n.k != 2
def coverE (t : List It) (x : En) : Bool := x.o || (shutE x || !isDirR t x.p)
def goE (t : List It) (x : En) (y : It) : Bool := y.p == x.p || (coverE t x && belowR x.p y.p)
def leftE (t : List It) (x : En) : List It := t.filter fun y => !goE t x y
def over1 (t : List It) (x : En) : List It := if x.k == 2 then leftE t x else setR (leftE t x) x.p x.n
def overs (t : List It) (l : List En) : List It := l.foldl over1 t
def overF (t : List It) (l : List En) : List It × Bool := if rightT (overs t l) then (overs t l, true) else ([], false)

theorem leftE_srt {t : List It} (h : Srt t) (x : En) : Srt (leftE t x) := h.filter _
theorem over1_srt {t : List It} (h : Srt t) (x : En) : Srt (over1 t x) := by
  unfold over1; split
  · exact leftE_srt h x
  · exact setR_srt (leftE_srt h x)
theorem overs_srt : ∀ {l : List En} {t : List It}, Srt t → Srt (overs t l)
  | [], _, h => h
  | x :: l, t, h => overs_srt (l := l) (over1_srt h x)
theorem leftE_len (t : List It) (x : En) : (leftE t x).length ≤ t.length := List.length_filter_le ..
theorem over1_len (t : List It) (x : En) : (over1 t x).length ≤ t.length + 1 := by
  have := leftE_len t x
  have := setR_len (leftE t x) x.p x.n
  unfold over1; split <;> omega
theorem leftE_no {t : List It} {x : En} : ∀ y ∈ leftE t x, (y.p == x.p) = false := fun y hy => by
  have := (List.mem_filter.1 hy).2
  simp only [goE, Bool.not_eq_true', Bool.or_eq_false_iff] at this
  exact this.1
theorem over1_mem {t : List It} {x : En} {y : It} (h : y ∈ over1 t x) : y = ⟨x.p, x.n⟩ ∨ y ∈ t := by
  unfold over1 at h
  split at h
  · exact .inr (List.mem_filter.1 h).1
  · rcases setL_mem h with h | h
    · exact .inl h
    · exact .inr (List.mem_filter.1 h).1

/-! As the document says it. -/
theorem setR_drop {p : List UInt8} {n : Nd} : ∀ {t : List It}, Srt t → setR (dropR t p) p n = setR t p n
  | [], _ => rfl
  | x :: r, h => by
    obtain ⟨h1, h2⟩ := List.pairwise_cons.1 h
    cases hp : x.p == p
    · have e : dropR (x :: r) p = x :: dropR r p := by unfold dropR; rw [List.filter_cons, hp]; rfl
      rw [e]
      unfold setR
      rw [setL, setL, hp]
      cases hb : bltL x.p p
      · simp only [Bool.not_false, Bool.and_self, Bool.or_true, setL_true]
        congr 2
        unfold dropR; rw [List.filter_filter]; simp
      · have := setR_drop (p := p) (n := n) h2
        unfold setR at this
        simp only [Bool.not_true, Bool.and_false, Bool.or_false, Bool.false_eq_true, if_false]
        rw [this]
    · have ep := eq_of_beq hp
      have hr : dropR r p = r := List.filter_eq_self.2 fun y hy => by
        have := blt_ne (h1 y hy)
        rw [ep] at this
        cases hq : y.p == p
        · rfl
        · rw [eq_of_beq hq] at this; simp at this
      have e : dropR (x :: r) p = r := by
        have : dropR (x :: r) p = dropR r p := by unfold dropR; rw [List.filter_cons, hp]; rfl
        rw [this, hr]
      rw [e]
      have hx : setR (x :: r) p n = ⟨p, n⟩ :: r := by
        unfold setR
        rw [setL, hp, ep, blt_irrefl]
        simp only [Bool.not_false, Bool.and_self, Bool.or_true, setL_true, hr]
        rfl
      rw [hx]
      cases r with
      | nil => rfl
      | cons y r =>
        have hy := h1 y List.mem_cons_self
        rw [ep] at hy
        have hyn : (y.p == p) = false := by
          cases hq : y.p == p
          · rfl
          · rw [eq_of_beq hq, blt_irrefl] at hy; cases hy
        unfold setR
        rw [setL, blt_asymm hy, hyn]
        simp only [Bool.not_false, Bool.and_self, Bool.or_true, setL_true]
        have h3 : dropR r p = r := by
          have : dropR (y :: r) p = y :: dropR r p := by unfold dropR; rw [List.filter_cons, hyn]; rfl
          rw [hr] at this
          exact (List.cons.inj this).2.symm
        rw [h3]; rfl
/-- What the document does with an entry. -/
def refOver1 (t : List It) (x : En) : List It := if x.k == 2 then removeR t x.p else setR (if x.o || (x.n.k != 2 || !isDirR t x.p) then noneBelow t x.p else t) x.p x.n
theorem refOver1_eq {t : List It} (h : Srt t) (x : En) : refOver1 t x = over1 t x := by
  unfold refOver1 over1
  split
  · rename_i hk
    rw [removeR_filter]
    unfold leftE goE coverE shutE
    rw [hk]
    congr 1
    funext y
    simp
  · rename_i hk
    have hk : (x.k == 2) = false := by simpa using hk
    have e : leftE t x = dropR (if x.o || (x.n.k != 2 || !isDirR t x.p) then noneBelow t x.p else t) x.p := by
      unfold leftE goE coverE shutE
      rw [hk, Bool.false_or]
      generalize (x.o || (x.n.k != 2 || !isDirR t x.p)) = c
      cases c
      · unfold dropR; simp
      · unfold dropR noneBelow
        rw [if_pos rfl, List.filter_filter]
        congr 1
        funext y
        simp
    rw [e]
    refine (setR_drop ?_).symm
    split
    · exact h.filter _
    · exact h
end Go.Dm
namespace Go.Dm
open Go
/-- May an entry be, alone? -/
def mayE (x : En) : Bool := !(x.p == []) && (isPathR x.p && (if x.k == 2 then !x.o && zeroN x.n else (x.k == 1 && rightNodeR x.n) && (!x.o || x.n.k == 2)))
/-- A layer that may be. -/
structure OkE (l : List En) : Prop where
  may : ∀ x ∈ l, mayE x = true
  srt : l.Pairwise fun x y => bltL x.p y.p = true
  open_ : l.Pairwise fun y x => (shutE y && belowR y.p x.p) = false
  tlen : ∀ x ∈ l, x.n.t < 18446744073709551616
  len : l.length ≤ 1000
theorem OkE.plen {l : List En} (h : OkE l) : ∀ x ∈ l, x.p.length ≤ 120 := fun x hx => by
  have := h.may x hx
  simp only [mayE, Bool.and_eq_true] at this
  exact isPathR_len this.2.1
theorem OkE.dlen {l : List En} (h : OkE l) : ∀ x ∈ l, x.n.d.length ≤ 2000 := fun x hx => by
  have := h.may x hx
  simp only [mayE, Bool.and_eq_true] at this
  have h2 := this.2.2
  split at h2
  · simp only [Bool.and_eq_true, zeroN, beq_iff_eq] at h2
    omega
  · simp only [Bool.and_eq_true] at h2
    exact rightNodeR_len h2.1.2
end Go.Dm
namespace Go.Dm
open Go
theorem overs_len (t : List It) (l : List En) : ∀ k, (overs t (l.take k)).length ≤ t.length + k
  | 0 => by simp [overs]
  | k + 1 => by
    have ih := overs_len t l k
    rcases Nat.lt_or_ge k l.length with h | h
    · have e : overs t (l.take (k + 1)) = over1 (overs t (l.take k)) l[k] := by
        unfold overs; rw [List.take_add_one, List.getElem?_eq_getElem h, List.foldl_append]; rfl
      rw [e]
      have := over1_len (overs t (l.take k)) l[k]
      omega
    · rw [List.take_of_length_le (by omega)]
      rw [List.take_of_length_le (by omega)] at ih
      omega
theorem overs_mem {y : It} : ∀ {l : List En} {t : List It}, y ∈ overs t l → y ∈ t ∨ ∃ x ∈ l, y = ⟨x.p, x.n⟩
  | [], _, h => .inl h
  | x :: l, t, h => by
    rcases overs_mem (l := l) (t := over1 t x) h with h | ⟨z, hz, e⟩
    · rcases over1_mem h with h | h
      · exact .inr ⟨x, List.mem_cons_self, h⟩
      · exact .inl h
    · exact .inr ⟨z, List.mem_cons_of_mem _ hz, e⟩
end Go.Dm

end

section
/-
  Layers, one over the other. No program in sight.
-/

set_option linter.unusedSimpArgs false
set_option linter.unusedVariables false
namespace Go.Dm
open Go
def encL (ls : List (List En)) : List (List PV) := ls.map fun l => [.sl 7 (encE l)]
theorem encL_len (ls : List (List En)) : (encL ls).length = ls.length := by simp [encL]
theorem encL_nil : encL [] = [] := rfl
theorem encL_at {t : List (List En)} {k : Nat} {x : List En} (h : t[k]? = some x) : (encL t).getD k [] = [.sl 7 (encE x)] := by
  simp only [encL, List.getD_eq_getElem?_getD, List.getElem?_map, h]
  rfl
theorem encL_one (t : List (List En)) : (∀ x ∈ encL t, x.length = 1) = True := eq_true fun x hx => by
  obtain ⟨y, _, rfl⟩ := List.mem_map.1 hx
  rfl
theorem encL_take (a : List (List En)) (n : Nat) : (encL a).take n = encL (a.take n) := by simp [encL]
theorem encL_drop (a : List (List En)) (n : Nat) : (encL a).drop n = encL (a.drop n) := by simp [encL]
theorem encL_app (a b : List (List En)) : encL a ++ encL b = encL (a ++ b) := by simp [encL]
theorem encL_snoc (t : List (List En)) (l : List En) : encL t ++ [[.sl 7 (encE l)]] = encL (t ++ [l]) := by simp [encL]
attribute [go_sem] encL_len encL_nil encL_one encL_take encL_drop encL_app encL_snoc

def foldG : List It → List (List En) → List It × Bool
  | t, [] => (t, true)
  | t, l :: r => if (overF t l).2 then foldG (overF t l).1 r else ([], false)
theorem overF_ok {t : List It} {l : List En} (ht : OkT t) (hl : OkE l) (h : (overF t l).2 = true) : OkT (overF t l).1 := by
  unfold overF at h ⊢
  split at h
  · rename_i hr
    rw [if_pos hr]
    refine rightT_ok (fun y hy => ?_) hr
    rcases overs_mem hy with hy | ⟨x, hx, rfl⟩
    · exact ht.tlen y hy
    · exact hl.tlen x hx
  · cases h
theorem foldG_ok : ∀ {ls : List (List En)} {t : List It}, OkT t → (∀ l ∈ ls, OkE l) → (foldG t ls).2 = true → OkT (foldG t ls).1
  | [], _, h, _, _ => h
  | l :: r, t, h, hl, hf => by
    rw [foldG] at hf ⊢
    split at hf
    · rename_i ho
      rw [if_pos ho]
      exact foldG_ok (overF_ok h (hl l List.mem_cons_self) ho) (fun x hx => hl x (List.mem_cons_of_mem _ hx)) hf
    · cases hf

/-! As the document folds and lays over: the same. -/
theorem refOvers_eq {t : List It} (h : Srt t) : ∀ {l : List En}, l.foldl refOver1 t = overs t l := by
  intro l
  induction l generalizing t with
  | nil => rfl
  | cons x l ih =>
    show l.foldl refOver1 (refOver1 t x) = overs (over1 t x) l
    rw [refOver1_eq h, ih (over1_srt h x)]
end Go.Dm

end

section
/-
  Layers: the layer that makes one tree of another, as the document makes it. No program in sight.
-/

set_option linter.unusedSimpArgs false
set_option linter.unusedVariables false
namespace Go.Dm
open Go

def isB (l : List (List UInt8)) (p : List UInt8) : Bool := l.any fun q => q == p
def hasDirB (t : List It) (p : List UInt8) : Bool := !(p == []) && isDirR t p
def staysB (t w : List It) (p : List UInt8) : Bool := t.any fun y => (getR w y.p).isSome && belowR p y.p
def opqB (t w : List It) (x : It) : Bool := (x.n.k == 2 && (hasDirB t x.p && !decide (((namesF t x.p).length : Int) < 2))) && !staysB t w x.p
def opqM (t w : List It) : List (List UInt8) := (w.filter (opqB t w)).map fun x => x.p
def putM (t : List It) (os : List (List UInt8)) (x : It) : List En :=
  if isB os x.p then [⟨x.p, 1, true, x.n⟩] else if (!(getR t x.p).isSome || !sameNd ((getR t x.p).getD nd0) x.n) then [⟨x.p, 1, false, x.n⟩] else []
def putsM (t : List It) (os : List (List UInt8)) (w : List It) : List En := w.flatMap (putM t os)
def covF (w : List It) (os : List (List UInt8)) : Nat → List UInt8 → Bool
  | 0, _ => false
  | n + 1, q => if q == [] then false else if (!(getR w q).isSome || (((getR w q).getD nd0).k != 2 || isB os q)) then true else covF w os n (dirOfR q)
def covM (w : List It) (os : List (List UInt8)) (p : List UInt8) : Bool := covF w os p.length (dirOfR p)
def entN (l : List En) (p : List UInt8) : Nat := (l.takeWhile fun x => bltL x.p p).length
def entM (l : List En) (e : En) : List En := l.take (entN l e.p) ++ e :: l.drop (entN l e.p)
def goneE (p : List UInt8) : En := ⟨p, 2, false, nd0⟩
def goneM (w : List It) (os : List (List UInt8)) (out : List En) (y : It) : List En :=
  if ((getR w y.p).isSome || covM w os y.p) then out else entM out (goneE y.p)
def makeF (t w : List It) : List En := t.foldl (goneM w (opqM t w)) (putsM t (opqM t w) w)

theorem dir_le (p : List UInt8) : (dirOfR p).length ≤ p.length := by
  by_cases h : dirOfR p = []
  · rw [h]; exact Nat.zero_le _
  · exact Nat.le_of_lt (dir_lt h)
theorem entN_le (l : List En) (p : List UInt8) : entN l p ≤ l.length := (List.takeWhile_sublist _).length_le
theorem entN_step {p : List UInt8} : ∀ {l : List En} {k : Nat} {x : En}, l[k]? = some x → k ≤ entN l p → (bltL x.p p = true → k + 1 ≤ entN l p) ∧ (bltL x.p p = false → k = entN l p)
  | [], k, x, h, _ => by simp at h
  | y :: l, 0, x, h, _ => by
    simp only [List.getElem?_cons_zero, Option.some.injEq] at h
    subst h
    unfold entN
    rw [List.takeWhile_cons]
    cases hb : bltL y.p p
    · simp
    · simp
  | y :: l, k + 1, x, h, hk => by
    rw [List.getElem?_cons_succ] at h
    unfold entN at hk ⊢
    rw [List.takeWhile_cons] at hk ⊢
    cases hb : bltL y.p p
    · rw [hb] at hk; simp at hk
    · rw [hb] at hk
      simp only [if_true, List.length_cons] at hk ⊢
      have := entN_step (p := p) h (by unfold entN; omega)
      unfold entN at this
      exact ⟨fun a => by have := this.1 a; omega, fun a => by have := this.2 a; omega⟩
theorem entM_len (l : List En) (e : En) : (entM l e).length = l.length + 1 := by
  have := entN_le l e.p
  simp only [entM, List.length_append, List.length_cons, List.length_take, List.length_drop]
  omega
theorem putM_len (t : List It) (os : List (List UInt8)) (x : It) : (putM t os x).length ≤ 1 := by
  unfold putM; split
  · exact Nat.le_refl _
  · split
    · exact Nat.le_refl _
    · exact Nat.zero_le _
theorem putsM_len (t : List It) (os : List (List UInt8)) : ∀ w : List It, (putsM t os w).length ≤ w.length
  | [] => Nat.le_refl _
  | x :: w => by
    have h1 := putM_len t os x
    have h2 := putsM_len t os w
    unfold putsM at h2 ⊢
    rw [List.flatMap_cons, List.length_append, List.length_cons]
    omega
theorem putsM_next {t : List It} {os : List (List UInt8)} {w : List It} {k : Nat} {x : It} (h : w[k]? = some x) : putsM t os (w.take (k + 1)) = putsM t os (w.take k) ++ putM t os x := by
  unfold putsM
  rw [List.take_add_one, h, List.flatMap_append]
  simp
theorem opqM_next {t w : List It} {k : Nat} {x : It} (h : w[k]? = some x) : ((w.take (k + 1)).filter (opqB t w)).map (fun x => x.p) = ((w.take k).filter (opqB t w)).map (fun x => x.p) ++ (if opqB t w x then [x.p] else []) := by
  rw [filter_next h, List.map_append]
  split <;> rfl
theorem opqM_len (t w : List It) : (opqM t w).length ≤ w.length := by
  unfold opqM; rw [List.length_map]; exact List.length_filter_le ..
theorem goneM_len (w : List It) (os : List (List UInt8)) (out : List En) (y : It) : (goneM w os out y).length ≤ out.length + 1 := by
  unfold goneM; split
  · omega
  · rw [entM_len]; omega
theorem covF_more {w : List It} {os : List (List UInt8)} {n : Nat} {q : List UInt8} (h : q ≠ []) : covF w os (n + 1) q = if (!(getR w q).isSome || (((getR w q).getD nd0).k != 2 || isB os q)) then true else covF w os n (dirOfR q) := by
  rw [covF, if_neg (by simpa using h)]
theorem covF_nil {w : List It} {os : List (List UInt8)} : ∀ n : Nat, covF w os n [] = false
  | 0 => rfl
  | n + 1 => by rw [covF]; simp
end Go.Dm

end

section
/-
  Layers: the layer that makes one tree of another is one that may be. No program in sight.
-/

set_option linter.unusedSimpArgs false
set_option linter.unusedVariables false
namespace Go.Dm
open Go

theorem par_kind {t : List It} {b : List UInt8} (h : Par t) (hb : b ≠ []) : ∀ (n : Nat) (q : List UInt8), q.length ≤ n → (getR t q).isSome = true → belowR b q = true → ∃ m, getR t b = some m ∧ (m.k == 2) = true
  | 0, q, hl, _, hq => by
    have h1 : q = [] := by simpa using hl
    subst h1
    have h2 := belowR_len hq
    have : b = [] := by simpa using h2
    exact absurd this hb
  | n + 1, q, hl, hs, hq => by
    obtain ⟨m, hm⟩ := Option.isSome_iff_exists.1 hs
    obtain ⟨x, hx, rfl, _⟩ := getR_mem hm
    have hdx := h x hx
    rcases below_up hb hq with h1 | h1
    · rw [h1] at hdx
      obtain ⟨m, h2, h3⟩ := isDir_some hb hdx
      exact ⟨m, h2, by first | exact h3 | simpa using h3⟩
    · have h0 : dirOfR x.p ≠ [] := by
        intro h0
        rw [h0] at h1
        have := belowR_len h1
        have : b = [] := by simpa using this
        exact absurd this hb
      obtain ⟨m, h2, _⟩ := isDir_some h0 hdx
      have hlt := dir_lt h0
      exact par_kind h hb n _ (by omega) (by rw [h2]; rfl) h1

theorem covF_spec {w : List It} {os : List (List UInt8)} {a : List UInt8} (ha : a ≠ []) : ∀ (n : Nat) (q : List UInt8), q.length ≤ n → covF w os n q = false → (q = a ∨ belowR a q = true) → (∃ m, getR w a = some m ∧ (m.k == 2) = true) ∧ isB os a = false
  | 0, q, hl, _, hq => by
    have h1 : q = [] := by simpa using hl
    subst h1
    rcases hq with hq | hq
    · exact absurd hq.symm ha
    · have h2 := belowR_len hq
      have : a = [] := by simpa using h2
      exact absurd this ha
  | n + 1, q, hl, hc, hq => by
    by_cases h0 : q = []
    · subst h0
      rcases hq with hq | hq
      · exact absurd hq.symm ha
      · have h2 := belowR_len hq
        have : a = [] := by simpa using h2
        exact absurd this ha
    · rw [covF_more h0] at hc
      split at hc
      · cases hc
      · rename_i h1
        simp only [Bool.not_eq_true, Bool.or_eq_false_iff] at h1
        obtain ⟨h2, h3, h4⟩ := h1
        rcases hq with rfl | hq
        · refine ⟨?_, h4⟩
          cases hg : getR w q with
          | none => rw [hg] at h2; simp at h2
          | some m => rw [hg] at h3; exact ⟨m, rfl, by simpa using h3⟩
        · have hdl : (dirOfR q).length ≤ n := by
            by_cases h : dirOfR q = []
            · rw [h]; exact Nat.zero_le _
            · have := dir_lt h; omega
          exact covF_spec ha n _ hdl hc (below_up ha hq)
theorem covM_spec {w : List It} {os : List (List UInt8)} {a p : List UInt8} (ha : a ≠ []) (hc : covM w os p = false) (hb : belowR a p = true) : (∃ m, getR w a = some m ∧ (m.k == 2) = true) ∧ isB os a = false :=
  covF_spec ha _ _ (dir_le p) hc (below_up ha hb)

theorem putsM_mem {t : List It} {os : List (List UInt8)} {w : List It} {e : En} (h : e ∈ putsM t os w) : ∃ x ∈ w, e = ⟨x.p, 1, isB os x.p, x.n⟩ := by
  unfold putsM at h
  obtain ⟨x, hx, h⟩ := List.mem_flatMap.1 h
  refine ⟨x, hx, ?_⟩
  unfold putM at h
  split at h
  · rename_i h1; rw [List.mem_singleton.1 h, h1]
  · rename_i h1
    split at h
    · rw [List.mem_singleton.1 h]; simp only [Bool.not_eq_true] at h1; rw [h1]
    · simp at h

def SrtE (l : List En) : Prop := l.Pairwise fun x y => bltL x.p y.p = true
theorem entM_cons (y : En) (l : List En) (e : En) : entM (y :: l) e = if bltL y.p e.p then y :: entM l e else e :: y :: l := by
  unfold entM entN
  rw [List.takeWhile_cons]
  split <;> simp
theorem entM_nil (e : En) : entM [] e = [e] := rfl
theorem entM_mem {l : List En} {e x : En} : x ∈ entM l e ↔ x ∈ l ∨ x = e := by
  induction l with
  | nil => simp [entM_nil]
  | cons y l ih =>
    rw [entM_cons]
    split
    · rw [List.mem_cons, ih, List.mem_cons, or_assoc]
    · simp only [List.mem_cons]
      constructor
      · rintro (h | h | h)
        · exact .inr h
        · exact .inl (.inl h)
        · exact .inl (.inr h)
      · rintro ((h | h) | h)
        · exact .inr (.inl h)
        · exact .inr (.inr h)
        · exact .inl h
theorem entM_srt {l : List En} {e : En} (h : SrtE l) (hn : ∀ x ∈ l, x.p ≠ e.p) : SrtE (entM l e) := by
  induction l with
  | nil => rw [entM_nil]; exact List.pairwise_singleton _ _
  | cons y l ih =>
    obtain ⟨h1, h2⟩ := List.pairwise_cons.1 h
    rw [entM_cons]
    split
    · rename_i hb
      refine List.pairwise_cons.2 ⟨fun x hx => ?_, ih h2 fun x hx => hn x (List.mem_cons_of_mem _ hx)⟩
      rcases entM_mem.1 hx with hx | rfl
      · exact h1 x hx
      · exact hb
    · rename_i hb
      have hlt : bltL e.p y.p = true := by
        cases hc : bltL e.p y.p
        · exact absurd (blt_tri (by simpa using hb) hc) (hn y List.mem_cons_self)
        · rfl
      refine List.pairwise_cons.2 ⟨fun x hx => ?_, h⟩
      rcases List.mem_cons.1 hx with rfl | hx
      · exact hlt
      · exact blt_trans hlt (h1 x hx)
theorem putsM_srt {t : List It} {os : List (List UInt8)} {w : List It} (h : Srt w) : SrtE (putsM t os w) := by
  induction w with
  | nil => exact List.Pairwise.nil
  | cons x w ih =>
    obtain ⟨h1, h2⟩ := List.pairwise_cons.1 h
    have e : putsM t os (x :: w) = putM t os x ++ putsM t os w := by unfold putsM; rw [List.flatMap_cons]
    rw [e]
    have hl : ∀ y ∈ putM t os x, y.p = x.p := fun y hy => by
      have : y ∈ putsM t os [x] := by unfold putsM; simpa using hy
      obtain ⟨z, hz, e⟩ := putsM_mem this
      rw [List.mem_singleton.1 hz] at e
      rw [e]
    refine List.pairwise_append.2 ⟨?_, ih h2, fun y hy z hz => ?_⟩
    · unfold putM
      split
      · exact List.pairwise_singleton _ _
      · split
        · exact List.pairwise_singleton _ _
        · exact List.Pairwise.nil
    · obtain ⟨v, hv, e⟩ := putsM_mem hz
      rw [hl y hy, e]
      exact h1 v hv

theorem gones_ok {w : List It} {os : List (List UInt8)} : ∀ {r : List It} {out : List En}, Srt r → SrtE out → (∀ e ∈ out, ∀ y ∈ r, (getR w y.p).isSome = false → e.p ≠ y.p) →
    SrtE (r.foldl (goneM w os) out) ∧ ∀ e, e ∈ r.foldl (goneM w os) out ↔ e ∈ out ∨ ∃ y ∈ r, e = goneE y.p ∧ (getR w y.p).isSome = false ∧ covM w os y.p = false
  | [], out, _, h, _ => ⟨h, fun e => by simp⟩
  | y :: r, out, hr, h, hn => by
    obtain ⟨h1, h2⟩ := List.pairwise_cons.1 hr
    rw [List.foldl_cons]
    unfold goneM
    split
    · rename_i hc
      obtain ⟨h3, h4⟩ := gones_ok (w := w) (os := os) h2 h fun e he z hz => hn e he z (List.mem_cons_of_mem _ hz)
      refine ⟨h3, fun e => (h4 e).trans ?_⟩
      constructor
      · rintro (h | ⟨z, hz, h⟩)
        · exact .inl h
        · exact .inr ⟨z, List.mem_cons_of_mem _ hz, h⟩
      · rintro (h | ⟨z, hz, h, h5, h6⟩)
        · exact .inl h
        · rcases List.mem_cons.1 hz with rfl | hz
          · rw [h5, h6] at hc; cases hc
          · exact .inr ⟨z, hz, h, h5, h6⟩
    · rename_i hc
      simp only [Bool.not_eq_true, Bool.or_eq_false_iff] at hc
      have hs := entM_srt (e := goneE y.p) h fun x hx => hn x hx y List.mem_cons_self hc.1
      obtain ⟨h3, h4⟩ := gones_ok (w := w) (os := os) (out := entM out (goneE y.p)) h2 hs fun e he z hz hg => by
        rcases entM_mem.1 he with he | rfl
        · exact hn e he z (List.mem_cons_of_mem _ hz) hg
        · intro e2
          have := h1 z hz
          rw [show (goneE y.p).p = y.p from rfl] at e2
          rw [e2, blt_irrefl] at this
          cases this
      refine ⟨h3, fun e => (h4 e).trans ?_⟩
      rw [entM_mem]
      constructor
      · rintro ((h | h) | ⟨z, hz, h⟩)
        · exact .inl h
        · exact .inr ⟨y, List.mem_cons_self, h, hc⟩
        · exact .inr ⟨z, List.mem_cons_of_mem _ hz, h⟩
      · rintro (h | ⟨z, hz, h⟩)
        · exact .inl (.inl h)
        · rcases List.mem_cons.1 hz with rfl | hz
          · exact .inl (.inr h.1)
          · exact .inr ⟨z, hz, h⟩
theorem gones_len (w : List It) (os : List (List UInt8)) : ∀ (r : List It) (out : List En), (r.foldl (goneM w os) out).length ≤ out.length + r.length
  | [], out => Nat.le_refl _
  | y :: r, out => by
    have h1 := goneM_len w os out y
    have h2 := gones_len w os r (goneM w os out y)
    rw [List.foldl_cons, List.length_cons]
    omega

theorem getR_isNone {w : List It} {p : List UInt8} (h : (getR w p).isSome = false) : ∀ x ∈ w, Srt w → x.p ≠ p := fun x hx hs e => by
  rw [← e, getR_self hs hx] at h
  cases h

theorem make_mem {t w : List It} (ht : OkT t) (hw : OkT w) : SrtE (makeF t w) ∧ ∀ e, e ∈ makeF t w ↔ e ∈ putsM t (opqM t w) w ∨ ∃ y ∈ t, e = goneE y.p ∧ (getR w y.p).isSome = false ∧ covM w (opqM t w) y.p = false :=
  gones_ok ht.srt (putsM_srt hw.srt) fun e he y _ hg => by
    obtain ⟨x, hx, rfl⟩ := putsM_mem he
    exact getR_isNone hg x hx hw.srt

theorem opq_dir {t w : List It} (hw : OkT w) {x : It} (hx : x ∈ w) (h : isB (opqM t w) x.p = true) : opqB t w x = true := by
  unfold isB opqM at h
  rw [List.any_eq_true] at h
  obtain ⟨q, hq, e⟩ := h
  obtain ⟨z, hz, rfl⟩ := List.mem_map.1 hq
  obtain ⟨hz, hb⟩ := List.mem_filter.1 hz
  have e := eq_of_beq e
  have h1 := getR_self hw.srt hz
  have h2 := getR_self hw.srt hx
  rw [e, h2] at h1
  have hn : x.n = z.n := Option.some.inj h1
  have : x = z := by cases x; cases z; simp only at e hn; subst e; subst hn; rfl
  rw [this]; exact hb

theorem make_ok {t w : List It} (ht : OkT t) (hw : OkT w) : OkE (makeF t w) := by
  obtain ⟨hs, hm⟩ := make_mem ht hw
  have hc : ∀ e ∈ makeF t w, (∃ x ∈ w, e = ⟨x.p, 1, isB (opqM t w) x.p, x.n⟩) ∨ ∃ y ∈ t, e = goneE y.p ∧ (getR w y.p).isSome = false ∧ covM w (opqM t w) y.p = false := fun e he => by
    rcases (hm e).1 he with h | h
    · exact .inl (putsM_mem h)
    · exact .inr h
  refine ⟨fun e he => ?_, hs, List.pairwise_iff_getElem.2 fun i j hi hj _ => ?_, fun e he => ?_, ?_⟩
  · rcases hc e he with ⟨x, hx, rfl⟩ | ⟨y, hy, rfl, _⟩
    · obtain ⟨h1, h2, h3, _⟩ := hw.its x hx
      have h1 : (x.p == []) = false := by simpa using h1
      simp only [mayE, h1, h2, h3, Bool.not_false, Bool.true_and, show ((1 : Int) == 2) = false from rfl, show ((1 : Int) == 1) = true from rfl, Bool.false_eq_true, if_false]
      cases ho : isB (opqM t w) x.p
      · rfl
      · have := opq_dir hw hx ho
        unfold opqB at this
        simp only [Bool.and_eq_true] at this
        rw [this.1.1]; rfl
    · obtain ⟨h1, h2, _⟩ := ht.its y hy
      have h1 : (y.p == []) = false := by simpa using h1
      simp only [mayE, goneE, h1, h2]
      rfl
  · have hy := hc _ (List.getElem_mem hi)
    have hx := hc _ (List.getElem_mem hj)
    generalize (makeF t w)[i] = y at hy
    generalize (makeF t w)[j] = x at hx
    cases hsh : shutE y
    · rfl
    · cases hb : belowR y.p x.p
      · rfl
      · exfalso
        have hyp : y.p ≠ [] := by
          rcases hy with ⟨v, hv, rfl⟩ | ⟨v, hv, rfl, _⟩
          · exact hw.ne v hv
          · exact ht.ne v hv
        have hdir : ∃ m, getR w y.p = some m ∧ (m.k == 2) = true := by
          rcases hx with ⟨v, hv, rfl⟩ | ⟨v, hv, rfl, _, h6⟩
          · exact par_kind hw.par hyp _ _ (Nat.le_refl _) (by rw [getR_self hw.srt hv]; rfl) hb
          · exact (covM_spec hyp h6 hb).1
        obtain ⟨m, h1, h2⟩ := hdir
        rcases hy with ⟨v, hv, rfl⟩ | ⟨v, hv, rfl, h5, _⟩
        · rw [show (En.mk v.p 1 (isB (opqM t w) v.p) v.n).p = v.p from rfl, getR_self hw.srt hv] at h1
          have h1 := Option.some.inj h1
          unfold shutE at hsh
          simp only [h1, bne, h2] at hsh
          cases hsh
        · rw [show (goneE v.p).p = v.p from rfl] at h1
          rw [h1] at h5
          cases h5
  · rcases hc e he with ⟨x, hx, rfl⟩ | ⟨y, hy, rfl, _⟩
    · exact hw.tlen x hx
    · show (0 : Nat) < 18446744073709551616; decide
  · have h1 := gones_len w (opqM t w) t (putsM t (opqM t w) w)
    have h2 := putsM_len t (opqM t w) w
    have h3 := ht.len
    have h4 := hw.len
    unfold makeF
    omega
end Go.Dm

end

section
/-
  Layers: what shows at a path. No program in sight.
-/

set_option linter.unusedSimpArgs false
set_option linter.unusedVariables false
namespace Go.Dm
open Go

def zeroEn : En := ⟨[], 0, false, nd0⟩
def En.cv (x : En) : List CV := [.p (.s x.p), .p (.i .i64 x.k), .p (.b x.o), .p (.i .i64 x.n.k), .p (.i .i64 x.n.m), .p (.f x.n.t), .p (.sl 1 (encB x.n.d))]
def entryR (l : List En) (p : List UInt8) : Option En := l.find? fun x => x.p == p
def AtE (l : List En) (p : List UInt8) (i : Nat) : Prop := i ≤ l.length ∧ ∀ k x, l[k]? = some x → (k < i → bltL x.p p = true) ∧ (i ≤ k → bltL x.p p = false)
def foundN (l : List En) (p : List UInt8) (i : Nat) : Bool := match l[i]? with
  | some x => x.p == p
  | none => false
def findN (l : List En) (p : List UInt8) (i : Nat) : DV := .tup [.c (.p (.i .i64 i)), .c (.p (.b (foundN l p i)))]
theorem atE_uniq {l : List En} {p : List UInt8} {i k : Nat} {y : En} (hs : SrtE l) (h : AtE l p i) (hy : l[k]? = some y) (hp : (y.p == p) = true) : k = i := by
  obtain ⟨hk, rfl⟩ := List.getElem?_eq_some_iff.1 hy
  have h1 := (h.2 k _ hy).1
  have h0 : ¬ k < i := fun hlt => by
    have := blt_ne (h1 hlt); rw [hp] at this; cases this
  rcases Nat.lt_or_ge i k with hlt | hge
  · have h3 := List.pairwise_iff_getElem.1 hs i k (by omega) hk hlt
    have h4 := (h.2 i _ (List.getElem?_eq_getElem (by omega))).2 (Nat.le_refl _)
    rw [eq_of_beq hp, h4] at h3
    cases h3
  · omega
theorem entryR_some {l : List En} {p : List UInt8} {i : Nat} {x : En} (hs : SrtE l) (h : AtE l p i) (hx : l[i]? = some x) (hp : (x.p == p) = true) : entryR l p = some x := by
  unfold entryR
  cases hf : l.find? fun x => x.p == p with
  | none => exact absurd hp (by simpa using List.find?_eq_none.1 hf x (List.mem_of_getElem? hx))
  | some y =>
    have h1 := List.find?_some hf
    obtain ⟨k, hk⟩ := List.getElem?_of_mem (List.mem_of_find?_eq_some hf)
    have := atE_uniq hs h hk h1
    subst this
    rw [hk] at hx
    exact hx
theorem entryR_none {l : List En} {p : List UInt8} {i : Nat} (hs : SrtE l) (h : AtE l p i) (hf : foundN l p i = false) : entryR l p = none := by
  unfold entryR
  refine List.find?_eq_none.2 fun y hy hp => ?_
  obtain ⟨k, hk⟩ := List.getElem?_of_mem hy
  have := atE_uniq hs h hk hp
  subst this
  unfold foundN at hf
  rw [hk] at hf
  simp only at hf
  rw [hf] at hp
  cases hp

def shF (l : List En) : Nat → List UInt8 → Bool
  | 0, _ => false
  | n + 1, q => if q == [] then false else if ((entryR l q).isSome && (((entryR l q).getD zeroEn).k == 2 || (((entryR l q).getD zeroEn).o || ((entryR l q).getD zeroEn).n.k != 2))) then true else shF l n (dirOfR q)
def shutL (l : List En) (p : List UInt8) : Bool := shF l p.length (dirOfR p)
theorem shF_more {l : List En} {n : Nat} {q : List UInt8} (h : q ≠ []) : shF l (n + 1) q = if ((entryR l q).isSome && (((entryR l q).getD zeroEn).k == 2 || (((entryR l q).getD zeroEn).o || ((entryR l q).getD zeroEn).n.k != 2))) then true else shF l n (dirOfR q) := by
  rw [shF, if_neg (by simpa using h)]
theorem shF_nil {l : List En} : ∀ n : Nat, shF l n [] = false
  | 0 => rfl
  | n + 1 => by rw [shF]; simp
/-- What shows at a path in the first i layers. -/
def lookN (ls : List (List En)) (p : List UInt8) : Nat → Nd × Nat × Bool
  | 0 => (nd0, 0, false)
  | i + 1 => if p == [] then (nd0, 0, false) else
    if ((entryR (ls.getD i []) p).isSome && ((entryR (ls.getD i []) p).getD zeroEn).k == 1) then (((entryR (ls.getD i []) p).getD zeroEn).n, i, true)
    else if ((entryR (ls.getD i []) p).isSome || shutL (ls.getD i []) p) then (nd0, 0, false) else lookN ls p i
def lookF (ls : List (List En)) (p : List UInt8) : Nd × Nat × Bool := lookN ls p ls.length
theorem lookN_nil (ls : List (List En)) : ∀ i, lookN ls [] i = (nd0, 0, false)
  | 0 => rfl
  | i + 1 => by rw [lookN]; simp
end Go.Dm

end

section
/-
  Layers of trees, each over the one ahead. No program in sight.
-/

set_option linter.unusedSimpArgs false
set_option linter.unusedVariables false
namespace Go.Dm
open Go
def encII (l : List (List RI)) : List (List PV) := l.map fun x => [.sl 6 (encI x)]
def encUU (l : List (List RU)) : List (List PV) := l.map fun x => [.sl 8 (encU x)]
def encTs (l : List (List It)) : List (List PV) := l.map fun x => [.sl 5 (encT x)]
theorem encII_len (l : List (List RI)) : (encII l).length = l.length := by simp [encII]
theorem encUU_len (l : List (List RU)) : (encUU l).length = l.length := by simp [encUU]
theorem encTs_len (l : List (List It)) : (encTs l).length = l.length := by simp [encTs]
theorem encII_at {t : List (List RI)} {k : Nat} {x : List RI} (h : t[k]? = some x) : (encII t).getD k [] = [.sl 6 (encI x)] := by
  simp only [encII, List.getD_eq_getElem?_getD, List.getElem?_map, h]; rfl
theorem encUU_at {t : List (List RU)} {k : Nat} {x : List RU} (h : t[k]? = some x) : (encUU t).getD k [] = [.sl 8 (encU x)] := by
  simp only [encUU, List.getD_eq_getElem?_getD, List.getElem?_map, h]; rfl
theorem encII_one (t : List (List RI)) : (∀ x ∈ encII t, x.length = 1) = True := eq_true fun x hx => by
  obtain ⟨y, _, rfl⟩ := List.mem_map.1 hx; rfl
theorem encUU_one (t : List (List RU)) : (∀ x ∈ encUU t, x.length = 1) = True := eq_true fun x hx => by
  obtain ⟨y, _, rfl⟩ := List.mem_map.1 hx; rfl
theorem encTs_one (t : List (List It)) : (∀ x ∈ encTs t, x.length = 1) = True := eq_true fun x hx => by
  obtain ⟨y, _, rfl⟩ := List.mem_map.1 hx; rfl
theorem encTs_snoc (t : List (List It)) (l : List It) : encTs t ++ [[.sl 5 (encT l)]] = encTs (t ++ [l]) := by simp [encTs]
theorem encTs_nil : encTs [] = [] := rfl
attribute [go_sem] encII_len encUU_len encTs_len encII_one encUU_one encTs_one encTs_snoc encTs_nil

def mksF : List It → List (List It) → List (List En)
  | _, [] => []
  | t, w :: r => makeF t w :: mksF w r
def lastT (t : List It) : List (List It) → List It
  | [] => t
  | w :: r => lastT w r
theorem mksF_len : ∀ (ws : List (List It)) (t : List It), (mksF t ws).length = ws.length
  | [], _ => rfl
  | w :: r, t => by rw [mksF, List.length_cons, List.length_cons, mksF_len r w]
theorem mksF_snoc : ∀ (ws : List (List It)) (t w : List It), mksF t (ws ++ [w]) = mksF t ws ++ [makeF (lastT t ws) w]
  | [], _, _ => rfl
  | v :: r, t, w => by
    rw [List.cons_append, mksF, mksF_snoc r v w]; rfl
theorem lastT_snoc : ∀ (ws : List (List It)) (t w : List It), lastT t (ws ++ [w]) = w
  | [], _, _ => rfl
  | v :: r, _, w => by rw [List.cons_append]; exact lastT_snoc r v w
theorem lastT_ok {t : List It} (ht : OkT t) : ∀ {ws : List (List It)}, (∀ w ∈ ws, OkT w) → OkT (lastT t ws)
  | [], _ => ht
  | w :: r, h => lastT_ok (h w List.mem_cons_self) fun x hx => h x (List.mem_cons_of_mem _ hx)
theorem mksF_ok {t : List It} (ht : OkT t) : ∀ {ws : List (List It)}, (∀ w ∈ ws, OkT w) → ∀ l ∈ mksF t ws, OkE l
  | [], _, l, h => by simp [mksF] at h
  | w :: r, hw, l, h => by
    rw [mksF] at h
    rcases List.mem_cons.1 h with rfl | h
    · exact make_ok ht (hw w List.mem_cons_self)
    · exact mksF_ok (hw w List.mem_cons_self) (fun x hx => hw x (List.mem_cons_of_mem _ hx)) l h
/-- What the layers of trees may be. -/
def smallII (l : List (List RI)) : Prop := l.length ≤ 9223372036854775807 ∧ ∀ x ∈ l, x.length ≤ 9223372036854775807 ∧ (∀ y ∈ x, y.n.d.length ≤ 9223372036854775807) ∧ ∀ y ∈ x, y.n.x < 18446744073709551616
def smallUU (l : List (List RU)) : Prop := l.length ≤ 9223372036854775807 ∧ ∀ x ∈ l, x.length ≤ 9223372036854775807 ∧ (∀ y ∈ x, y.n.d.length ≤ 9223372036854775807) ∧ ∀ y ∈ x, y.n.x < 18446744073709551616
end Go.Dm

end
