import Derived.Test.YtcoedlaifhfnnaaDoorSU
import Derived.Test.YtcoedlaifhfnnaaDoorSD
import Derived.Test.YtcoedlaifhfnnaaDoorSC

section
/-
  Layers: entries, what one does to a tree, which may be. No program in sight.
-/

set_option linter.unusedSimpArgs false
set_option linter.unusedVariables false
namespace Go.Dm
open Go

structure En where
  p : List UInt8
  k : Int
  o : Bool
  n : Nd
def En.cs (x : En) : List PV := [.s x.p, .i .i64 x.k, .b x.o, .i .i64 x.n.k, .i .i64 x.n.m, .f x.n.t, .sl 1 (encB x.n.d)]
def encE (l : List En) : List (List PV) := l.map En.cs
theorem encE_len (l : List En) : (encE l).length = l.length := by simp [encE]
theorem encE_nil : encE [] = [] := rfl
theorem encE_at {t : List En} {k : Nat} {x : En} (h : t[k]? = some x) : (encE t).getD k [] = [.s x.p, .i .i64 x.k, .b x.o, .i .i64 x.n.k, .i .i64 x.n.m, .f x.n.t, .sl 1 (encB x.n.d)] := by
  simp only [encE, List.getD_eq_getElem?_getD, List.getElem?_map, h]
  rfl
theorem encE_one (t : List En) : (∀ x ∈ encE t, x.length = 7) = True := eq_true fun x hx => by
  obtain ⟨y, _, rfl⟩ := List.mem_map.1 hx
  rfl
theorem encE_take (a : List En) (n : Nat) : (encE a).take n = encE (a.take n) := by simp [encE]
theorem encE_drop (a : List En) (n : Nat) : (encE a).drop n = encE (a.drop n) := by simp [encE]
theorem encE_app (a b : List En) : encE a ++ encE b = encE (a ++ b) := by simp [encE]
theorem encE_snoc (t : List En) (p : List UInt8) (k : Int) (o : Bool) (nk nm : Int) (nt : Nat) (d : List UInt8) : encE t ++ [[.s p, .i .i64 k, .b o, .i .i64 nk, .i .i64 nm, .f nt, .sl 1 (encB d)]] = encE (t ++ [⟨p, k, o, ⟨nk, nm, nt, d⟩⟩]) := by simp [encE, En.cs]
theorem en_eta (x : En) : En.mk x.p x.k x.o x.n = x := rfl
attribute [go_sem] encE_len encE_nil encE_one encE_take encE_drop encE_app encE_snoc en_eta

def shutE (x : En) : Bool := x.k == 2 || x.n.k != 2
def coverE (t : List It) (x : En) : Bool := x.o || (shutE x || !isDirR t x.p)
def goE (t : List It) (x : En) (y : It) : Bool := y.p == x.p || (coverE t x && belowR x.p y.p)
def leftE (t : List It) (x : En) : List It := t.filter fun y => !goE t x y
def over1 (t : List It) (x : En) : List It := if x.k == 2 then leftE t x else setR (leftE t x) x.p x.n
def overs (t : List It) (l : List En) : List It := l.foldl over1 t
def overF (t : List It) (l : List En) : List It × Bool := if rightT (overs t l) then (overs t l, true) else ([], false)

theorem leftE_srt {t : List It} (h : Srt t) (x : En) : Srt (leftE t x) := h.filter _
theorem over1_srt {t : List It} (h : Srt t) (x : En) : Srt (over1 t x) := by
  unfold over1; split
  · exact leftE_srt h x
  · exact setR_srt (leftE_srt h x)
theorem overs_srt : ∀ {l : List En} {t : List It}, Srt t → Srt (overs t l)
  | [], _, h => h
  | x :: l, t, h => overs_srt (l := l) (over1_srt h x)
theorem leftE_len (t : List It) (x : En) : (leftE t x).length ≤ t.length := List.length_filter_le ..
theorem over1_len (t : List It) (x : En) : (over1 t x).length ≤ t.length + 1 := by
  have := leftE_len t x
  have := setR_len (leftE t x) x.p x.n
  unfold over1; split <;> omega
theorem leftE_no {t : List It} {x : En} : ∀ y ∈ leftE t x, (y.p == x.p) = false := fun y hy => by
  have := (List.mem_filter.1 hy).2
  simp only [goE, Bool.not_eq_true', Bool.or_eq_false_iff] at this
  exact this.1
theorem over1_mem {t : List It} {x : En} {y : It} (h : y ∈ over1 t x) : y = ⟨x.p, x.n⟩ ∨ y ∈ t := by
  unfold over1 at h
  split at h
  · exact .inr (List.mem_filter.1 h).1
  · rcases setL_mem h with h | h
    · exact .inl h
    · exact .inr (List.mem_filter.1 h).1

/-! As the document says it. -/
end Go.Dm
namespace Go.Dm
open Go
/-- May an entry be, alone? -/
def mayE (x : En) : Bool := !(x.p == []) && (isPathR x.p && (if x.k == 2 then !x.o && zeroN x.n else (x.k == 1 && rightNodeR x.n) && (!x.o || x.n.k == 2)))
/-- A layer that may be. -/
structure OkE (l : List En) : Prop where
  may : ∀ x ∈ l, mayE x = true
  srt : l.Pairwise fun x y => bltL x.p y.p = true
  open_ : l.Pairwise fun y x => (shutE y && belowR y.p x.p) = false
  tlen : ∀ x ∈ l, x.n.t < 18446744073709551616
  len : l.length ≤ 1000
theorem OkE.plen {l : List En} (h : OkE l) : ∀ x ∈ l, x.p.length ≤ 120 := fun x hx => by
  have := h.may x hx
  simp only [mayE, Bool.and_eq_true] at this
  exact isPathR_len this.2.1
theorem OkE.dlen {l : List En} (h : OkE l) : ∀ x ∈ l, x.n.d.length ≤ 2000 := fun x hx => by
  have := h.may x hx
  simp only [mayE, Bool.and_eq_true] at this
  have h2 := this.2.2
  split at h2
  · simp only [Bool.and_eq_true, zeroN, beq_iff_eq] at h2
    omega
  · simp only [Bool.and_eq_true] at h2
    exact rightNodeR_len h2.1.2
end Go.Dm
namespace Go.Dm
open Go
theorem overs_len (t : List It) (l : List En) : ∀ k, (overs t (l.take k)).length ≤ t.length + k
  | 0 => by simp [overs]
  | k + 1 => by
    have ih := overs_len t l k
    rcases Nat.lt_or_ge k l.length with h | h
    · have e : overs t (l.take (k + 1)) = over1 (overs t (l.take k)) l[k] := by
        unfold overs; rw [List.take_add_one, List.getElem?_eq_getElem h, List.foldl_append]; rfl
      rw [e]
      have := over1_len (overs t (l.take k)) l[k]
      omega
    · rw [List.take_of_length_le (by omega)]
      rw [List.take_of_length_le (by omega)] at ih
      omega
theorem overs_mem {y : It} : ∀ {l : List En} {t : List It}, y ∈ overs t l → y ∈ t ∨ ∃ x ∈ l, y = ⟨x.p, x.n⟩
  | [], _, h => .inl h
  | x :: l, t, h => by
    rcases overs_mem (l := l) (t := over1 t x) h with h | ⟨z, hz, e⟩
    · rcases over1_mem h with h | h
      · exact .inr ⟨x, List.mem_cons_self, h⟩
      · exact .inl h
    · exact .inr ⟨z, List.mem_cons_of_mem _ hz, e⟩
end Go.Dm

end

section
/-
  Layers, one over the other. No program in sight.
-/

set_option linter.unusedSimpArgs false
set_option linter.unusedVariables false
namespace Go.Dm
open Go
def encL (ls : List (List En)) : List (List PV) := ls.map fun l => [.sl 7 (encE l)]
theorem encL_len (ls : List (List En)) : (encL ls).length = ls.length := by simp [encL]
theorem encL_nil : encL [] = [] := rfl
theorem encL_at {t : List (List En)} {k : Nat} {x : List En} (h : t[k]? = some x) : (encL t).getD k [] = [.sl 7 (encE x)] := by
  simp only [encL, List.getD_eq_getElem?_getD, List.getElem?_map, h]
  rfl
theorem encL_one (t : List (List En)) : (∀ x ∈ encL t, x.length = 1) = True := eq_true fun x hx => by
  obtain ⟨y, _, rfl⟩ := List.mem_map.1 hx
  rfl
theorem encL_take (a : List (List En)) (n : Nat) : (encL a).take n = encL (a.take n) := by simp [encL]
theorem encL_drop (a : List (List En)) (n : Nat) : (encL a).drop n = encL (a.drop n) := by simp [encL]
theorem encL_app (a b : List (List En)) : encL a ++ encL b = encL (a ++ b) := by simp [encL]
theorem encL_snoc (t : List (List En)) (l : List En) : encL t ++ [[.sl 7 (encE l)]] = encL (t ++ [l]) := by simp [encL]
attribute [go_sem] encL_len encL_nil encL_one encL_take encL_drop encL_app encL_snoc

def foldG : List It → List (List En) → List It × Bool
  | t, [] => (t, true)
  | t, l :: r => if (overF t l).2 then foldG (overF t l).1 r else ([], false)
theorem overF_ok {t : List It} {l : List En} (ht : OkT t) (hl : OkE l) (h : (overF t l).2 = true) : OkT (overF t l).1 := by
  unfold overF at h ⊢
  split at h
  · rename_i hr
    rw [if_pos hr]
    refine rightT_ok (fun y hy => ?_) hr
    rcases overs_mem hy with hy | ⟨x, hx, rfl⟩
    · exact ht.tlen y hy
    · exact hl.tlen x hx
  · cases h
theorem foldG_ok : ∀ {ls : List (List En)} {t : List It}, OkT t → (∀ l ∈ ls, OkE l) → (foldG t ls).2 = true → OkT (foldG t ls).1
  | [], _, h, _, _ => h
  | l :: r, t, h, hl, hf => by
    rw [foldG] at hf ⊢
    split at hf
    · rename_i ho
      rw [if_pos ho]
      exact foldG_ok (overF_ok h (hl l List.mem_cons_self) ho) (fun x hx => hl x (List.mem_cons_of_mem _ hx)) hf
    · cases hf

/-! As the document folds and lays over: the same. -/
end Go.Dm

end

section
/-
  Layers: the layer that makes one tree of another, as the document makes it. No program in sight.
-/

set_option linter.unusedSimpArgs false
set_option linter.unusedVariables false
namespace Go.Dm
open Go

theorem dir_le (p : List UInt8) : (dirOfR p).length ≤ p.length := by
  by_cases h : dirOfR p = []
  · rw [h]; exact Nat.zero_le _
  · exact Nat.le_of_lt (dir_lt h)
end Go.Dm

end

section
/-
  Layers: the layer that makes one tree of another is one that may be. No program in sight.
-/

set_option linter.unusedSimpArgs false
set_option linter.unusedVariables false
namespace Go.Dm
open Go

theorem par_kind {t : List It} {b : List UInt8} (h : Par t) (hb : b ≠ []) : ∀ (n : Nat) (q : List UInt8), q.length ≤ n → (getR t q).isSome = true → belowR b q = true → ∃ m, getR t b = some m ∧ (m.k == 2) = true
  | 0, q, hl, _, hq => by
    have h1 : q = [] := by simpa using hl
    subst h1
    have h2 := belowR_len hq
    have : b = [] := by simpa using h2
    exact absurd this hb
  | n + 1, q, hl, hs, hq => by
    obtain ⟨m, hm⟩ := Option.isSome_iff_exists.1 hs
    obtain ⟨x, hx, rfl, _⟩ := getR_mem hm
    have hdx := h x hx
    rcases below_up hb hq with h1 | h1
    · rw [h1] at hdx
      obtain ⟨m, h2, h3⟩ := isDir_some hb hdx
      exact ⟨m, h2, by first | exact h3 | simpa using h3⟩
    · have h0 : dirOfR x.p ≠ [] := by
        intro h0
        rw [h0] at h1
        have := belowR_len h1
        have : b = [] := by simpa using this
        exact absurd this hb
      obtain ⟨m, h2, _⟩ := isDir_some h0 hdx
      have hlt := dir_lt h0
      exact par_kind h hb n _ (by omega) (by rw [h2]; rfl) h1

def SrtE (l : List En) : Prop := l.Pairwise fun x y => bltL x.p y.p = true
end Go.Dm

end

section
/-
  Layers: what shows at a path. No program in sight.
-/

set_option linter.unusedSimpArgs false
set_option linter.unusedVariables false
namespace Go.Dm
open Go

def zeroEn : En := ⟨[], 0, false, nd0⟩
def En.cv (x : En) : List CV := [.p (.s x.p), .p (.i .i64 x.k), .p (.b x.o), .p (.i .i64 x.n.k), .p (.i .i64 x.n.m), .p (.f x.n.t), .p (.sl 1 (encB x.n.d))]
def entryR (l : List En) (p : List UInt8) : Option En := l.find? fun x => x.p == p
def AtE (l : List En) (p : List UInt8) (i : Nat) : Prop := i ≤ l.length ∧ ∀ k x, l[k]? = some x → (k < i → bltL x.p p = true) ∧ (i ≤ k → bltL x.p p = false)
def foundN (l : List En) (p : List UInt8) (i : Nat) : Bool := match l[i]? with
  | some x => x.p == p
  | none => false
def findN (l : List En) (p : List UInt8) (i : Nat) : DV := .tup [.c (.p (.i .i64 i)), .c (.p (.b (foundN l p i)))]
theorem atE_uniq {l : List En} {p : List UInt8} {i k : Nat} {y : En} (hs : SrtE l) (h : AtE l p i) (hy : l[k]? = some y) (hp : (y.p == p) = true) : k = i := by
  obtain ⟨hk, rfl⟩ := List.getElem?_eq_some_iff.1 hy
  have h1 := (h.2 k _ hy).1
  have h0 : ¬ k < i := fun hlt => by
    have := blt_ne (h1 hlt); rw [hp] at this; cases this
  rcases Nat.lt_or_ge i k with hlt | hge
  · have h3 := List.pairwise_iff_getElem.1 hs i k (by omega) hk hlt
    have h4 := (h.2 i _ (List.getElem?_eq_getElem (by omega))).2 (Nat.le_refl _)
    rw [eq_of_beq hp, h4] at h3
    cases h3
  · omega
theorem entryR_some {l : List En} {p : List UInt8} {i : Nat} {x : En} (hs : SrtE l) (h : AtE l p i) (hx : l[i]? = some x) (hp : (x.p == p) = true) : entryR l p = some x := by
  unfold entryR
  cases hf : l.find? fun x => x.p == p with
  | none => exact absurd hp (by simpa using List.find?_eq_none.1 hf x (List.mem_of_getElem? hx))
  | some y =>
    have h1 := List.find?_some hf
    obtain ⟨k, hk⟩ := List.getElem?_of_mem (List.mem_of_find?_eq_some hf)
    have := atE_uniq hs h hk h1
    subst this
    rw [hk] at hx
    exact hx
theorem entryR_none {l : List En} {p : List UInt8} {i : Nat} (hs : SrtE l) (h : AtE l p i) (hf : foundN l p i = false) : entryR l p = none := by
  unfold entryR
  refine List.find?_eq_none.2 fun y hy hp => ?_
  obtain ⟨k, hk⟩ := List.getElem?_of_mem hy
  have := atE_uniq hs h hk hp
  subst this
  unfold foundN at hf
  rw [hk] at hf
  simp only at hf
  rw [hf] at hp
  cases hp

def shF (l : List En) : Nat → List UInt8 → Bool
  | 0, _ => false
  | n + 1, q => if q == [] then false else if ((entryR l q).isSome && (((entryR l q).getD zeroEn).k == 2 || (((entryR l q).getD zeroEn).o || ((entryR l q).getD zeroEn).n.k != 2))) then true else shF l n (dirOfR q)
def shutL (l : List En) (p : List UInt8) : Bool := shF l p.length (dirOfR p)
theorem shF_more {l : List En} {n : Nat} {q : List UInt8} (h : q ≠ []) : shF l (n + 1) q = if ((entryR l q).isSome && (((entryR l q).getD zeroEn).k == 2 || (((entryR l q).getD zeroEn).o || ((entryR l q).getD zeroEn).n.k != 2))) then true else shF l n (dirOfR q) := by
  rw [shF, if_neg (by simpa using h)]
theorem shF_nil {l : List En} : ∀ n : Nat, shF l n [] = false
  | 0 => rfl
  | n + 1 => by rw [shF]; simp
/-- What shows at a path in the first i layers. -/
def lookN (ls : List (List En)) (p : List UInt8) : Nat → Nd × Nat × Bool
  | 0 => (nd0, 0, false)
  | i + 1 => if p == [] then (nd0, 0, false) else
    if ((entryR (ls.getD i []) p).isSome && ((entryR (ls.getD i []) p).getD zeroEn).k == 1) then (((entryR (ls.getD i []) p).getD zeroEn).n, i, true)
    else if ((entryR (ls.getD i []) p).isSome || shutL (ls.getD i []) p) then (nd0, 0, false) else lookN ls p i
def lookF (ls : List (List En)) (p : List UInt8) : Nd × Nat × Bool := lookN ls p ls.length
theorem lookN_nil (ls : List (List En)) : ∀ i, lookN ls [] i = (nd0, 0, false)
  | 0 => rfl
  | i + 1 => by rw [lookN]; simp
end Go.Dm

end

section
/-
  Layers of trees, each over the one ahead. No program in sight.
-/

set_option linter.unusedSimpArgs false
set_option linter.unusedVariables false
namespace Go.Dm
open Go
def encII (l : List (List RI)) : List (List PV) := l.map fun x => [.sl 6 (encI x)]
def encUU (l : List (List RU)) : List (List PV) := l.map fun x => [.sl 8 (encU x)]
def encTs (l : List (List It)) : List (List PV) := l.map fun x => [.sl 5 (encT x)]
theorem encII_len (l : List (List RI)) : (encII l).length = l.length := by simp [encII]
theorem encUU_len (l : List (List RU)) : (encUU l).length = l.length := by simp [encUU]
theorem encTs_len (l : List (List It)) : (encTs l).length = l.length := by simp [encTs]
theorem encII_one (t : List (List RI)) : (∀ x ∈ encII t, x.length = 1) = True := eq_true fun x hx => by
  obtain ⟨y, _, rfl⟩ := List.mem_map.1 hx; rfl
theorem encUU_one (t : List (List RU)) : (∀ x ∈ encUU t, x.length = 1) = True := eq_true fun x hx => by
  obtain ⟨y, _, rfl⟩ := List.mem_map.1 hx; rfl
theorem encTs_one (t : List (List It)) : (∀ x ∈ encTs t, x.length = 1) = True := eq_true fun x hx => by
  obtain ⟨y, _, rfl⟩ := List.mem_map.1 hx; rfl
theorem encTs_snoc (t : List (List It)) (l : List It) : encTs t ++ [[.sl 5 (encT l)]] = encTs (t ++ [l]) := by simp [encTs]
theorem encTs_nil : encTs [] = [] := rfl
attribute [go_sem] encII_len encUU_len encTs_len encII_one encUU_one encTs_one encTs_snoc encTs_nil

end Go.Dm

end
