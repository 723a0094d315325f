import Derived.Test.YtjpmajeekikdhaaGreatDoorSE
import Derived.Test.YtjpmajeekikdhaaGreatDoorBQ

section
/-
  What a merge computes, in plain words. No condition.
-/

set_option linter.unusedSimpArgs false
set_option linter.unusedVariables false
namespace Go.Dm
open Go Go.Sort Go.Proofs

/-- A conflict. -/
structure Cf where
  p : List UInt8
  k : Int
deriving DecidableEq
/-- A pair of paths. -/
structure Pr where
  a : List UInt8
  b : List UInt8
deriving DecidableEq
def Cf.cs (x : Cf) : List PV := [.s x.p, .i .i64 x.k]
def Pr.cs (x : Pr) : List PV := [.s x.a, .s x.b]
def encF (l : List Cf) : List (List PV) := l.map Cf.cs
theorem encF_len (t : List Cf) : (encF t).length = t.length := by simp [encF]
theorem encF_nil : encF [] = [] := rfl
theorem encF_app (a b : List Cf) : encF a ++ encF b = encF (a ++ b) := by simp [encF]
theorem encF_take (a : List Cf) (n : Nat) : (encF a).take n = encF (a.take n) := by simp [encF]
theorem encF_drop (a : List Cf) (n : Nat) : (encF a).drop n = encF (a.drop n) := by simp [encF]
theorem encF_one (t : List Cf) : (∀ x ∈ encF t, x.length = 2) = True := eq_true fun x hx => by
  simp only [encF, List.mem_map] at hx
  obtain ⟨y, _, rfl⟩ := hx
  rfl
theorem encF_snoc (t : List Cf) (p : List UInt8) (k : Int) : encF t ++ [[.s p, .i .i64 k]] = encF (t ++ [⟨p, k⟩]) := by simp [encF, Cf.cs]
attribute [go_sem] encF_len encF_nil encF_app encF_take encF_drop encF_one encF_snoc
def encP (l : List Pr) : List (List PV) := l.map Pr.cs
theorem encP_len (t : List Pr) : (encP t).length = t.length := by simp [encP]
theorem encP_nil : encP [] = [] := rfl
theorem encP_app (a b : List Pr) : encP a ++ encP b = encP (a ++ b) := by simp [encP]
theorem encP_take (a : List Pr) (n : Nat) : (encP a).take n = encP (a.take n) := by simp [encP]
theorem encP_drop (a : List Pr) (n : Nat) : (encP a).drop n = encP (a.drop n) := by simp [encP]
theorem encP_one (t : List Pr) : (∀ x ∈ encP t, x.length = 2) = True := eq_true fun x hx => by
  simp only [encP, List.mem_map] at hx
  obtain ⟨y, _, rfl⟩ := hx
  rfl
theorem encP_snoc (t : List Pr) (a b : List UInt8) : encP t ++ [[.s a, .s b]] = encP (t ++ [⟨a, b⟩]) := by simp [encP, Pr.cs]
attribute [go_sem] encP_len encP_nil encP_app encP_take encP_drop encP_one encP_snoc

/-! Order. -/
/-! Moves. -/
/-! The merge. -/
end Go.Dm

end

section
/-
  What the conflicts of a merge say. No condition.
-/

set_option linter.unusedSimpArgs false
set_option linter.unusedVariables false
namespace Go.Dm
open Go Go.Sort

/-! Pairs. -/
end Go.Dm

end

section
/-
  Merges of sides that are alike, and the other way round. No condition.
-/

set_option linter.unusedSimpArgs false
set_option linter.unusedVariables false
namespace Go.Dm
open Go Go.Sort

/-! The other way round. -/
/-! Sides that are alike. -/
end Go.Dm

end

section
/-
  The document's merge is the program's; what a merge has at each path; sides that turn directories of their own. No condition beyond times that are words of 64 bits.
-/

set_option linter.unusedSimpArgs false
set_option linter.unusedVariables false
namespace Go.Dm
open Go Go.Sort

/-! The document's merge of nodes is the program's. -/
/-! What is at each path. -/
theorem getR_app (p : List UInt8) (b : List It) : ∀ a : List It, getR (a ++ b) p = match getR a p with
    | some n => some n
    | none => getR b p
  | [] => rfl
  | x :: a => by
    rw [List.cons_append, getR, getR]
    split
    · rfl
    · exact getR_app p b a
/-! A merge without a conflict is a right tree. -/
end Go.Dm

end

section
/-
  Sides that turn what is below directories of their own. No condition beyond times that are words of 64 bits.
-/

set_option linter.unusedSimpArgs false
set_option linter.unusedVariables false
namespace Go.Dm
open Go Go.Sort

/-- What a merge asks of a list of items. -/
structure OkS (t : List It) : Prop where
  srt : Srt t
  ne : ∀ x ∈ t, x.p ≠ []
  plen : ∀ x ∈ t, x.p.length ≤ 1000
  dlen : ∀ x ∈ t, x.n.d.length ≤ 2000
  tlen : ∀ x ∈ t, x.n.t < 18446744073709551616
  len : t.length ≤ 120
theorem OkT.s {t : List It} (h : OkT t) : OkS t := ⟨h.srt, h.ne, fun x hx => Nat.le_trans (h.plen x hx) (by decide), h.dlen, h.tlen, h.len⟩
theorem OkS.gett {t : List It} (h : OkS t) (p : List UInt8) : ((getR t p).getD nd0).t < 18446744073709551616 := by
  cases hg : getR t p with
  | none => simp [nd0]
  | some n => obtain ⟨x, hx, _, e⟩ := getR_mem hg; rw [Option.getD_some, ← e]; exact h.tlen x hx

theorem isDir_more {t : List It} {p : List UInt8} (r : List It) (h : isDirR t p = true) : isDirR (t ++ r) p = true := by
  by_cases hp : p = []
  · subst hp; rfl
  · obtain ⟨m, h1, h2⟩ := isDir_some hp h
    exact isDir_mk (m := m) (by rw [getR_app, h1]) h2
theorem OkT.take {t : List It} (h : OkT t) (k : Nat) : OkT (t.take k) := by
  refine ⟨⟨h.srt.sublist (List.take_sublist _ _), fun x hx => h.its x (List.mem_of_mem_take hx), Nat.le_trans (by rw [List.length_take]; omega) h.len⟩, fun x hx => ?_⟩
  obtain ⟨j, hj, rfl⟩ := List.mem_iff_getElem.1 hx
  have hjk : j < k ∧ j < t.length := by rw [List.length_take] at hj; omega
  rw [List.getElem_take]
  have h1 := isDir_take h (List.getElem?_eq_getElem hjk.2)
  have h2 := isDir_more ((t.take k).drop j) h1
  have e : t.take j ++ (t.take k).drop j = t.take k := by
    have := List.take_append_drop j (t.take k)
    rw [List.take_take, Nat.min_eq_left (by omega)] at this
    exact this
  rw [e] at h2
  exact h2

end Go.Dm

end

section
/-
  Bounds of what a merge asks. No condition.
-/

set_option linter.unusedSimpArgs false
set_option linter.unusedVariables false
namespace Go.Dm
open Go Go.Sort

end Go.Dm

end

section
/-
  A tree that was turned, said as a function of the tree and the turns. No condition.
-/

set_option linter.unusedSimpArgs false
set_option linter.unusedVariables false
namespace Go.Dm
set_option maxRecDepth 100000

def bothT (t : List It) (r : List It × Int) : List It := if r.2 == 0 then r.1 else t
theorem both_put {t : List It} {p : List UInt8} {n : Nd} (h : OkT t) (hn : n.t < 18446744073709551616) : OkT (bothT t (putR t p n)) := by
  unfold bothT
  split
  · exact h.put hn (eq_of_beq (by assumption))
  · exact h
end Go.Dm

end

section
/-
  The drawn tree, said as a function of what is drawn. No condition.
-/

set_option linter.unusedSimpArgs false
set_option linter.unusedVariables false
namespace Go.Dm
set_option maxRecDepth 100000

/-- The directories over a path, from its byte k on, r bytes more. -/
def treeP (p : List UInt8) : Nat → Nat → List It → List It
  | 0, _, u => u
  | r + 1, k, u =>
    if p.getD k 0 == 47 && !isDirR u (p.take k) then (if (getR u (p.take k)).isSome then u else treeP p r (k + 1) (bothT u (putR u (p.take k) ⟨2, 493, 0, []⟩)))
    else treeP p r (k + 1) u
def tree2 (u : List It) (p : List UInt8) (n : Nd) : List It :=
  if (getR u p).isSome && (((getR u p).getD nd0).k == 2 && (n.k != 2)) then u else bothT u (putR u p n)
def tree1 (t : List It) (x : RI) : List It := tree2 (treeP (pathF x.p) (pathF x.p).length 0 t) (pathF x.p) (nodeF x.n)
def treeF (l : List RI) : List It := (l.take 30).foldl tree1 []

theorem treeP_ok {p : List UInt8} : ∀ (r k : Nat) {u : List It}, OkT u → OkT (treeP p r k u)
  | 0, _, _, h => h
  | r + 1, k, u, h => by
    rw [treeP]
    split
    · split
      · exact h
      · exact treeP_ok r (k + 1) (both_put h (show (0 : Nat) < 18446744073709551616 by decide))
    · exact treeP_ok r (k + 1) h
theorem tree1_ok {t : List It} {x : RI} (h : OkT t) (hx : x.n.x < 18446744073709551616) : OkT (tree1 t x) := by
  unfold tree1 tree2
  split
  · exact treeP_ok _ _ h
  · exact both_put (treeP_ok _ _ h) (nodeF_wf hx)
theorem trees_ok : ∀ {l : List RI} {t : List It}, OkT t → (∀ x ∈ l, x.n.x < 18446744073709551616) → OkT (l.foldl tree1 t)
  | [], _, h, _ => h
  | a :: r, t, h, hx => trees_ok (l := r) (t := tree1 t a) (tree1_ok h (hx _ List.mem_cons_self)) fun y hy => hx y (List.mem_cons_of_mem _ hy)
theorem treeF_ok {l : List RI} (hx : ∀ x ∈ l, x.n.x < 18446744073709551616) : OkT (treeF l) :=
  trees_ok OkT.nil fun x hm => hx x (List.take_subset _ _ hm)
theorem trees_step {t : List It} {l : List RI} {i : Nat} {x : RI} (h : l[i]? = some x) : (l.take (i + 1)).foldl tree1 t = tree1 ((l.take i).foldl tree1 t) x := by
  rw [List.take_add_one, h]; simp
theorem trees_end {l : List RI} {i : Nat} (h : l.length ≤ i ∨ 30 ≤ i) (h2 : i ≤ 30) : (l.take i).foldl tree1 [] = treeF l := by
  unfold treeF
  rcases h with h | h
  · rw [List.take_of_length_le h, List.take_of_length_le (Nat.le_trans h h2)]
  · rw [show i = 30 by omega]
theorem treeP_step {p : List UInt8} {k : Nat} {u : List It} {b : UInt8} (h : p[k]? = some b) : treeP p (p.length - k) k u =
    if b == 47 && !isDirR u (p.take k) then (if (getR u (p.take k)).isSome then u else treeP p (p.length - (k + 1)) (k + 1) (bothT u (putR u (p.take k) ⟨2, 493, 0, []⟩)))
    else treeP p (p.length - (k + 1)) (k + 1) u := by
  have hk := (List.getElem?_eq_some_iff.1 h).1
  rw [show p.length - k = (p.length - (k + 1)) + 1 by omega, treeP]
  have : p.getD k 0 = b := by simp [List.getD, h]
  rw [this]

end Go.Dm

end
