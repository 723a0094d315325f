import Derived.Test.YtjanmkknbijecaaGreatDoorSE
import Derived.Test.YtjanmkknbijecaaGreatDoorBQ

section
/-
  What a merge computes, in plain words. No condition.
-/

set_option linter.unusedSimpArgs false
set_option linter.unusedVariables false
namespace Go.Dm
open Go Go.Sort Go.Proofs

/-- A conflict. -/
structure Cf where
  p : List UInt8
  k : Int
deriving DecidableEq
/-- A pair of paths. -/
structure Pr where
  a : List UInt8
  b : List UInt8
deriving DecidableEq
def Cf.cs (x : Cf) : List PV := [.s x.p, .i .i64 x.k]
def Pr.cs (x : Pr) : List PV := [.s x.a, .s x.b]
def encF (l : List Cf) : List (List PV) := l.map Cf.cs
theorem encF_len (t : List Cf) : (encF t).length = t.length := by simp [encF]
theorem encF_nil : encF [] = [] := rfl
theorem encF_app (a b : List Cf) : encF a ++ encF b = encF (a ++ b) := by simp [encF]
theorem encF_take (a : List Cf) (n : Nat) : (encF a).take n = encF (a.take n) := by simp [encF]
theorem encF_drop (a : List Cf) (n : Nat) : (encF a).drop n = encF (a.drop n) := by simp [encF]
theorem encF_at {t : List Cf} {k : Nat} {x : Cf} (h : t[k]? = some x) : (encF t).getD k [] = [.s x.p, .i .i64 x.k] := by
  simp only [encF, List.getD_eq_getElem?_getD, List.getElem?_map, h]
  rfl
theorem encF_one (t : List Cf) : (∀ x ∈ encF t, x.length = 2) = True := eq_true fun x hx => by
  simp only [encF, List.mem_map] at hx
  obtain ⟨y, _, rfl⟩ := hx
  rfl
theorem encF_snoc (t : List Cf) (p : List UInt8) (k : Int) : encF t ++ [[.s p, .i .i64 k]] = encF (t ++ [⟨p, k⟩]) := by simp [encF, Cf.cs]
attribute [go_sem] encF_len encF_nil encF_app encF_take encF_drop encF_one encF_snoc
def encP (l : List Pr) : List (List PV) := l.map Pr.cs
theorem encP_len (t : List Pr) : (encP t).length = t.length := by simp [encP]
theorem encP_nil : encP [] = [] := rfl
theorem encP_app (a b : List Pr) : encP a ++ encP b = encP (a ++ b) := by simp [encP]
theorem encP_take (a : List Pr) (n : Nat) : (encP a).take n = encP (a.take n) := by simp [encP]
theorem encP_drop (a : List Pr) (n : Nat) : (encP a).drop n = encP (a.drop n) := by simp [encP]
theorem encP_at {t : List Pr} {k : Nat} {x : Pr} (h : t[k]? = some x) : (encP t).getD k [] = [.s x.a, .s x.b] := by
  simp only [encP, List.getD_eq_getElem?_getD, List.getElem?_map, h]
  rfl
theorem encP_one (t : List Pr) : (∀ x ∈ encP t, x.length = 2) = True := eq_true fun x hx => by
  simp only [encP, List.mem_map] at hx
  obtain ⟨y, _, rfl⟩ := hx
  rfl
theorem encP_snoc (t : List Pr) (a b : List UInt8) : encP t ++ [[.s a, .s b]] = encP (t ++ [⟨a, b⟩]) := by simp [encP, Pr.cs]
attribute [go_sem] encP_len encP_nil encP_app encP_take encP_drop encP_one encP_snoc

/-! Order. -/
def ltC (x y : Cf) : Bool := bltL x.p y.p || (x.p == y.p && decide (x.k < y.k))
def leC (x y : Cf) : Bool := !ltC y x
def sortC (l : List Cf) : List Cf := l.mergeSort leC
def keyV : List PV → Cf
  | [.s p, .i _ k] => ⟨p, k⟩
  | _ => ⟨[], 0⟩
def ltV (x y : List PV) : Bool := ltC (keyV x) (keyV y)
theorem ltC_irrefl (x : Cf) : ltC x x = false := by simp [ltC, blt_irrefl]
theorem ltC_trans {x y z : Cf} (h : ltC x y = true) (k : ltC y z = true) : ltC x z = true := by
  simp only [ltC, Bool.or_eq_true, Bool.and_eq_true, beq_iff_eq, decide_eq_true_eq] at *
  rcases h with h | ⟨h1, h2⟩ <;> rcases k with k | ⟨k1, k2⟩
  · exact .inl (blt_trans h k)
  · rw [← k1]; exact .inl h
  · rw [h1]; exact .inl k
  · exact .inr ⟨h1.trans k1, by omega⟩
theorem ltC_tri {x y : Cf} (h : ltC x y = false) (k : ltC y x = false) : x = y := by
  simp only [ltC, Bool.or_eq_false_iff, Bool.and_eq_false_iff, beq_eq_false_iff_ne, decide_eq_false_iff_not] at *
  have e := blt_tri h.1 k.1
  have h2 : ¬ x.k < y.k := h.2.resolve_left (fun n => n e)
  have k2 : ¬ y.k < x.k := k.2.resolve_left (fun n => n e.symm)
  cases x; cases y
  simp only at *
  subst e
  congr 1
  omega
theorem ltC_asymm {x y : Cf} (h : ltC x y = true) : ltC y x = false := by
  cases k : ltC y x with
  | false => rfl
  | true => have := ltC_trans h k; rw [ltC_irrefl] at this; cases this
theorem swo_ltC : SWO ltC where
  irrefl := ltC_irrefl
  trans _ _ _ := ltC_trans
  ntrans x y z h k := by
    cases e : ltC x z with
    | false => rfl
    | true =>
      cases f : ltC y x with
      | true => have := ltC_trans f e; rw [k] at this; cases this
      | false => have := ltC_tri h f; subst this; rw [k] at e; cases e
theorem swo_ltV : SWO ltV := ⟨fun x => swo_ltC.irrefl _, fun x y z => swo_ltC.trans _ _ _, fun x y z => swo_ltC.ntrans _ _ _⟩
/-- The order's question, as the program asks it. -/
def cfC (x y : Cf) : Int := if cmpS x.p y.p == 0 then cmpI x.k y.k else cmpS x.p y.p
def cfV (x y : List PV) : Int := cfC (keyV x) (keyV y)
theorem lt_cfC (x y : Cf) : decide (cfC x y < 0) = ltC x y := by
  unfold cfC ltC
  rw [cmpS_eq]
  by_cases h : (x.p == y.p) = true
  · rw [if_pos h, h, eq_of_beq h, blt_irrefl]
    unfold cmpI
    by_cases h1 : x.k < y.k
    · simp [h1]
    · by_cases h2 : y.k < x.k <;> simp [h1, h2]
  · rw [if_neg h, cmpS_lt]
    simp [h]
theorem lt_cfV : ltOf cfV = ltV := by
  funext x y
  exact lt_cfC _ _
theorem swo_cfV : SWO (ltOf cfV) := by rw [lt_cfV]; exact swo_ltV
theorem cfV_total (l : List Cf) : ∀ x ∈ encF l, ∀ y ∈ encF l, ltOf cfV x y = false → ltOf cfV y x = false → x = y := by
  rw [lt_cfV]
  intro x hx y hy h k
  obtain ⟨a, _, rfl⟩ := List.mem_map.1 hx
  obtain ⟨b, _, rfl⟩ := List.mem_map.1 hy
  rw [ltC_tri (x := a) (y := b) h k]
theorem sortC_perm (l : List Cf) : (sortC l).Perm l := List.mergeSort_perm _ _
theorem sortC_len (l : List Cf) : (sortC l).length = l.length := List.length_mergeSort ..
theorem sortC_sorted (l : List Cf) : (sortC l).Pairwise fun x y => ltC y x = false := by
  have h : (sortC l).Pairwise fun x y => leC x y = true := by
    refine List.pairwise_mergeSort (le := leC) ?_ ?_ _
    · intro a b c h1 h2
      simp only [leC, Bool.not_eq_true'] at h1 h2 ⊢
      exact swo_ltC.ntrans c b a h2 h1
    · intro a b
      simp only [leC]
      cases h : ltC b a with
      | false => simp
      | true => simp [ltC_asymm h]
  exact h.imp fun {a b} h => by simpa [leC] using h
theorem sortC_unique {l m : List Cf} (hp : m.Perm l) (hs : m.Pairwise fun x y => ltC y x = false) : m = sortC l :=
  List.Perm.eq_of_pairwise (le := fun x y => ltC y x = false) (fun _ _ _ _ h k => ltC_tri k h) hs (sortC_sorted l) (hp.trans (sortC_perm l).symm)
theorem encF_sort (l : List Cf) : (encF l).mergeSort (leBy (ltOf cfV)) = encF (sortC l) := by
  rw [lt_cfV]
  unfold encF sortC
  exact (List.map_mergeSort (r := leC) (s := leBy ltV) (f := Cf.cs) (l := l) fun a _ b _ => rfl).symm

/-! Moves. -/
def takenF (l : List Pr) (p : List UInt8) : Bool := l.any fun x => x.b == p
def pickTo (d : List UInt8) (out : List Pr) : List Ch → Option (List UInt8)
  | [] => none
  | x :: r => if x.k == 1 && x.n.k == 1 && d == x.n.d && !takenF out x.p then some x.p else pickTo d out r
def pairStep (l : List Ch) (out : List Pr) (x : Ch) : List Pr :=
  if x.k != 2 || x.o.k != 1 then out else match pickTo x.o.d out l with
  | some p => out ++ [⟨x.p, p⟩]
  | none => out
def pairsF (l : List Ch) : List Pr := l.foldl (pairStep l) []
/-- .. of changes that may be. -/
def pairsG (l : List Ch) : List Pr := if rightCs l then pairsF l else []
theorem pairsG_cases (l : List Ch) : pairsG l = pairsF l ∨ pairsG l = [] := by
  unfold pairsG
  split
  · exact .inl rfl
  · exact .inr rfl
theorem pairsG_sub {l : List Ch} {x : Pr} (h : x ∈ pairsG l) : x ∈ pairsF l := by
  rcases pairsG_cases l with e | e
  · rwa [e] at h
  · rw [e] at h; simp at h
def toF (l : List Pr) (p : List UInt8) : Option (List UInt8) := match l with
  | [] => none
  | x :: r => if x.a == p then some x.b else toF r p
/-- Files that went to two unlike paths. -/
def renF (b : List Pr) (x : Pr) : List Cf := match toF b x.a with
  | some to => if to != x.b then [⟨x.a, 6⟩] else []
  | none => []
def renamedF (a b : List Pr) : List Cf := a.flatMap (renF b)
def orphF (t : List It) (bad : List Cf) (x : It) : List Cf := if !isDirR t (dirOfR x.p) && !(bad.any fun c => c.p == dirOfR x.p) then [⟨x.p, 7⟩] else []
def orphansF (t : List It) (bad : List Cf) : List Cf := t.flatMap (orphF t bad)

/-! The merge. -/
def paths3 (a b c : List It) : List (List UInt8) := Lib.compact (((a ++ (b ++ c)).map It.p).mergeSort fun x y => decide (x ≤ y))
def mgN (b o t : List It) (p : List UInt8) : Nd × Bool × Int := nodeM ((getR b p).getD nd0) ((getR o p).getD nd0) ((getR t p).getD nd0) (getR b p).isSome (getR o p).isSome (getR t p).isSome
def mgI (b o t : List It) (p : List UInt8) : List It := if (mgN b o t p).2.2 != 0 then [] else if (mgN b o t p).2.1 then [⟨p, (mgN b o t p).1⟩] else []
def mgC (b o t : List It) (p : List UInt8) : List Cf := if (mgN b o t p).2.2 != 0 then [⟨p, (mgN b o t p).2.2⟩] else []
def mgIs (b o t : List It) (l : List (List UInt8)) : List It := l.flatMap (mgI b o t)
def mgCs (b o t : List It) (l : List (List UInt8)) : List Cf := l.flatMap (mgC b o t)
def outF (b o t : List It) : List It := mgIs b o t (paths3 b o t)
def badF (b o t : List It) : List Cf :=
  sortC (mgCs b o t (paths3 b o t) ++ (orphansF (outF b o t) (mgCs b o t (paths3 b o t)) ++ renamedF (pairsG (diffF b o)) (pairsG (diffF b t))))
def mergeF (b o t : List It) : List It × List Cf := if (badF b o t).length == 0 then (outF b o t, []) else ([], badF b o t)
def mirK (k : Int) : Int := if k == 2 then 3 else if k == 3 then 2 else k
def mirC (x : Cf) : Cf := ⟨x.p, mirK x.k⟩
def mirrorF (l : List Cf) : List Cf := sortC (l.map mirC)
end Go.Dm

end

section
/-
  What the conflicts of a merge say. No condition.
-/

set_option linter.unusedSimpArgs false
set_option linter.unusedVariables false
namespace Go.Dm
open Go Go.Sort

/-- What a conflict's kind says of its nodes. -/
def okN (x y z : Nd) (u v w : Bool) (k : Int) : Bool :=
  if k == 1 then u && v && w && y.k == z.k && !sameNd y z
  else if k == 4 then u && v && w && y.k != z.k
  else if k == 5 then !u && v && w && !sameNd y z
  else if k == 2 then u && v && !w && !sameNd x y
  else if k == 3 then u && !v && w && !sameNd x z
  else if k == 6 then u && !v && !w && x.k == 1
  else if k == 7 then v || w else false
theorem nodeM_kinds {x y z : Nd} (hx : x.wf) (hy : y.wf) (hz : z.wf) {u v w : Bool} (h : (nodeM x y z u v w).2.2 ≠ 0) : okN x y z u v w (nodeM x y z u v w).2.2 = true := by
  revert h
  unfold nodeM
  rw [sameM_eq hy hz, sameM_eq hx hz, sameM_eq hx hy]
  unfold sameR
  generalize ha : sameNd y z = a
  generalize hc : sameNd x z = c
  generalize he : sameNd x y = e
  generalize partsF x y z u = r
  by_cases hk : y.k = z.k
  all_goals
    cases u <;> cases v <;> cases w <;> cases a <;> cases c <;> cases e <;> simp [okN, hk, ha, hc, he]
  all_goals (split <;> simp_all)
theorem nodeM_there {x y z : Nd} {u v w : Bool} (h0 : (nodeM x y z u v w).2.2 = 0) (h : (nodeM x y z u v w).2.1 = true) : (v || w) = true := by
  unfold nodeM at h
  cases v <;> cases w <;> simp [sameM] at h ⊢

theorem mgI_mem {b o t : List It} {p : List UInt8} {x : It} (h : x ∈ mgI b o t p) : x = ⟨p, (mgN b o t p).1⟩ ∧ (mgN b o t p).2.2 = 0 ∧ (mgN b o t p).2.1 = true := by
  unfold mgI at h
  split at h
  · simp at h
  · rename_i h1
    split at h
    · rename_i h2
      exact ⟨by simpa using h, by simpa using h1, h2⟩
    · simp at h
theorem mgC_mem {b o t : List It} {p : List UInt8} {x : Cf} (h : x ∈ mgC b o t p) : x = ⟨p, (mgN b o t p).2.2⟩ ∧ (mgN b o t p).2.2 ≠ 0 := by
  unfold mgC at h
  split at h
  · rename_i h1
    exact ⟨by simpa using h, by simpa using h1⟩
  · simp at h
theorem mgIs_mem {b o t : List It} {l : List (List UInt8)} {x : It} (h : x ∈ mgIs b o t l) : x.p ∈ l ∧ x = ⟨x.p, (mgN b o t x.p).1⟩ ∧ (mgN b o t x.p).2.2 = 0 ∧ (mgN b o t x.p).2.1 = true := by
  obtain ⟨p, hp, hx⟩ := List.mem_flatMap.1 h
  have := mgI_mem hx
  have e : x.p = p := by rw [this.1]
  subst e
  exact ⟨hp, this⟩
theorem mgCs_mem {b o t : List It} {l : List (List UInt8)} {x : Cf} (h : x ∈ mgCs b o t l) : x.p ∈ l ∧ x.k = (mgN b o t x.p).2.2 ∧ (mgN b o t x.p).2.2 ≠ 0 := by
  obtain ⟨p, hp, hx⟩ := List.mem_flatMap.1 h
  obtain ⟨h1, h2⟩ := mgC_mem hx
  have e : x.p = p := by rw [h1]
  subst e
  exact ⟨hp, by rw [h1], h2⟩
theorem flatMap_srt {α β : Type} {f : α → List β} {r : α → α → Prop} {s : β → β → Prop} (h1 : ∀ a, (f a).length ≤ 1) (h2 : ∀ {a c x y}, r a c → x ∈ f a → y ∈ f c → s x y) : ∀ {l : List α}, l.Pairwise r → (l.flatMap f).Pairwise s
  | [], _ => by simp
  | a :: l, h => by
    obtain ⟨k1, k2⟩ := List.pairwise_cons.1 h
    rw [List.flatMap_cons]
    refine List.pairwise_append.2 ⟨?_, flatMap_srt h1 h2 k2, fun x hx y hy => ?_⟩
    · have := h1 a
      match f a, this with
      | [], _ => exact .nil
      | [x], _ => exact List.pairwise_singleton ..
    · obtain ⟨c, hc, hyc⟩ := List.mem_flatMap.1 hy
      exact h2 (k1 c hc) hx hyc
theorem mgI_one (b o t : List It) (p : List UInt8) : (mgI b o t p).length ≤ 1 := by unfold mgI; split <;> (try split) <;> simp
theorem mgC_one (b o t : List It) (p : List UInt8) : (mgC b o t p).length ≤ 1 := by unfold mgC; split <;> simp
theorem orphF_one (t : List It) (bad : List Cf) (x : It) : (orphF t bad x).length ≤ 1 := by unfold orphF; split <;> simp
theorem renF_one (b : List Pr) (x : Pr) : (renF b x).length ≤ 1 := by unfold renF; split <;> (try split) <;> simp
theorem outF_srt (b o t : List It) : Srt (outF b o t) := flatMap_srt (mgI_one b o t) (fun {a c x y} hr hx hy => by rw [(mgI_mem hx).1, (mgI_mem hy).1]; exact hr) (paths_strict _)
theorem mgCs_srt (b o t : List It) : (mgCs b o t (paths3 b o t)).Pairwise fun x y => bltL x.p y.p = true := flatMap_srt (mgC_one b o t) (fun {a c x y} hr hx hy => by rw [(mgC_mem hx).1, (mgC_mem hy).1]; exact hr) (paths_strict _)
theorem orphF_mem {t : List It} {bad : List Cf} {x : It} {c : Cf} (h : c ∈ orphF t bad x) : c = ⟨x.p, 7⟩ ∧ isDirR t (dirOfR x.p) = false ∧ (bad.any fun c => c.p == dirOfR x.p) = false := by
  unfold orphF at h
  split at h
  · rename_i h1
    simp only [Bool.and_eq_true, Bool.not_eq_true'] at h1
    exact ⟨by simpa using h, h1⟩
  · simp at h
theorem renF_mem {b : List Pr} {x : Pr} {c : Cf} (h : c ∈ renF b x) : c = ⟨x.a, 6⟩ ∧ ∃ to, toF b x.a = some to ∧ to ≠ x.b := by
  unfold renF at h
  split at h
  · rename_i to hto
    split at h
    · rename_i h1
      exact ⟨by simpa using h, to, hto, by simpa using h1⟩
    · simp at h
  · simp at h
theorem orphans_srt {t : List It} {bad : List Cf} (h : Srt t) : (orphansF t bad).Pairwise fun x y => bltL x.p y.p = true := flatMap_srt (orphF_one t bad) (fun {a c x y} hr hx hy => by rw [(orphF_mem hx).1, (orphF_mem hy).1]; exact hr) h

/-! Pairs. -/
theorem pairStep_ext (l : List Ch) (out : List Pr) (x : Ch) : pairStep l out x = out ∨ ∃ p, pairStep l out x = out ++ [⟨x.p, p⟩] ∧ x.k = 2 ∧ x.o.k = 1 ∧ pickTo x.o.d out l = some p := by
  unfold pairStep
  split
  · exact .inl rfl
  · rename_i h1
    simp only [Bool.or_eq_true, bne_iff_ne, ne_eq, not_or, Decidable.not_not] at h1
    split
    · rename_i p hp
      exact .inr ⟨p, rfl, h1.1, h1.2, hp⟩
    · exact .inl rfl
theorem pairs_fold {l : List Ch} : ∀ {m : List Ch} {out : List Pr}, m.Pairwise (fun x y => bltL x.p y.p = true) → out.Pairwise (fun x y => bltL x.a y.a = true) → (∀ x ∈ out, ∀ y ∈ m, bltL x.a y.p = true) →
    (m.foldl (pairStep l) out).Pairwise (fun x y => bltL x.a y.a = true) ∧ ∀ x ∈ m.foldl (pairStep l) out, x ∈ out ∨ ∃ c ∈ m, c.p = x.a ∧ c.k = 2 ∧ c.o.k = 1
  | [], out, _, h2, _ => ⟨h2, fun x hx => .inl hx⟩
  | c :: m, out, h1, h2, h3 => by
    obtain ⟨k1, k2⟩ := List.pairwise_cons.1 h1
    rw [List.foldl_cons]
    rcases pairStep_ext l out c with e | ⟨p, e, e1, e2, _⟩
    · rw [e]
      obtain ⟨q1, q2⟩ := pairs_fold k2 h2 fun x hx y hy => h3 x hx y (List.mem_cons_of_mem _ hy)
      refine ⟨q1, fun x hx => ?_⟩
      rcases q2 x hx with h | ⟨d, hd, he⟩
      · exact .inl h
      · exact .inr ⟨d, List.mem_cons_of_mem _ hd, he⟩
    · rw [e]
      obtain ⟨q1, q2⟩ := pairs_fold (out := out ++ [⟨c.p, p⟩]) k2 (List.pairwise_append.2 ⟨h2, List.pairwise_singleton .., fun x hx y hy => by
        rw [List.mem_singleton] at hy; subst hy; exact h3 x hx c List.mem_cons_self⟩) fun x hx y hy => by
          rcases List.mem_append.1 hx with hx | hx
          · exact h3 x hx y (List.mem_cons_of_mem _ hy)
          · rw [List.mem_singleton] at hx; subst hx; exact k1 y hy
      refine ⟨q1, fun x hx => ?_⟩
      rcases q2 x hx with h | ⟨d, hd, he⟩
      · rcases List.mem_append.1 h with h | h
        · exact .inl h
        · rw [List.mem_singleton] at h; subst h; exact .inr ⟨c, List.mem_cons_self, rfl, e1, e2⟩
      · exact .inr ⟨d, List.mem_cons_of_mem _ hd, he⟩
theorem pairsF_srt {l : List Ch} (h : l.Pairwise fun x y => bltL x.p y.p = true) : (pairsF l).Pairwise fun x y => bltL x.a y.a = true := (pairs_fold (l := l) h .nil (by simp)).1
theorem pairsG_srt {l : List Ch} (h : l.Pairwise fun x y => bltL x.p y.p = true) : (pairsG l).Pairwise fun x y => bltL x.a y.a = true := by
  rcases pairsG_cases l with e | e <;> rw [e]
  · exact pairsF_srt h
  · exact .nil
theorem pairsF_mem {l : List Ch} (h : l.Pairwise fun x y => bltL x.p y.p = true) {x : Pr} (hx : x ∈ pairsF l) : ∃ c ∈ l, c.p = x.a ∧ c.k = 2 ∧ c.o.k = 1 := by
  rcases (pairs_fold (l := l) h .nil (by simp)).2 x hx with h | h
  · simp at h
  · exact h
theorem toF_mem {l : List Pr} {p to : List UInt8} (h : toF l p = some to) : ∃ x ∈ l, x.a = p ∧ x.b = to := by
  induction l with
  | nil => simp [toF] at h
  | cons x r ih =>
    simp only [toF] at h
    split at h
    · rename_i h1; exact ⟨x, List.mem_cons_self, by simpa using h1, by simpa using h⟩
    · obtain ⟨y, hy, he⟩ := ih h; exact ⟨y, List.mem_cons_of_mem _ hy, he⟩
theorem pairs_went {a b : List It} {x : Pr} (h : x ∈ pairsF (diffF a b)) : (getR a x.a).isSome = true ∧ (getR b x.a).isSome = false ∧ ((getR a x.a).getD nd0).k = 1 := by
  obtain ⟨c, hc, hp, hk, ho⟩ := pairsF_mem (diffF_srt a b) h
  obtain ⟨h1, _⟩ := diffF_mem hc
  obtain ⟨h2, _⟩ := diffF_nodes hc
  rw [hp] at h1 h2
  rw [h2] at ho
  rw [hk] at h1
  refine ⟨?_, ?_, ho⟩
  · unfold kindF at h1
    cases hu : (getR a x.a).isSome with
    | true => rfl
    | false => rw [hu] at h1; revert h1; cases (getR b x.a).isSome <;> simp
  · unfold kindF at h1
    cases hv : (getR b x.a).isSome with
    | false => rfl
    | true =>
      rw [hv] at h1; revert h1
      cases (getR a x.a).isSome
      · simp
      · simp only [if_true]
        repeat' split
        all_goals simp
theorem renamed_mem {b o t : List It} {c : Cf} (h : c ∈ renamedF (pairsG (diffF b o)) (pairsG (diffF b t))) : c.k = 6 ∧ (getR b c.p).isSome = true ∧ (getR o c.p).isSome = false ∧ (getR t c.p).isSome = false ∧ ((getR b c.p).getD nd0).k = 1 := by
  obtain ⟨x, hx, hc⟩ := List.mem_flatMap.1 h
  obtain ⟨rfl, to, hto, _⟩ := renF_mem hc
  obtain ⟨y, hy, hya, _⟩ := toF_mem hto
  obtain ⟨h1, h2, h3⟩ := pairs_went (pairsG_sub hx)
  obtain ⟨_, h4, _⟩ := pairs_went (pairsG_sub hy)
  rw [hya] at h4
  exact ⟨rfl, h1, h2, h4, h3⟩

/-- All conflicts, as they are found. -/
def allF (b o t : List It) : List Cf := mgCs b o t (paths3 b o t) ++ (orphansF (outF b o t) (mgCs b o t (paths3 b o t)) ++ renamedF (pairsG (diffF b o)) (pairsG (diffF b t)))
theorem badF_eq (b o t : List It) : badF b o t = sortC (allF b o t) := rfl
theorem okN_small {x y z : Nd} {u v w : Bool} {k : Int} (h : okN x y z u v w k = true) : 1 ≤ k ∧ k ≤ 7 := by
  unfold okN at h
  repeat' (split at h)
  all_goals first | (rename_i h1; have := eq_of_beq h1; omega) | simp at h
theorem mgC_kind {x y z : Nd} (hx : x.wf) (hy : y.wf) (hz : z.wf) {u v w : Bool} (h : (nodeM x y z u v w).2.2 ≠ 0) : (nodeM x y z u v w).2.2 < 6 := by
  revert h
  unfold nodeM
  repeat' split
  all_goals simp
theorem all_ok {b o t : List It} (hb : OkT b) (ho : OkT o) (ht : OkT t) {c : Cf} (h : c ∈ allF b o t) : okN ((getR b c.p).getD nd0) ((getR o c.p).getD nd0) ((getR t c.p).getD nd0) (getR b c.p).isSome (getR o c.p).isSome (getR t c.p).isSome c.k = true := by
  rcases List.mem_append.1 h with h | h
  · obtain ⟨_, h2, h3⟩ := mgCs_mem h
    rw [h2]
    exact nodeM_kinds (hb.gett _) (ho.gett _) (ht.gett _) h3
  · rcases List.mem_append.1 h with h | h
    · obtain ⟨x, hx, hc⟩ := List.mem_flatMap.1 h
      obtain ⟨rfl, _⟩ := orphF_mem hc
      obtain ⟨_, _, h2, h3⟩ := mgIs_mem hx
      have := nodeM_there h2 h3
      simpa [okN] using this
    · obtain ⟨h1, h2, h3, h4, h5⟩ := renamed_mem h
      simp [okN, h1, h2, h3, h4, h5]
theorem srt_nodup {α : Type} {f : α → List UInt8} : ∀ {l : List α}, l.Pairwise (fun x y => bltL (f x) (f y) = true) → l.Nodup := fun h => h.imp fun {a b} h e => by subst e; rw [blt_irrefl] at h; cases h
theorem all_nodup {b o t : List It} (hb : OkT b) (ho : OkT o) (ht : OkT t) : (allF b o t).Nodup := by
  refine List.nodup_append.2 ⟨srt_nodup (f := Cf.p) (mgCs_srt b o t), List.nodup_append.2 ⟨srt_nodup (f := Cf.p) (orphans_srt (outF_srt b o t)), ?_, ?_⟩, ?_⟩
  · exact srt_nodup (f := Cf.p) (flatMap_srt (renF_one _) (fun {a c x y} hr hx hy => by rw [(renF_mem hx).1, (renF_mem hy).1]; exact hr) (pairsG_srt (diffF_srt b o)))
  · intro x hx y hy e
    subst e
    obtain ⟨z, _, hc⟩ := List.mem_flatMap.1 hx
    have h1 := (renamed_mem hy).1
    rw [(orphF_mem hc).1] at h1
    simp at h1
  · intro x hx y hy e
    subst e
    obtain ⟨_, h2, h3⟩ := mgCs_mem hx
    have h4 := mgC_kind (hb.gett _) (ho.gett _) (ht.gett _) h3
    rcases List.mem_append.1 hy with hy | hy
    · obtain ⟨z, _, hc⟩ := List.mem_flatMap.1 hy
      have h1 : x.k = 7 := by rw [(orphF_mem hc).1]
      unfold mgN at h2
      omega
    · have h1 := (renamed_mem hy).1
      unfold mgN at h2
      omega
theorem badF_strict {b o t : List It} (hb : OkT b) (ho : OkT o) (ht : OkT t) : (badF b o t).Pairwise fun x y => ltC x y = true := by
  have h1 := sortC_sorted (allF b o t)
  have h2 : (sortC (allF b o t)).Nodup := (sortC_perm _).nodup_iff.2 (all_nodup hb ho ht)
  refine (h1.and h2).imp fun {a c} h => ?_
  cases e : ltC a c with
  | true => rfl
  | false => exact absurd (ltC_tri e h.1) h.2
theorem badF_ok {b o t : List It} (hb : OkT b) (ho : OkT o) (ht : OkT t) {c : Cf} (h : c ∈ badF b o t) : okN ((getR b c.p).getD nd0) ((getR o c.p).getD nd0) ((getR t c.p).getD nd0) (getR b c.p).isSome (getR o c.p).isSome (getR t c.p).isSome c.k = true :=
  all_ok hb ho ht ((sortC_perm _).mem_iff.1 h)
theorem lens_le {α β : Type} {f : α → List β} (h1 : ∀ a, (f a).length ≤ 1) : ∀ l : List α, (l.flatMap f).length ≤ l.length
  | [] => by simp
  | a :: l => by
    have := lens_le h1 l
    have := h1 a
    rw [List.flatMap_cons, List.length_append, List.length_cons]; omega
theorem pairs_len (l : List Ch) : ∀ (m : List Ch) (out : List Pr), (m.foldl (pairStep l) out).length ≤ out.length + m.length
  | [], out => by simp
  | c :: m, out => by
    rw [List.foldl_cons, List.length_cons]
    have := pairs_len l m (pairStep l out c)
    rcases pairStep_ext l out c with e | ⟨p, e, _⟩
    · rw [e] at this ⊢; omega
    · rw [e] at this ⊢; simp at this; omega
theorem pairsF_len (l : List Ch) : (pairsF l).length ≤ l.length := by have := pairs_len l l []; simpa [pairsF] using this
theorem pairsG_len (l : List Ch) : (pairsG l).length ≤ l.length := by
  rcases pairsG_cases l with e | e <;> rw [e]
  · exact pairsF_len l
  · simp
theorem paths3_len (a b c : List It) : (paths3 a b c).length ≤ a.length + b.length + c.length := by
  refine Nat.le_trans (compact_le _) ?_
  rw [List.length_mergeSort, List.length_map, List.length_append, List.length_append]; omega
theorem outF_len (b o t : List It) : (outF b o t).length ≤ b.length + o.length + t.length := Nat.le_trans (lens_le (mgI_one b o t) _) (paths3_len b o t)
theorem badF_len (b o t : List It) : (badF b o t).length ≤ 3 * (b.length + o.length + t.length) := by
  rw [badF_eq, sortC_len]
  unfold allF
  rw [List.length_append, List.length_append]
  have h1 := lens_le (mgC_one b o t) (paths3 b o t)
  have h2 := paths3_len b o t
  have h3 := lens_le (orphF_one (outF b o t) (mgCs b o t (paths3 b o t))) (outF b o t)
  have h4 := outF_len b o t
  have h5 := lens_le (renF_one (pairsG (diffF b t))) (pairsG (diffF b o))
  have h6 := pairsG_len (diffF b o)
  have h7 := diffF_len b o
  unfold mgCs orphansF renamedF at *
  omega
end Go.Dm

end

section
/-
  Merges of sides that are alike, and the other way round. No condition.
-/

set_option linter.unusedSimpArgs false
set_option linter.unusedVariables false
namespace Go.Dm
open Go Go.Sort

theorem OkT.getp {t : List It} (h : OkT t) (p : List UInt8) : plainN ((getR t p).getD nd0) := by
  refine ⟨h.gett p, ?_⟩
  cases hs : (getR t p).isSome with
  | false =>
    cases hg : getR t p with
    | none => show bitsF 0 = 0; decide +kernel
    | some n => rw [hg] at hs; cases hs
  | true =>
    have h1 := (h.getok hs).2.2
    unfold rightNodeR at h1
    simp only [Bool.and_eq_true, Bool.not_eq_true', Bool.or_eq_false_iff, Bool.not_eq_false'] at h1
    have := h1.1.2
    rw [plainR_eq (h.gett p)] at this
    exact eq_of_beq this
theorem plain_same {x y : Nd} (hx : plainN x) (hy : plainN y) (h : sameNd x y = true) : x = y := by
  simp only [sameNd, Bool.and_eq_true, beq_iff_eq] at h
  obtain ⟨⟨⟨h1, h2⟩, h3⟩, h4⟩ := h
  rw [hx.2, hy.2] at h4
  cases x; cases y
  simp only at *
  subst h1 h2 h3 h4
  rfl
theorem sameNd_swap (x y : Nd) : sameNd x y = sameNd y x := by
  cases h : sameNd x y with
  | true => exact (sameNd_symm h).symm
  | false => cases k : sameNd y x with
    | false => rfl
    | true => rw [sameNd_symm k] at h; cases h
theorem whatF_swap (x y : Nd) : whatF x y = whatF y x := by
  unfold whatF
  rw [Bool.eq_iff_iff]
  simp only [Bool.and_eq_true, beq_iff_eq]
  exact ⟨fun h => ⟨h.1.symm, h.2.symm⟩, fun h => ⟨h.1.symm, h.2.symm⟩⟩

/-! The other way round. -/
theorem laterN_plain {x y : Nat} (hx : x < 18446744073709551616) (hy : y < 18446744073709551616) : laterN x y = laterN y x := by
  have h := laterN_swap hx hy
  have e : ∀ a b, bitsF (laterN a b) = laterN a b := fun a b => by unfold laterN; split <;> exact bitsF_idem _
  rwa [e, e] at h
theorem pick_swap {α : Type} {u a o t : Bool} {p q : α} (h : o = true → t = true → a = true) (ha : a = true → p = q) (hn : (sideF u a o t != 0) = true) :
    (if (sideF u a o t == 2) = true then q else p) = if (sideF u a t o == 2) = true then p else q := by
  cases u <;> cases a <;> cases o <;> cases t <;> simp_all [sideF]
theorem zero_swap {u a o t : Bool} : (sideF u a o t != 0) = (sideF u a t o != 0) := by
  cases u <;> cases a <;> cases o <;> cases t <;> simp [sideF]
theorem time_swap {u a o t : Bool} {p q l : Nat} (h : o = true → t = true → a = true) (ha : a = true → p = q) :
    (if (sideF u a o t == 2) = true then q else if (sideF u a o t == 0) = true then l else p) = if (sideF u a t o == 2) = true then p else if (sideF u a t o == 0) = true then l else q := by
  cases u <;> cases a <;> cases o <;> cases t <;> simp_all [sideF]
theorem parts_swap {x y z : Nd} {u : Bool} (hx : plainN x) (hy : plainN y) (hz : plainN z) : (partsF x y z u).2 = (partsF x z y u).2 ∧ ((partsF x y z u).2 = true → (partsF x y z u).1 = (partsF x z y u).1) := by
  have n0 : ∀ {a c : Nat}, a < 18446744073709551616 → c < 18446744073709551616 → bitsF a = a → bitsF c = c → (numCmp a c == 0) = (a == c) := fun ha hc h1 h2 => by rw [numCmp_zero ha hc, h1, h2]
  unfold partsF
  rw [n0 hy.1 hz.1 hy.2 hz.2, n0 hx.1 hy.1 hx.2 hy.2, n0 hx.1 hz.1 hx.2 hz.2, n0 hz.1 hy.1 hz.2 hy.2, laterN_plain hz.1 hy.1, whatF_swap z y, show (z.m == y.m) = (y.m == z.m) from Bool.eq_iff_iff.2 ⟨fun h => by simpa using (eq_of_beq h).symm, fun h => by simpa using (eq_of_beq h).symm⟩,
    show (z.t == y.t) = (y.t == z.t) from Bool.eq_iff_iff.2 ⟨fun h => by simpa using (eq_of_beq h).symm, fun h => by simpa using (eq_of_beq h).symm⟩]
  have hw : whatF x y = true → whatF x z = true → whatF y z = true := fun a c => whatF_both a c
  have hm : (x.m == y.m) = true → (x.m == z.m) = true → (y.m == z.m) = true := fun a c => by simp only [beq_iff_eq] at a c ⊢; exact a.symm.trans c
  have ht : (x.t == y.t) = true → (x.t == z.t) = true → (y.t == z.t) = true := fun a c => by simp only [beq_iff_eq] at a c ⊢; exact a.symm.trans c
  have ek : whatF y z = true → y.k = z.k := fun h => by simp only [whatF, Bool.and_eq_true, beq_iff_eq] at h; exact h.1
  have ed : whatF y z = true → y.d = z.d := fun h => by simp only [whatF, Bool.and_eq_true, beq_iff_eq] at h; exact h.2
  simp only
  refine ⟨by rw [zero_swap (a := whatF y z), zero_swap (a := y.m == z.m)], fun h => ?_⟩
  rw [Bool.and_eq_true] at h
  rw [pick_swap hw ek h.1, pick_swap hw ed h.1, pick_swap hm (fun h => eq_of_beq h) h.2, time_swap ht (fun h => eq_of_beq h)]
theorem sameM_swap {x y : Nd} (hx : x.wf) (hy : y.wf) (u v : Bool) : sameM x y u v = sameM y x v u := by
  rw [sameM_eq hx hy, sameM_eq hy hx]
  unfold sameR
  rw [sameNd_swap x y]
  cases u <;> cases v <;> simp
theorem sameM_both {x y z : Nd} (hx : x.wf) (hy : y.wf) (hz : z.wf) {u v w : Bool} (h : sameM x y u v = true) (k : sameM x z u w = true) : sameM y z v w = true := by
  rw [sameM_eq hx hy] at h; rw [sameM_eq hx hz] at k; rw [sameM_eq hy hz]; exact sameR_both h k
theorem sameM_val {y z : Nd} (hy : plainN y) (hz : plainN z) {v w : Bool} (h : sameM y z v w = true) : v = w ∧ (if v then y else nd0) = (if w then z else nd0) := by
  rw [sameM_eq hy.1 hz.1] at h
  unfold sameR at h
  simp only [Bool.and_eq_true, beq_iff_eq, Bool.or_eq_true, Bool.not_eq_true'] at h
  obtain ⟨rfl, h⟩ := h
  refine ⟨rfl, ?_⟩
  cases v with
  | false => rfl
  | true => simp only [if_true]; exact plain_same hy hz (h.resolve_left (by simp))
theorem nodeM_swap {x y z : Nd} (hx : plainN x) (hy : plainN y) (hz : plainN z) (u v w : Bool) : (nodeM x z y u w v).1 = (nodeM x y z u v w).1 ∧ (nodeM x z y u w v).2.1 = (nodeM x y z u v w).2.1 ∧ (nodeM x z y u w v).2.2 = mirK (nodeM x y z u v w).2.2 := by
  unfold nodeM
  rw [sameM_swap hz.1 hy.1 w v]
  by_cases h1 : sameM y z v w = true
  · obtain ⟨e1, e2⟩ := sameM_val hy hz h1
    simp only [h1, Bool.true_or, if_true, mirK]
    exact ⟨e2.symm, e1.symm, rfl⟩
  · by_cases h2 : sameM x z u w = true
    · have h3 : sameM x y u v = false := by
        cases h3 : sameM x y u v with
        | false => rfl
        | true => exact absurd (sameM_both hx.1 hy.1 hz.1 h3 h2) h1
      simp only [h1, h2, h3, Bool.or_true, Bool.or_false, if_true, if_false, Bool.false_eq_true, mirK]
      exact ⟨by first | rfl | trivial, by first | rfl | trivial, by first | rfl | trivial | simp [mirK]⟩
    · by_cases h3 : sameM x y u v = true
      · simp only [h1, h2, h3, Bool.or_true, Bool.or_false, if_true, if_false, Bool.false_eq_true, mirK]
        exact ⟨by first | rfl | trivial, by first | rfl | trivial, by first | rfl | trivial | simp [mirK]⟩
      · simp only [h1, h2, h3, Bool.or_self, Bool.false_eq_true, if_false]
        obtain ⟨p1, p2⟩ := parts_swap (u := u) hx hy hz
        rw [← p1]
        cases v <;> cases w <;> simp only [Bool.not_true, Bool.not_false, if_true, if_false, Bool.false_eq_true]
        · exact absurd (by rw [sameM_eq hy.1 hz.1]; rfl) h1
        · exact ⟨by first | rfl | trivial, by first | rfl | trivial, by first | rfl | trivial | simp [mirK]⟩
        · exact ⟨by first | rfl | trivial, by first | rfl | trivial, by first | rfl | trivial | simp [mirK]⟩
        · cases hp : (partsF x y z u).2 with
          | true =>
            simp only [if_true]
            exact ⟨(p2 hp).symm, by first | rfl | trivial, by first | rfl | trivial | simp [mirK]⟩
          | false =>
            have hk : (z.k != y.k) = (y.k != z.k) := by rw [Bool.eq_iff_iff]; simp only [bne_iff_ne, ne_eq]; exact ⟨fun h e => h e.symm, fun h e => h e.symm⟩
            rw [hk]
            cases u <;> by_cases h4 : (y.k != z.k) = true <;> simp [h4, mirK]
theorem paths3_iff {a b c : List It} {p : List UInt8} : p ∈ paths3 a b c ↔ (getR a p).isSome = true ∨ (getR b p).isSome = true ∨ (getR c p).isSome = true := by
  have has : ∀ {t : List It}, (∃ x ∈ t, x.p = p) ↔ (getR t p).isSome = true := fun {t} => ⟨fun ⟨x, hx, e⟩ => e ▸ getR_has hx, fun h => by
    cases hg : getR t p with
    | none => rw [hg] at h; cases h
    | some n => obtain ⟨x, hx, e, _⟩ := getR_mem hg; exact ⟨x, hx, e⟩⟩
  unfold paths3
  rw [compact_iff, ← has, ← has, ← has]
  simp only [List.mem_map, List.mem_append]
  constructor
  · rintro ⟨x, h | h | h, e⟩
    · exact .inl ⟨x, h, e⟩
    · exact .inr (.inl ⟨x, h, e⟩)
    · exact .inr (.inr ⟨x, h, e⟩)
  · rintro (⟨x, h, e⟩ | ⟨x, h, e⟩ | ⟨x, h, e⟩)
    · exact ⟨x, .inl h, e⟩
    · exact ⟨x, .inr (.inl h), e⟩
    · exact ⟨x, .inr (.inr h), e⟩
theorem paths3_swap (a b c : List It) : paths3 a c b = paths3 a b c :=
  strict_unique (lt := bltL) blt_irrefl (fun h => blt_asymm h) (paths_strict _) (paths_strict _) fun p => by
    show p ∈ paths3 a c b ↔ p ∈ paths3 a b c
    rw [paths3_iff, paths3_iff]
    constructor <;> rintro (h | h | h) <;> simp [h]
theorem mgN_swap {b o t : List It} (hb : OkT b) (ho : OkT o) (ht : OkT t) (p : List UInt8) : (mgN b t o p).1 = (mgN b o t p).1 ∧ (mgN b t o p).2.1 = (mgN b o t p).2.1 ∧ (mgN b t o p).2.2 = mirK (mgN b o t p).2.2 :=
  nodeM_swap (hb.getp p) (ho.getp p) (ht.getp p) _ _ _
theorem mirK_zero (k : Int) : (mirK k != 0) = (k != 0) := by
  unfold mirK
  by_cases h2 : k = 2
  · subst h2; rfl
  · by_cases h3 : k = 3
    · subst h3; rfl
    · simp [h2, h3]
theorem outF_swap {b o t : List It} (hb : OkT b) (ho : OkT o) (ht : OkT t) : outF b t o = outF b o t := by
  unfold outF mgIs
  rw [paths3_swap]
  congr 1
  funext p
  unfold mgI
  obtain ⟨e1, e2, e3⟩ := mgN_swap hb ho ht p
  rw [e1, e2, e3, mirK_zero]
theorem mgCs_swap {b o t : List It} (hb : OkT b) (ho : OkT o) (ht : OkT t) (l : List (List UInt8)) : mgCs b t o l = (mgCs b o t l).map mirC := by
  unfold mgCs
  rw [List.map_flatMap]
  congr 1
  funext p
  unfold mgC
  obtain ⟨_, _, e3⟩ := mgN_swap hb ho ht p
  rw [e3, mirK_zero]
  split <;> simp [mirC]
theorem orphans_mir (t : List It) (bad : List Cf) : orphansF t (bad.map mirC) = (orphansF t bad).map mirC := by
  unfold orphansF
  rw [List.map_flatMap]
  congr 1
  funext x
  unfold orphF
  rw [List.any_map]
  have : (fun c : Cf => c.p == dirOfR x.p) ∘ mirC = fun c => c.p == dirOfR x.p := rfl
  rw [this]
  split <;> simp [mirC, mirK]
theorem toF_self {x : Pr} : ∀ {l : List Pr}, l.Pairwise (fun x y => bltL x.a y.a = true) → x ∈ l → toF l x.a = some x.b
  | y :: l, h, hx => by
    obtain ⟨h1, h2⟩ := List.pairwise_cons.1 h
    simp only [toF]
    rcases List.mem_cons.1 hx with rfl | hx
    · simp
    · have := blt_ne (h1 x hx)
      rw [this]
      simp only [Bool.false_eq_true, if_false]
      exact toF_self h2 hx
theorem renamed_iff {A B : List Pr} (hA : A.Pairwise fun x y => bltL x.a y.a = true) (hB : B.Pairwise fun x y => bltL x.a y.a = true) {c : Cf} : c ∈ renamedF A B ↔ c.k = 6 ∧ ∃ x ∈ A, ∃ y ∈ B, x.a = c.p ∧ y.a = c.p ∧ x.b ≠ y.b := by
  constructor
  · intro h
    obtain ⟨x, hx, hc⟩ := List.mem_flatMap.1 h
    obtain ⟨rfl, to, hto, hne⟩ := renF_mem hc
    obtain ⟨y, hy, e1, e2⟩ := toF_mem hto
    exact ⟨rfl, x, hx, y, hy, rfl, e1, fun e => hne (by rw [e, e2])⟩
  · rintro ⟨hk, x, hx, y, hy, e1, e2, hne⟩
    refine List.mem_flatMap.2 ⟨x, hx, ?_⟩
    unfold renF
    have := toF_self hB hy
    rw [e2, ← e1] at this
    rw [this]
    simp only
    rw [if_pos (by simpa using fun e => hne e.symm)]
    cases c
    simp only at *
    subst hk e1
    simp
theorem renamed_srt {A B : List Pr} (hA : A.Pairwise fun x y => bltL x.a y.a = true) : (renamedF A B).Pairwise fun x y => bltL x.p y.p = true :=
  flatMap_srt (renF_one B) (fun {a c x y} hr hx hy => by rw [(renF_mem hx).1, (renF_mem hy).1]; exact hr) hA
theorem renamed_swap {A B : List Pr} (hA : A.Pairwise fun x y => bltL x.a y.a = true) (hB : B.Pairwise fun x y => bltL x.a y.a = true) : renamedF B A = renamedF A B :=
  strict_unique (lt := fun x y => bltL x.p y.p) (fun x => blt_irrefl _) (fun h => blt_asymm h) (renamed_srt hB) (renamed_srt hA) fun c => by
    rw [renamed_iff hB hA, renamed_iff hA hB]
    exact ⟨fun ⟨h, x, hx, y, hy, e1, e2, e3⟩ => ⟨h, y, hy, x, hx, e2, e1, fun e => e3 e.symm⟩, fun ⟨h, x, hx, y, hy, e1, e2, e3⟩ => ⟨h, y, hy, x, hx, e2, e1, fun e => e3 e.symm⟩⟩
theorem renamed_mir (A B : List Pr) : (renamedF A B).map mirC = renamedF A B := by
  unfold renamedF
  rw [List.map_flatMap]
  congr 1
  funext x
  unfold renF
  split
  · split <;> simp [mirC, mirK]
  · rfl
theorem allF_swap {b o t : List It} (hb : OkT b) (ho : OkT o) (ht : OkT t) : allF b t o = (allF b o t).map mirC := by
  unfold allF
  rw [paths3_swap, mgCs_swap hb ho ht, outF_swap hb ho ht, orphans_mir, List.map_append, List.map_append, renamed_mir, renamed_swap (pairsG_srt (diffF_srt b o)) (pairsG_srt (diffF_srt b t))]
theorem badF_swap {b o t : List It} (hb : OkT b) (ho : OkT o) (ht : OkT t) : badF b t o = mirrorF (badF b o t) := by
  rw [badF_eq, allF_swap hb ho ht]
  unfold mirrorF
  rw [badF_eq]
  exact sortC_unique ((sortC_perm _).trans ((sortC_perm (allF b o t)).map _).symm) (sortC_sorted _)
theorem mergeF_swap {b o t : List It} (hb : OkT b) (ho : OkT o) (ht : OkT t) : (mergeF b t o).1 = (mergeF b o t).1 ∧ (mergeF b t o).2 = mirrorF (mergeF b o t).2 := by
  have hl : (badF b t o).length = (badF b o t).length := by
    rw [badF_swap hb ho ht]; unfold mirrorF; rw [sortC_len, List.length_map]
  unfold mergeF
  rw [hl, outF_swap hb ho ht, badF_swap hb ho ht]
  have e0 : mirrorF [] = [] := by simp [mirrorF, sortC]
  split
  · exact ⟨rfl, e0.symm⟩
  · exact ⟨rfl, rfl⟩

/-! Sides that are alike. -/
theorem outF_side {b o t s : List It} (hs : Srt s) (h : ∀ p, mgI b o t p = match getR s p with
    | some n => [⟨p, n⟩]
    | none => []) (hp : ∀ x ∈ s, x.p ∈ paths3 b o t) : outF b o t = s :=
  strict_unique (lt := fun x y => bltL x.p y.p) (fun x => blt_irrefl _) (fun h => blt_asymm h) (outF_srt b o t) hs fun x => by
    constructor
    · intro hx
      obtain ⟨p, _, hx⟩ := List.mem_flatMap.1 hx
      rw [h] at hx
      cases hg : getR s p with
      | none => rw [hg] at hx; simp at hx
      | some n =>
        rw [hg] at hx
        obtain ⟨y, hy, e1, e2⟩ := getR_mem hg
        have : x = y := by
          have hx : x = ⟨p, n⟩ := by simpa using hx
          rw [hx]; cases y; simp only at e1 e2; subst e1 e2; rfl
        rw [this]; exact hy
    · intro hx
      refine List.mem_flatMap.2 ⟨x.p, hp x hx, ?_⟩
      rw [h, getR_self hs hx]
      simp
theorem all_none {b o t s : List It} (hpar : Par s) (ho : outF b o t = s) (hm : ∀ p, (mgN b o t p).2.2 = 0) (hr : renamedF (pairsG (diffF b o)) (pairsG (diffF b t)) = []) : badF b o t = [] := by
  have e : mgCs b o t (paths3 b o t) = [] := by
    refine List.flatMap_eq_nil_iff.2 fun p _ => ?_
    unfold mgC; rw [hm]; rfl
  have e2 : orphansF (outF b o t) (mgCs b o t (paths3 b o t)) = [] := by
    rw [ho]
    refine List.flatMap_eq_nil_iff.2 fun x hx => ?_
    unfold orphF
    rw [hpar x hx]; rfl
  rw [badF_eq]
  unfold allF
  rw [e2, e, hr]
  simp [sortC]
theorem sameM_refl {x : Nd} (h : x.wf) (u : Bool) : sameM x x u u = true := by rw [sameM_eq h h]; simp [sameR, sameNd_refl]
theorem mgI_kept {b o t s : List It} {p : List UInt8} (h : mgN b o t p = (if (getR s p).isSome then (getR s p).getD nd0 else nd0, (getR s p).isSome, 0)) : mgI b o t p = match getR s p with
    | some n => [⟨p, n⟩]
    | none => [] := by
  unfold mgI
  rw [h]
  cases getR s p <;> simp
theorem merge_ours {b o : List It} (hb : OkT b) (ho : OkT o) : mergeF b o b = (o, []) := by
  have hn : ∀ p, mgN b o b p = (if (getR o p).isSome then (getR o p).getD nd0 else nd0, (getR o p).isSome, 0) := fun p => by
    unfold mgN nodeM
    rw [sameM_refl (hb.gett p), Bool.or_true, if_pos rfl]
  have h1 : outF b o b = o := outF_side ho.srt (fun p => mgI_kept (hn p)) fun x hx => paths3_iff.2 (.inr (.inl (getR_has hx)))
  have h2 : badF b o b = [] := all_none ho.par h1 (fun p => by rw [hn]) (by
    rw [diffF_self hb]
    refine List.flatMap_eq_nil_iff.2 fun x _ => ?_
    rfl)
  unfold mergeF; rw [h1, h2]; rfl
theorem merge_theirs {b t : List It} (hb : OkT b) (ht : OkT t) : mergeF b b t = (t, []) := by
  have hn : ∀ p, mgN b b t p = (if (getR t p).isSome then (getR t p).getD nd0 else nd0, (getR t p).isSome, 0) := fun p => by
    unfold mgN nodeM
    rw [Bool.or_self, sameM_refl (hb.gett p)]
    split
    · rename_i h
      obtain ⟨e1, e2⟩ := sameM_val (hb.getp p) (ht.getp p) h
      rw [e2, e1]
    · rfl
  have h1 : outF b b t = t := outF_side ht.srt (fun p => mgI_kept (hn p)) fun x hx => paths3_iff.2 (.inr (.inr (getR_has hx)))
  have h2 : badF b b t = [] := all_none ht.par h1 (fun p => by rw [hn]) (by
    rw [diffF_self hb]; rfl)
  unfold mergeF; rw [h1, h2]; rfl
theorem merge_both {b o : List It} (hb : OkT b) (ho : OkT o) : mergeF b o o = (o, []) := by
  have hn : ∀ p, mgN b o o p = (if (getR o p).isSome then (getR o p).getD nd0 else nd0, (getR o p).isSome, 0) := fun p => by
    unfold mgN nodeM
    rw [sameM_refl (ho.gett p), Bool.true_or, if_pos rfl]
  have h1 : outF b o o = o := outF_side ho.srt (fun p => mgI_kept (hn p)) fun x hx => paths3_iff.2 (.inr (.inl (getR_has hx)))
  have h2 : badF b o o = [] := all_none ho.par h1 (fun p => by rw [hn]) (by
    refine List.eq_nil_iff_forall_not_mem.2 fun c hc => ?_
    obtain ⟨x, hx, hc⟩ := List.mem_flatMap.1 hc
    obtain ⟨_, to, hto, hne⟩ := renF_mem hc
    rw [toF_self (pairsG_srt (diffF_srt b o)) hx] at hto
    cases hto
    exact hne rfl)
  unfold mergeF; rw [h1, h2]; rfl
end Go.Dm

end

section
/-
  The document's merge is the program's; what a merge has at each path; sides that turn directories of their own. No condition beyond times that are words of 64 bits.
-/

set_option linter.unusedSimpArgs false
set_option linter.unusedVariables false
namespace Go.Dm
open Go Go.Sort

/-! The document's merge of nodes is the program's. -/
theorem node_law2 {base o t : Nd} (hb : base.wf) (ho : o.wf) (ht : t.wf) (b p q : Bool) :
    (nodeR base o t b p q).2.2 = (nodeM base o t b p q).2.2 ∧ (nodeR base o t b p q).2.1 = (nodeM base o t b p q).2.1 ∧
      ((nodeM base o t b p q).2.1 = true → (nodeR base o t b p q).1 = (nodeM base o t b p q).1) := by
  refine ⟨((node_law hb ho ht b p q).1).symm, ((node_law hb ho ht b p q).2.1).symm, ?_⟩
  unfold nodeM nodeR
  rw [sameM_eq ho ht, sameM_eq hb ht, sameM_eq hb ho]
  by_cases h1 : sameR o t p q = true
  · simp only [h1, Bool.true_or, if_true]
    cases p <;> simp
  · by_cases h2 : sameR base t b q = true
    · have h3 : sameR base o b p = false := by
        cases h3 : sameR base o b p with
        | false => rfl
        | true => exact absurd (sameR_both h3 h2) h1
      simp only [h1, h2, h3, Bool.or_true, if_true, Bool.false_eq_true, if_false]
      cases p <;> simp
    · by_cases h3 : sameR base o b p = true
      · simp only [h1, h2, h3, Bool.or_self, Bool.false_eq_true, if_false, if_true]
        cases q <;> simp
      · simp only [h1, h2, h3, Bool.or_self, Bool.false_eq_true, if_false]
        cases p with
        | false => simp
        | true =>
          cases q with
          | false => simp
          | true =>
            simp only [Bool.not_true, Bool.false_eq_true, if_false, partsF]
            have e1 := side_pick (b := b) (o := whatF base o) (t := whatF base t) (alike := whatF o t) (fun x y => whatF_both x y)
            have e2 := side_pick (b := b) (o := base.m == o.m) (t := base.m == t.m) (alike := o.m == t.m) (fun x y => by simp only [beq_iff_eq] at x y ⊢; exact x.symm.trans y)
            have e3 := side_pick (b := b) (o := bitsF base.t == bitsF o.t) (t := bitsF base.t == bitsF t.t) (alike := bitsF o.t == bitsF t.t) (fun x y => by simp only [beq_iff_eq] at x y ⊢; exact x.symm.trans y)
            simp only [numCmp_zero ho ht, numCmp_zero hb ho, numCmp_zero hb ht, laterN_eq ho ht, e1, e2, e3]
            clear e1 e2 e3
            cases pickR b (whatF o t) (whatF base o) (whatF base t) with
            | none => cases b <;> by_cases hk : o.k = t.k <;> simp [hk]
            | some w =>
              cases pickR b (o.m == t.m) (base.m == o.m) (base.m == t.m) with
              | none => cases w <;> cases b <;> by_cases hk : o.k = t.k <;> simp [hk]
              | some m =>
                cases pickR b (bitsF o.t == bitsF t.t) (bitsF base.t == bitsF o.t) (bitsF base.t == bitsF t.t) with
                | none => cases w <;> cases m <;> simp
                | some c => cases w <;> cases m <;> cases c <;> simp

theorem paths3_ref (b o t : List It) : insAll (insAll (insAll [] b) o) t = paths3 b o t :=
  strict_unique (lt := bltL) blt_irrefl (fun h => blt_asymm h) (insAll_srt (insAll_srt (insAll_srt .nil))) (paths_strict _) fun p => by
    show p ∈ insAll (insAll (insAll [] b) o) t ↔ p ∈ Lib.compact (((b ++ (o ++ t)).map It.p).mergeSort fun x y => decide (x ≤ y))
    rw [compact_iff, insAll_mem, insAll_mem, insAll_mem]
    simp only [List.mem_map, List.mem_append, List.not_mem_nil, false_or]
    constructor
    · rintro ((⟨x, h, e⟩ | ⟨x, h, e⟩) | ⟨x, h, e⟩)
      · exact ⟨x, .inl h, e⟩
      · exact ⟨x, .inr (.inl h), e⟩
      · exact ⟨x, .inr (.inr h), e⟩
    · rintro ⟨x, h | h | h, e⟩
      · exact .inl (.inl ⟨x, h, e⟩)
      · exact .inl (.inr ⟨x, h, e⟩)
      · exact .inr ⟨x, h, e⟩

/-! What is at each path. -/
theorem getR_no {t : List It} {p : List UInt8} (h : ∀ x ∈ t, x.p ≠ p) : getR t p = none := by
  cases hg : getR t p with
  | none => rfl
  | some n => obtain ⟨x, hx, e, _⟩ := getR_mem hg; exact absurd e (h x hx)
theorem getR_app (p : List UInt8) (b : List It) : ∀ a : List It, getR (a ++ b) p = match getR a p with
    | some n => some n
    | none => getR b p
  | [] => rfl
  | x :: a => by
    rw [List.cons_append, getR, getR]
    split
    · rfl
    · exact getR_app p b a
theorem getR_flat {f : List UInt8 → List It} (hf : ∀ q x, x ∈ f q → x.p = q) {p : List UInt8} : ∀ {l : List (List UInt8)}, l.Nodup → p ∈ l → getR (l.flatMap f) p = getR (f p) p
  | q :: l, hn, hp => by
    obtain ⟨h1, h2⟩ := List.nodup_cons.1 hn
    rw [List.flatMap_cons, getR_app]
    rcases List.mem_cons.1 hp with rfl | hp
    · have : getR (l.flatMap f) p = none := getR_no fun x hx e => by
        obtain ⟨q, hq, hx⟩ := List.mem_flatMap.1 hx
        exact h1 (by rw [← e, hf q x hx]; exact hq)
      rw [this]
      cases getR (f p) p <;> rfl
    · have : getR (f q) p = none := getR_no fun x hx e => h1 (by rw [← hf q x hx, e]; exact hp)
      rw [this]
      exact getR_flat hf h2 hp
theorem paths3_nodup (b o t : List It) : (paths3 b o t).Nodup := srt_nodup (f := id) (paths_strict _)
theorem mgI_path {b o t : List It} (q : List UInt8) (x : It) (h : x ∈ mgI b o t q) : x.p = q := by rw [(mgI_mem h).1]
theorem mgN_none {b o t : List It} {p : List UInt8} (h : p ∉ paths3 b o t) : mgN b o t p = (nd0, false, 0) := by
  rw [paths3_iff] at h
  simp only [not_or, Bool.not_eq_true] at h
  obtain ⟨h1, h2, h3⟩ := h
  unfold mgN nodeM
  rw [h1, h2, h3]
  simp [sameM]
theorem outF_get (b o t : List It) (p : List UInt8) : getR (outF b o t) p = if (mgN b o t p).2.2 != 0 then none else if (mgN b o t p).2.1 then some (mgN b o t p).1 else none := by
  by_cases hp : p ∈ paths3 b o t
  · unfold outF mgIs
    rw [getR_flat mgI_path (paths3_nodup b o t) hp]
    unfold mgI
    split
    · rfl
    · split
      · simp [getR]
      · rfl
  · rw [mgN_none hp]
    have : getR (outF b o t) p = none := getR_no fun x hx e => by
      obtain ⟨q, hq, hx⟩ := List.mem_flatMap.1 hx
      exact hp (by rw [← e, mgI_path q x hx]; exact hq)
    rw [this]; rfl
theorem bad_nil {b o t : List It} (h : (badF b o t).length = 0) : mgCs b o t (paths3 b o t) = [] ∧ orphansF (outF b o t) [] = [] := by
  rw [badF_eq, sortC_len] at h
  unfold allF at h
  rw [List.length_append, List.length_append] at h
  have h1 : mgCs b o t (paths3 b o t) = [] := List.length_eq_zero_iff.1 (by omega)
  rw [h1] at h
  exact ⟨h1, List.length_eq_zero_iff.1 (by omega)⟩
theorem mgN_zero {b o t : List It} (h : (badF b o t).length = 0) (p : List UInt8) : (mgN b o t p).2.2 = 0 := by
  by_cases hp : p ∈ paths3 b o t
  · have := (bad_nil h).1
    have h2 := List.flatMap_eq_nil_iff.1 this p hp
    unfold mgC at h2
    split at h2
    · simp at h2
    · rename_i h3; simpa using h3
  · rw [mgN_none hp]
theorem outF_par {b o t : List It} (h : (badF b o t).length = 0) : Par (outF b o t) := fun x hx => by
  have h2 := List.flatMap_eq_nil_iff.1 (bad_nil h).2 x hx
  unfold orphF at h2
  split at h2
  · simp at h2
  · rename_i h3
    simpa using h3

/-- What the answer's node says at a path, of the three that were there. -/
def ptF (x y z : Nd) (u v w : Bool) (n : Nd) (is : Bool) : Bool :=
  if sameR x y u v then is == w && (!is || sameNd n z)
  else if sameR x z u w then is == v && (!is || sameNd n y)
  else is == (v && w) && (!is || bitsF n.t == bitsF y.t || bitsF n.t == bitsF z.t)
theorem laterN_either (a b : Nat) : laterN a b = bitsF a ∨ laterN a b = bitsF b := by unfold laterN; split <;> simp
theorem pt_node {x y z : Nd} (hx : x.wf) (hy : y.wf) (hz : z.wf) (u v w : Bool) (h0 : (nodeM x y z u v w).2.2 = 0) : ptF x y z u v w (nodeM x y z u v w).1 (nodeM x y z u v w).2.1 = true := by
  revert h0
  unfold nodeM ptF
  rw [sameM_eq hy hz, sameM_eq hx hz, sameM_eq hx hy]
  by_cases h1 : sameR y z v w = true
  · have h1' := h1
    unfold sameR at h1'
    simp only [Bool.and_eq_true, beq_iff_eq, Bool.or_eq_true, Bool.not_eq_true'] at h1'
    obtain ⟨rfl, h1'⟩ := h1'
    simp only [h1, Bool.true_or, if_true]
    intro _
    cases v
    · cases sameR x y u false <;> cases sameR x z u false <;> simp
    · have h1'' : sameNd y z = true := by rcases h1' with h | h; cases h; exact h
      cases sameR x y u true <;> cases sameR x z u true <;> simp [h1'', sameNd_refl]
  · by_cases h2 : sameR x z u w = true
    · have h3 : sameR x y u v = false := by
        cases h3 : sameR x y u v with
        | false => rfl
        | true => exact absurd (sameR_both h3 h2) h1
      simp only [h1, h2, h3, Bool.or_true, if_true, Bool.false_eq_true, if_false]
      intro _
      cases v <;> simp [sameNd_refl]
    · by_cases h3 : sameR x y u v = true
      · simp only [h1, h2, h3, Bool.or_self, Bool.false_eq_true, if_false, if_true]
        intro _
        cases w <;> simp [sameNd_refl]
      · simp only [h1, h2, h3, Bool.or_self, Bool.false_eq_true, if_false]
        cases v with
        | false => simp
        | true =>
          cases w with
          | false => simp
          | true =>
            simp only [Bool.not_true, Bool.false_eq_true, if_false]
            cases hp : (partsF x y z u).2 with
            | false =>
              simp only [Bool.false_eq_true, if_false]
              intro h0
              exfalso; revert h0
              repeat' split
              all_goals simp
            | true =>
              simp only [if_true, Bool.and_self, beq_self_eq_true, Bool.true_and, Bool.not_true, Bool.false_or]
              intro _
              unfold partsF
              simp only
              have hl := laterN_either y.t z.t
              split
              · simp
              · split
                · rcases hl with e | e <;> simp [e, bitsF_idem]
                · simp
theorem outF_pt {b o t : List It} (hb : OkT b) (ho : OkT o) (ht : OkT t) (h : (badF b o t).length = 0) (p : List UInt8) :
    ptF ((getR b p).getD nd0) ((getR o p).getD nd0) ((getR t p).getD nd0) (getR b p).isSome (getR o p).isSome (getR t p).isSome ((getR (outF b o t) p).getD nd0) (getR (outF b o t) p).isSome = true := by
  have h0 := mgN_zero h p
  have := pt_node (hb.gett p) (ho.gett p) (ht.gett p) (getR b p).isSome (getR o p).isSome (getR t p).isSome h0
  rw [outF_get, h0]
  unfold mgN at *
  revert this
  cases hi : (nodeM ((getR b p).getD nd0) ((getR o p).getD nd0) ((getR t p).getD nd0) (getR b p).isSome (getR o p).isSome (getR t p).isSome).2.1
  · unfold ptF
    simp
  · simp

/-! A merge without a conflict is a right tree. -/
theorem rightNodeR_parts {x y z : Nd} {u : Bool} (hy : rightNodeR y = true) (hz : rightNodeR z = true) (hyw : y.wf) (hzw : z.wf) (n : Nd)
    (hk : (n.k = y.k ∧ n.d = y.d) ∨ (n.k = z.k ∧ n.d = z.d)) (hm : n.m = y.m ∨ n.m = z.m) (ht : n.t = y.t ∨ n.t = z.t ∨ n.t = laterN y.t z.t) : rightNodeR n = true ∧ n.t < 18446744073709551616 := by
  have hpy := right_plain hy hyw
  have hpz := right_plain hz hzw
  have hnt : n.t < 18446744073709551616 ∧ bitsF n.t = n.t := by
    rcases ht with e | e | e
    · rw [e]; exact hpy
    · rw [e]; exact hpz
    · rcases laterN_either y.t z.t with e2 | e2
      · rw [e, e2, hpy.2]; exact hpy
      · rw [e, e2, hpz.2]; exact hpz
  refine ⟨?_, hnt.1⟩
  have hw : n.wf := hnt.1
  rw [← nodeRightP_eq hw]
  rw [← nodeRightP_eq hyw] at hy
  rw [← nodeRightP_eq hzw] at hz
  unfold nodeRightP at *
  simp only [Bool.and_eq_true, decide_eq_true_eq, beq_iff_eq] at *
  obtain ⟨⟨⟨y1, y2⟩, y3⟩, _⟩ := hy
  obtain ⟨⟨⟨z1, z2⟩, z3⟩, _⟩ := hz
  refine ⟨⟨⟨?_, ?_⟩, ?_⟩, hnt.2⟩
  · unfold dataP at *
    rcases hk with ⟨e1, e2⟩ | ⟨e1, e2⟩
    · rw [e1, e2]; exact y1
    · rw [e1, e2]; exact z1
  · rcases hm with e | e <;> rw [e] <;> assumption
  · rcases hm with e | e <;> rw [e] <;> assumption
theorem nodeM_right {x y z : Nd} {u v w : Bool} (hy : v = true → rightNodeR y = true) (hz : w = true → rightNodeR z = true) (hyw : y.wf) (hzw : z.wf) (h0 : (nodeM x y z u v w).2.2 = 0) (h : (nodeM x y z u v w).2.1 = true) :
    rightNodeR (nodeM x y z u v w).1 = true ∧ (nodeM x y z u v w).1.t < 18446744073709551616 := by
  revert h0 h
  unfold nodeM
  split
  · intro _ h
    simp only at h
    rw [h, if_pos rfl]
    exact ⟨hy h, hyw⟩
  · split
    · intro _ h
      simp only at h
      rw [h, if_pos rfl]
      exact ⟨hz h, hzw⟩
    · cases v
      · simp
      · cases w
        · simp
        · simp only [Bool.not_true, Bool.false_eq_true, if_false]
          split
          · intro _ _
            refine rightNodeR_parts (x := x) (u := u) (hy rfl) (hz rfl) hyw hzw _ ?_ ?_ ?_
            · unfold partsF
              simp only
              split <;> simp
            · unfold partsF
              simp only
              split <;> simp
            · unfold partsF
              simp only
              split
              · simp
              · split <;> simp
          · intro h0
            exfalso; revert h0
            repeat' split
            all_goals simp
theorem outF_ok {b o t : List It} (hb : OkT b) (ho : OkT o) (ht : OkT t) (h : (badF b o t).length = 0) (hl : (outF b o t).length ≤ 120) : OkT (outF b o t) := by
  refine ⟨⟨outF_srt b o t, fun x hx => ?_, hl⟩, outF_par h⟩
  obtain ⟨h1, h2, h3, h4⟩ := mgIs_mem hx
  have hp : x.p ≠ [] ∧ isPathR x.p = true := by
    rcases paths3_iff.1 h1 with h | h | h
    · exact ⟨(hb.getok h).1, (hb.getok h).2.1⟩
    · exact ⟨(ho.getok h).1, (ho.getok h).2.1⟩
    · exact ⟨(ht.getok h).1, (ht.getok h).2.1⟩
  have hn := nodeM_right (x := (getR b x.p).getD nd0) (u := (getR b x.p).isSome) (fun h => (ho.getok h).2.2) (fun h => (ht.getok h).2.2) (ho.gett x.p) (ht.gett x.p) h3 h4
  have e : x.n = (mgN b o t x.p).1 := by rw [h2]
  refine ⟨hp.1, hp.2, ?_, ?_⟩
  · rw [e]; exact hn.1
  · rw [e]; exact hn.2
end Go.Dm

end

section
/-
  Sides that turn what is below directories of their own. No condition beyond times that are words of 64 bits.
-/

set_option linter.unusedSimpArgs false
set_option linter.unusedVariables false
namespace Go.Dm
open Go Go.Sort

/-- What a merge asks of a list of items. -/
structure OkS (t : List It) : Prop where
  srt : Srt t
  ne : ∀ x ∈ t, x.p ≠ []
  plen : ∀ x ∈ t, x.p.length ≤ 1000
  dlen : ∀ x ∈ t, x.n.d.length ≤ 2000
  tlen : ∀ x ∈ t, x.n.t < 18446744073709551616
  len : t.length ≤ 120
theorem OkT.s {t : List It} (h : OkT t) : OkS t := ⟨h.srt, h.ne, fun x hx => Nat.le_trans (h.plen x hx) (by decide), h.dlen, h.tlen, h.len⟩
theorem OkS.getd {t : List It} (h : OkS t) (p : List UInt8) : ((getR t p).getD nd0).d.length ≤ 2000 := by
  cases hg : getR t p with
  | none => simp [nd0]
  | some n => obtain ⟨x, hx, _, e⟩ := getR_mem hg; rw [Option.getD_some, ← e]; exact h.dlen x hx
theorem OkS.gett {t : List It} (h : OkS t) (p : List UInt8) : ((getR t p).getD nd0).t < 18446744073709551616 := by
  cases hg : getR t p with
  | none => simp [nd0]
  | some n => obtain ⟨x, hx, _, e⟩ := getR_mem hg; rw [Option.getD_some, ← e]; exact h.tlen x hx

theorem isDir_more {t : List It} {p : List UInt8} (r : List It) (h : isDirR t p = true) : isDirR (t ++ r) p = true := by
  by_cases hp : p = []
  · subst hp; rfl
  · obtain ⟨m, h1, h2⟩ := isDir_some hp h
    exact isDir_mk (m := m) (by rw [getR_app, h1]) h2
theorem OkT.take {t : List It} (h : OkT t) (k : Nat) : OkT (t.take k) := by
  refine ⟨⟨h.srt.sublist (List.take_sublist _ _), fun x hx => h.its x (List.mem_of_mem_take hx), Nat.le_trans (by rw [List.length_take]; omega) h.len⟩, fun x hx => ?_⟩
  obtain ⟨j, hj, rfl⟩ := List.mem_iff_getElem.1 hx
  have hjk : j < k ∧ j < t.length := by rw [List.length_take] at hj; omega
  rw [List.getElem_take]
  have h1 := isDir_take h (List.getElem?_eq_getElem hjk.2)
  have h2 := isDir_more ((t.take k).drop j) h1
  have e : t.take j ++ (t.take k).drop j = t.take k := by
    have := List.take_append_drop j (t.take k)
    rw [List.take_take, Nat.min_eq_left (by omega)] at this
    exact this
  rw [e] at h2
  exact h2

/-- One tree below x, one below y. -/
def dirJ : Nd := ⟨2, 0, 0, []⟩
def preJ (c : UInt8) (x : It) : It := ⟨c :: 47 :: x.p, x.n⟩
def halfJ (c : UInt8) (a : List It) : List It := ⟨[c], dirJ⟩ :: (a.take 50).map (preJ c)
def joinT (a b : List It) : List It := halfJ 120 a ++ halfJ 121 b

theorem getR_pre (c : UInt8) (q : List UInt8) : ∀ a : List It, getR (a.map (preJ c)) (c :: 47 :: q) = getR a q
  | [] => rfl
  | x :: a => by
    rw [List.map_cons, getR, getR, getR_pre c q a]
    have : ((preJ c x).p == c :: 47 :: q) = (x.p == q) := by simp [preJ]
    rw [this]; rfl
theorem getR_preno {c : UInt8} {p : List UInt8} (h : ∀ q, p ≠ c :: 47 :: q) (a : List It) : getR (a.map (preJ c)) p = none := getR_no fun x hx e => by
  obtain ⟨y, _, rfl⟩ := List.mem_map.1 hx
  exact h y.p e.symm
theorem half_one (c : UInt8) (a : List It) : getR (halfJ c a) [c] = some dirJ := by simp [halfJ, getR]
theorem half_in (c : UInt8) (q : List UInt8) (a : List It) : getR (halfJ c a) (c :: 47 :: q) = getR (a.take 50) q := by
  unfold halfJ
  rw [getR, if_neg (by simp), getR_pre]
theorem half_out {c : UInt8} {p : List UInt8} (h1 : p ≠ [c]) (h : ∀ q, p ≠ c :: 47 :: q) (a : List It) : getR (halfJ c a) p = none := by
  unfold halfJ
  rw [getR, if_neg (by simpa using fun e => h1 e.symm), getR_preno h]
/-- Where a path leads in such a tree. -/
theorem join_cases (p : List UInt8) : (∀ a b, getR (joinT a b) p = some dirJ) ∨ (∃ q, ∀ a b, getR (joinT a b) p = getR (a.take 50) q) ∨ (∃ q, ∀ a b, getR (joinT a b) p = getR (b.take 50) q) ∨ ∀ a b, getR (joinT a b) p = none := by
  by_cases h1 : p = [120]
  · subst h1; exact .inl fun a b => by unfold joinT; rw [getR_app, half_one]
  by_cases h2 : p = [121]
  · subst h2
    exact .inl fun a b => by unfold joinT; rw [getR_app, half_out (by decide) (by intro q; simp), half_one]
  by_cases h3 : ∃ q, p = 120 :: 47 :: q
  · obtain ⟨q, rfl⟩ := h3
    refine .inr (.inl ⟨q, fun a b => ?_⟩)
    unfold joinT
    rw [getR_app, half_in, half_out (by simp) (by intro r; simp)]
    cases getR (a.take 50) q <;> rfl
  by_cases h4 : ∃ q, p = 121 :: 47 :: q
  · obtain ⟨q, rfl⟩ := h4
    refine .inr (.inr (.inl ⟨q, fun a b => ?_⟩))
    unfold joinT
    rw [getR_app, half_out (by simp) (by intro r; simp), half_in]
  · refine .inr (.inr (.inr fun a b => ?_))
    unfold joinT
    rw [getR_app, half_out h1 (fun q e => h3 ⟨q, e⟩), half_out h2 (fun q e => h4 ⟨q, e⟩)]

theorem blt_pre (c : UInt8) (a b : List UInt8) : bltL (c :: 47 :: a) (c :: 47 :: b) = bltL a b := by
  rw [blt_cons, blt_cons]
  have h : ∀ x : UInt8, decide (x < x) = false := fun x => by simp
  simp [h]
theorem half_srt (c : UInt8) {a : List It} (h : Srt a) : Srt (halfJ c a) := by
  refine List.pairwise_cons.2 ⟨fun y hy => ?_, ?_⟩
  · obtain ⟨z, _, rfl⟩ := List.mem_map.1 hy
    show bltL [c] (c :: 47 :: z.p) = true
    rw [blt_cons, show bltL ([] : List UInt8) (47 :: z.p) = true from rfl]
    simp
  · refine List.pairwise_map.2 ?_
    refine (h.sublist (List.take_sublist 50 a)).imp fun {x y} hxy => ?_
    show bltL (c :: 47 :: x.p) (c :: 47 :: y.p) = true
    rw [blt_pre]; exact hxy
theorem half_head {c : UInt8} {a : List It} {x : It} (h : x ∈ halfJ c a) : ∃ r, x.p = c :: r := by
  rcases List.mem_cons.1 h with rfl | h
  · exact ⟨[], rfl⟩
  · obtain ⟨z, _, rfl⟩ := List.mem_map.1 h
    exact ⟨_, rfl⟩
theorem join_srt {a b : List It} (ha : Srt a) (hb : Srt b) : Srt (joinT a b) := by
  refine List.pairwise_append.2 ⟨half_srt _ ha, half_srt _ hb, fun x hx y hy => ?_⟩
  obtain ⟨r, h1⟩ := half_head hx
  obtain ⟨s, h2⟩ := half_head hy
  show bltL x.p y.p = true
  rw [h1, h2, blt_cons]
  rfl
theorem half_mem {c : UInt8} {a : List It} {x : It} (h : x ∈ halfJ c a) : x = ⟨[c], dirJ⟩ ∨ ∃ z ∈ a, x = preJ c z := by
  rcases List.mem_cons.1 h with rfl | h
  · exact .inl rfl
  · obtain ⟨z, hz, rfl⟩ := List.mem_map.1 h
    exact .inr ⟨z, List.mem_of_mem_take hz, rfl⟩
theorem half_len (c : UInt8) (a : List It) : (halfJ c a).length ≤ 51 := by
  simp only [halfJ, List.length_cons, List.length_map, List.length_take]; omega
theorem join_ok {a b : List It} (ha : OkT a) (hb : OkT b) : OkS (joinT a b) := by
  have key : ∀ {c : UInt8} {a : List It}, OkT a → ∀ x ∈ halfJ c a, x.p ≠ [] ∧ x.p.length ≤ 1000 ∧ x.n.d.length ≤ 2000 ∧ x.n.t < 18446744073709551616 := by
    intro c a ha x hx
    rcases half_mem hx with rfl | ⟨z, hz, rfl⟩
    · exact ⟨by simp, by simp, by simp [dirJ], by simp [dirJ]⟩
    · have := ha.plen z hz
      exact ⟨by simp [preJ], by simp only [preJ, List.length_cons]; omega, ha.dlen z hz, ha.tlen z hz⟩
  have k : ∀ x ∈ joinT a b, x.p ≠ [] ∧ x.p.length ≤ 1000 ∧ x.n.d.length ≤ 2000 ∧ x.n.t < 18446744073709551616 := fun x hx => by
    rcases List.mem_append.1 hx with h | h
    · exact key ha x h
    · exact key hb x h
  refine ⟨join_srt ha.srt hb.srt, fun x hx => (k x hx).1, fun x hx => (k x hx).2.1, fun x hx => (k x hx).2.2.1, fun x hx => (k x hx).2.2.2, ?_⟩
  have h1 := half_len 120 a
  have h2 := half_len 121 b
  unfold joinT
  rw [List.length_append]; omega

theorem dir_pre {c : UInt8} (hc : c ≠ 47) {q : List UInt8} (hq : isPathR q = true) (h0 : q ≠ []) : dirOfR (c :: 47 :: q) = if dirOfR q == [] then [c] else c :: 47 :: dirOfR q := by
  by_cases hd : dirOfR q = []
  · rw [hd]
    exact dir_of (d := [c]) (isPath_noslash hq h0 hd)
  · rw [if_neg (by simpa using hd)]
    obtain ⟨n, h1, h2⟩ := dir_cases hd
    have : c :: 47 :: q = (c :: 47 :: dirOfR q) ++ 47 :: n := by
      rw [List.cons_append, List.cons_append, ← h1]
    rw [this]
    exact dir_of h2
theorem dir_single {c : UInt8} (hc : c ≠ 47) : dirOfR [c] = [] := by
  rcases dir_spec [c] with h | ⟨n, h, _⟩
  · exact h.1
  · exfalso
    have h2 := congrArg List.length h
    simp only [List.length_cons, List.length_nil, List.length_append] at h2
    have : dirOfR [c] = [] := List.length_eq_zero_iff.1 (by omega)
    rw [this] at h
    simp only [List.nil_append, List.cons.injEq] at h
    exact hc h.1
theorem half_par {c : UInt8} (hc : c ≠ 47) {a : List It} (h : OkT a) : Par (halfJ c a) := fun x hx => by
  rcases List.mem_cons.1 hx with rfl | hx
  · show isDirR _ (dirOfR [c]) = true
    rw [dir_single hc]; rfl
  · obtain ⟨z, hz, rfl⟩ := List.mem_map.1 hx
    have hz' := List.mem_of_mem_take hz
    obtain ⟨i1, i2, _, _⟩ := h.its z hz'
    have hp := (h.take 50).par z hz
    show isDirR _ (dirOfR (c :: 47 :: z.p)) = true
    rw [dir_pre hc i2 i1]
    by_cases hd : dirOfR z.p = []
    · rw [hd]
      exact isDir_mk (half_one c a) rfl
    · rw [if_neg (by simpa using hd)]
      obtain ⟨m, h1, h2⟩ := isDir_some hd hp
      exact isDir_mk (m := m) (by rw [half_in]; exact h1) h2
theorem isDir_behind {t r : List It} {p : List UInt8} (hno : getR t p = none) (h : isDirR r p = true) : isDirR (t ++ r) p = true := by
  by_cases hp : p = []
  · subst hp; rfl
  · obtain ⟨m, h1, h2⟩ := isDir_some hp h
    exact isDir_mk (m := m) (by rw [getR_app, hno]; exact h1) h2
theorem join_par {a b : List It} (ha : OkT a) (hb : OkT b) : Par (joinT a b) := fun x hx => by
  unfold joinT at hx ⊢
  rcases List.mem_append.1 hx with h | h
  · exact isDir_more _ (half_par (by decide) ha x h)
  · have hp := half_par (by decide) hb x h
    by_cases hd : dirOfR x.p = []
    · rw [hd]; rfl
    · refine isDir_behind ?_ hp
      refine getR_no fun y hy e => ?_
      obtain ⟨r, h1⟩ := half_head hy
      obtain ⟨s, h2⟩ := half_head h
      obtain ⟨n, h3, _⟩ := dir_cases hd
      rw [← e, h1, h2, List.cons_append, List.cons.injEq] at h3
      exact absurd h3.1 (by decide)
theorem getp_of {t : List It} (h : ∀ x ∈ t, plainN x.n) (p : List UInt8) : plainN ((getR t p).getD nd0) := by
  cases hg : getR t p with
  | none => exact nd0_plain
  | some n => obtain ⟨x, hx, _, e⟩ := getR_mem hg; rw [Option.getD_some, ← e]; exact h x hx

theorem apart_node {a a' b b' : List It} (ha : OkT a) (ha' : OkT a') (hb : OkT b) (hb' : OkT b') (p : List UInt8) :
    mgN (joinT a b) (joinT a' b) (joinT a b') p = (if (getR (joinT a' b') p).isSome then (getR (joinT a' b') p).getD nd0 else nd0, (getR (joinT a' b') p).isSome, 0) := by
  have hpl : ∀ {t : List It}, OkT t → ∀ q, plainN ((getR (t.take 50) q).getD nd0) := fun h q => getp_of (h.take 50).plain q
  unfold mgN
  rcases join_cases p with h | ⟨q, h⟩ | ⟨q, h⟩ | h
  · rw [h, h, h, h]
    have hw : dirJ.wf := by simp [Nd.wf, dirJ]
    unfold nodeM
    simp only [Option.getD_some, Option.isSome_some]
    rw [sameM_refl hw, Bool.true_or, if_pos rfl]
  · rw [h, h, h, h]
    unfold nodeM
    rw [sameM_refl (hpl ha q).1, Bool.or_true, if_pos rfl]
  · rw [h, h, h, h]
    unfold nodeM
    rw [Bool.or_self, sameM_refl (hpl hb q).1]
    split
    · rename_i h
      obtain ⟨e1, e2⟩ := sameM_val (hpl hb q) (hpl hb' q) h
      rw [e2, e1]
    · rfl
  · rw [h, h, h, h]
    simp [nodeM, sameM]
theorem merge_apart {a a' b b' : List It} (ha : OkT a) (ha' : OkT a') (hb : OkT b) (hb' : OkT b') : mergeF (joinT a b) (joinT a' b) (joinT a b') = (joinT a' b', []) := by
  have hn := apart_node ha ha' hb hb'
  have h1 : outF (joinT a b) (joinT a' b) (joinT a b') = joinT a' b' := outF_side (join_srt ha'.srt hb'.srt) (fun p => mgI_kept (hn p)) fun x hx => by
    have hg := getR_has hx
    refine paths3_iff.2 ?_
    rcases join_cases x.p with h | ⟨q, h⟩ | ⟨q, h⟩ | h
    · exact .inl (by rw [h]; rfl)
    · rw [h] at hg; exact .inr (.inl (by rw [h]; exact hg))
    · rw [h] at hg; exact .inr (.inr (by rw [h]; exact hg))
    · rw [h] at hg; cases hg
  have h2 : badF (joinT a b) (joinT a' b) (joinT a b') = [] := all_none (join_par ha' hb') h1 (fun p => by rw [hn]) (by
    refine List.eq_nil_iff_forall_not_mem.2 fun c hc => ?_
    obtain ⟨_, e1, e2, e3, _⟩ := renamed_mem hc
    rcases join_cases c.p with h | ⟨q, h⟩ | ⟨q, h⟩ | h
    · rw [h] at e2; cases e2
    · rw [h] at e1 e3; rw [e1] at e3; cases e3
    · rw [h] at e1 e2; rw [e1] at e2; cases e2
    · rw [h] at e1; cases e1)
  unfold mergeF; rw [h1, h2]; rfl
end Go.Dm

end

section
/-
  Bounds of what a merge asks. No condition.
-/

set_option linter.unusedSimpArgs false
set_option linter.unusedVariables false
namespace Go.Dm
open Go Go.Sort

theorem diffF_bnd {a b : List It} (ha : OkS a) (hb : OkS b) : ∀ x ∈ diffF a b, x.p.length ≤ 1000000000 ∧ x.o.t < 18446744073709551616 ∧ x.n.t < 18446744073709551616 := fun x hx => by
  obtain ⟨h1, h2⟩ := diffF_nodes hx
  obtain ⟨h3, _⟩ := chsF_mem hx
  refine ⟨?_, by rw [h1]; exact ha.gett _, by rw [h2]; exact hb.gett _⟩
  rcases pathsF_iff.1 h3 with ⟨y, hy, e⟩ | ⟨y, hy, e⟩
  · rw [← e]; exact Nat.le_trans (ha.plen y hy) (by decide)
  · rw [← e]; exact Nat.le_trans (hb.plen y hy) (by decide)
theorem outF_plen {b o t : List It} (hb : OkS b) (ho : OkS o) (ht : OkS t) : ∀ x ∈ outF b o t, x.p.length ≤ 1000 := fun x hx => by
  obtain ⟨h1, _⟩ := mgIs_mem hx
  have key : ∀ {s : List It}, OkS s → (getR s x.p).isSome = true → x.p.length ≤ 1000 := fun {s} hs h => by
    cases hg : getR s x.p with
    | none => rw [hg] at h; cases h
    | some n => obtain ⟨y, hy, e, _⟩ := getR_mem hg; rw [← e]; exact hs.plen y hy
  rcases paths3_iff.1 h1 with h | h | h
  · exact key hb h
  · exact key ho h
  · exact key ht h
theorem mgIs_len (b o t : List It) (l : List (List UInt8)) : (mgIs b o t l).length ≤ l.length := lens_le (mgI_one b o t) l
theorem mgCs_len (b o t : List It) (l : List (List UInt8)) : (mgCs b o t l).length ≤ l.length := lens_le (mgC_one b o t) l
theorem orphans_len (t : List It) (bad : List Cf) : (orphansF t bad).length ≤ t.length := lens_le (orphF_one t bad) t
theorem renamed_len (a b : List Pr) : (renamedF a b).length ≤ a.length := lens_le (renF_one b) a
theorem partsF_d {x y z : Nd} {u : Bool} : (partsF x y z u).1.d = y.d ∨ (partsF x y z u).1.d = z.d := by
  unfold partsF
  simp only
  split <;> simp
theorem nodeM_d {x y z : Nd} {u v w : Bool} {n : Nat} (hy : y.d.length ≤ n) (hz : z.d.length ≤ n) : (nodeM x y z u v w).1.d.length ≤ n := by
  unfold nodeM
  repeat' split
  all_goals first | assumption | (simp [nd0]; done) | skip
  all_goals rcases partsF_d (x := x) (y := y) (z := z) (u := u) with e | e <;> rw [e] <;> assumption
end Go.Dm

end

section
/-
  A tree that was turned, said as a function of the tree and the turns. No condition.
-/

set_option linter.unusedSimpArgs false
set_option linter.unusedVariables false
namespace Go.Dm
set_option maxRecDepth 100000

def pathU (t : List It) (x : RU) : List UInt8 :=
  if decide ((0 : Int) < (t.length : Int)) && decide ((0 : Int) < x.at'.tmod 3) then (t.getD ((IntKind.i64.wrap (x.at'.tdiv 3)) % (t.length : Int)).toNat ⟨[], nd0⟩).p else pathF x.at'
def bothT (t : List It) (r : List It × Int) : List It := if r.2 == 0 then r.1 else t
def turn1 (t : List It) (x : RU) : List It :=
  if x.what % 8 == 3 then removeR t (pathU t x)
  else if x.what % 8 == 4 then (if (getR t (pathU t x)).isSome then bothT t (putR t (pathU t x) ⟨((getR t (pathU t x)).getD nd0).k, x.n.m % 4096, ((getR t (pathU t x)).getD nd0).t, ((getR t (pathU t x)).getD nd0).d⟩) else t)
  else if x.what % 8 == 5 then (if (getR t (pathU t x)).isSome then bothT t (putR t (pathU t x) ⟨((getR t (pathU t x)).getD nd0).k, ((getR t (pathU t x)).getD nd0).m, bitsF (timeF x.n.t x.n.x), ((getR t (pathU t x)).getD nd0).d⟩) else t)
  else if x.what % 8 == 6 then (if (getR t (pathU t x)).isSome && ((getR t (pathU t x)).getD nd0).k == 1 then bothT t (putR t (pathU t x) ⟨((getR t (pathU t x)).getD nd0).k, ((getR t (pathU t x)).getD nd0).m, ((getR t (pathU t x)).getD nd0).t, x.n.d.take 60⟩) else t)
  else if x.what % 8 == 7 then bothT t (moveR t (pathU t x) (pathF x.to'))
  else bothT t (putR t (pathU t x) (nodeF x.n))
def turnF (t : List It) (l : List RU) : List It := (l.take 14).foldl turn1 t

theorem both_put {t : List It} {p : List UInt8} {n : Nd} (h : OkT t) (hn : n.t < 18446744073709551616) : OkT (bothT t (putR t p n)) := by
  unfold bothT
  split
  · exact h.put hn (eq_of_beq (by assumption))
  · exact h
theorem both_move {t : List It} {p q : List UInt8} (h : OkT t) : OkT (bothT t (moveR t p q)) := by
  unfold bothT
  split
  · exact h.move (eq_of_beq (by assumption))
  · exact h
theorem turn1_ok {t : List It} {x : RU} (h : OkT t) (hx : x.n.x < 18446744073709551616) : OkT (turn1 t x) := by
  unfold turn1
  split
  · exact h.remove _
  split
  · split
    · exact both_put h (h.gett _)
    · exact h
  split
  · split
    · exact both_put h (bitsF_lt (timeF_lt hx))
    · exact h
  split
  · split
    · exact both_put h (h.gett _)
    · exact h
  split
  · exact both_move h
  · exact both_put h (nodeF_wf hx)
theorem turns_ok : ∀ {l : List RU} {t : List It}, OkT t → (∀ x ∈ l, x.n.x < 18446744073709551616) → OkT (l.foldl turn1 t)
  | [], _, h, _ => h
  | a :: r, t, h, hx => turns_ok (l := r) (t := turn1 t a) (turn1_ok h (hx _ List.mem_cons_self)) fun y hy => hx y (List.mem_cons_of_mem _ hy)
theorem turnF_ok {t : List It} {l : List RU} (h : OkT t) (hx : ∀ x ∈ l, x.n.x < 18446744073709551616) : OkT (turnF t l) :=
  turns_ok h fun x hm => hx x (List.take_subset _ _ hm)
theorem turns_step {t : List It} {l : List RU} {i : Nat} {x : RU} (h : l[i]? = some x) : (l.take (i + 1)).foldl turn1 t = turn1 ((l.take i).foldl turn1 t) x := by
  rw [List.take_add_one, h]; simp
theorem turns_end {t : List It} {l : List RU} {i : Nat} (h : l.length ≤ i ∨ 14 ≤ i) (h2 : i ≤ 14) : (l.take i).foldl turn1 t = turnF t l := by
  unfold turnF
  rcases h with h | h
  · rw [List.take_of_length_le h, List.take_of_length_le (Nat.le_trans h h2)]
  · rw [show i = 14 by omega]

end Go.Dm

end
