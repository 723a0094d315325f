/-
  Changes done to a tree, as the program does it: plain words. No condition.
-/
import Derived.Test.YtfiopamaiolfhaaDoorSE
import Derived.Test.YtfiopamaiolfhaaDoorBQ
set_option linter.unusedSimpArgs false
set_option linter.unusedVariables false
namespace Go.Dm
open Go Go.Sort Go.Proofs
set_option maxRecDepth 100000

/-! Items in order. -/
def leI (x y : It) : Bool := !bltL y.p x.p
def sortI (l : List It) : List It := l.mergeSort leI
def pathV : List PV → List UInt8
  | .s p :: _ => p
  | _ => []
def ltVI (x y : List PV) : Bool := bltL (pathV x) (pathV y)
theorem swo_ltVI : SWO ltVI where
  irrefl _ := blt_irrefl _
  trans _ _ _ := blt_trans
  ntrans x y z h k := by
    unfold ltVI at *
    cases e : bltL (pathV x) (pathV z) with
    | false => rfl
    | true =>
      cases f : bltL (pathV y) (pathV x) with
      | true => have := blt_trans f e; rw [k] at this; cases this
      | false => have := blt_tri h f; rw [this, k] at e; cases e
def cfI (x y : List PV) : Int := cmpS (pathV x) (pathV y)
theorem lt_cfI : ltOf cfI = ltVI := by
  funext x y
  exact cmpS_lt
theorem swo_cfI : SWO (ltOf cfI) := by rw [lt_cfI]; exact swo_ltVI
theorem cfI_total {l : List It} (hu : ∀ x ∈ l, ∀ y ∈ l, x.p = y.p → x = y) : ∀ x ∈ encT l, ∀ y ∈ encT l, ltOf cfI x y = false → ltOf cfI y x = false → x = y := by
  rw [lt_cfI]
  intro x hx y hy h k
  obtain ⟨a, ha, rfl⟩ := List.mem_map.1 hx
  obtain ⟨b, hb, rfl⟩ := List.mem_map.1 hy
  rw [hu a ha b hb (blt_tri h k)]
theorem encT_sort (l : List It) : (encT l).mergeSort (leBy (ltOf cfI)) = encT (sortI l) := by
  rw [lt_cfI]
  unfold encT sortI
  exact (List.map_mergeSort (r := leI) (s := leBy ltVI) (f := It.cs) (l := l) fun a _ b _ => rfl).symm
theorem sortI_perm (l : List It) : (sortI l).Perm l := List.mergeSort_perm _ _
theorem sortI_len (l : List It) : (sortI l).length = l.length := List.length_mergeSort ..
theorem sortI_sorted (l : List It) : (sortI l).Pairwise fun x y => bltL y.p x.p = false := by
  have h : (sortI l).Pairwise fun x y => leI x y = true := by
    refine List.pairwise_mergeSort (le := leI) ?_ ?_ _
    · intro a b c h1 h2
      simp only [leI, Bool.not_eq_true'] at h1 h2 ⊢
      cases e : bltL c.p a.p with
      | false => rfl
      | true =>
        cases f : bltL a.p b.p with
        | true => have := blt_trans e f; rw [h2] at this; cases this
        | false => have := blt_tri f h1; rw [← this, e] at h2; cases h2
    · intro a b
      simp only [leI]
      cases h : bltL b.p a.p with
      | false => simp
      | true => simp [blt_asymm h]
  exact h.imp fun {a b} h => by simpa [leI] using h
/-- Items of different paths, in order: a tree's order. -/
theorem sortI_srt {l : List It} (hn : (l.map It.p).Nodup) : Srt (sortI l) := by
  have hn2 : ((sortI l).map It.p).Nodup := (((sortI_perm l).map It.p).nodup_iff).2 hn
  have h1 := sortI_sorted l
  have h2 : (sortI l).Pairwise fun x y => x.p ≠ y.p := List.pairwise_map.1 hn2
  exact (h1.and h2).imp fun {a b} ⟨h, k⟩ => by
    cases e : bltL a.p b.p with
    | true => rfl
    | false => exact absurd (blt_tri e h) k

/-! What the changes make. -/
def fitsF (t : List It) (c : Ch) : Bool := if c.k == 1 then !(getR t c.p).isSome else (getR t c.p).isSome && ndSame ((getR t c.p).getD nd0) c.o
def news1 (c : Ch) : List It := if c.k != 2 then [⟨c.p, c.n⟩] else []
def newsF (l : List Ch) : List It := l.flatMap news1
def rest1 (ks : List (List UInt8)) (x : It) : List It := if !(ks.contains x.p) then [x] else []
def restF (t : List It) (ks : List (List UInt8)) : List It := t.flatMap (rest1 ks)
def keysF (l : List Ch) : List (List UInt8) := (l.map Ch.p).reverse
def outA (t : List It) (l : List Ch) : List It := newsF l ++ restF t (keysF l)
def applyF (t : List It) (l : List Ch) : List It × Int :=
  if !rightCs l then ([], 1) else if !(l.all (fitsF t)) then ([], 17)
  else if decide ((120 : Int) < ((sortI (outA t l)).length : Int)) then ([], 16) else if !rightT (sortI (outA t l)) then ([], 17) else (sortI (outA t l), 0)

theorem newsF_take {l : List Ch} {i : Nat} {c : Ch} (h : l[i]? = some c) : newsF (l.take (i + 1)) = newsF (l.take i) ++ news1 c := by
  simp [newsF, List.take_add_one, h]
theorem keysF_take {l : List Ch} {i : Nat} {c : Ch} (h : l[i]? = some c) : keysF (l.take (i + 1)) = c.p :: keysF (l.take i) := by
  simp [keysF, List.take_add_one, h]
theorem restF_take {t : List It} {ks : List (List UInt8)} {i : Nat} {x : It} (h : t[i]? = some x) : restF (t.take (i + 1)) ks = restF (t.take i) ks ++ rest1 ks x := by
  simp [restF, List.take_add_one, h]
theorem news1_len (c : Ch) : (news1 c).length ≤ 1 := by unfold news1; split <;> simp
theorem rest1_len (ks : List (List UInt8)) (x : It) : (rest1 ks x).length ≤ 1 := by unfold rest1; split <;> simp
theorem newsF_len (l : List Ch) : (newsF l).length ≤ l.length := by
  induction l with
  | nil => simp [newsF]
  | cons c l ih =>
    have := news1_len c
    simp only [newsF, List.flatMap_cons, List.length_append, List.length_cons] at ih ⊢
    omega
theorem restF_len (t : List It) (ks : List (List UInt8)) : (restF t ks).length ≤ t.length := by
  induction t with
  | nil => simp [restF]
  | cons c l ih =>
    have := rest1_len ks c
    simp only [restF, List.flatMap_cons, List.length_append, List.length_cons] at ih ⊢
    omega
theorem mem_news {l : List Ch} {x : It} (h : x ∈ newsF l) : ∃ c ∈ l, x = ⟨c.p, c.n⟩ := by
  obtain ⟨c, hc, hx⟩ := List.mem_flatMap.1 h
  unfold news1 at hx
  split at hx
  · exact ⟨c, hc, by simpa using hx⟩
  · simp at hx
theorem mem_rest {t : List It} {ks : List (List UInt8)} {x : It} (h : x ∈ restF t ks) : x ∈ t ∧ ks.contains x.p = false := by
  obtain ⟨c, hc, hx⟩ := List.mem_flatMap.1 h
  unfold rest1 at hx
  split at hx
  · obtain rfl : x = c := by simpa using hx
    rename_i hk
    exact ⟨hc, by simpa only [Bool.not_eq_true'] using hk⟩
  · simp at hx

theorem rightFrom_srt : ∀ {l : List Ch} {q : Option (List UInt8)}, rightFrom q l = true → l.Pairwise (fun x y => bltL x.p y.p = true) ∧ ∀ p, q = some p → ∀ c ∈ l, bltL p c.p = true
  | [], q, _ => ⟨List.Pairwise.nil, fun p _ c hc => by cases hc⟩
  | d :: l, q, h => by
    rw [rightFrom, Bool.and_eq_true, Bool.and_eq_true] at h
    have ih := rightFrom_srt (l := l) h.2
    have hd : ∀ c ∈ l, bltL d.p c.p = true := ih.2 d.p rfl
    refine ⟨List.pairwise_cons.2 ⟨hd, ih.1⟩, fun p hp c hc => ?_⟩
    subst hp
    have h1 : bltL p d.p = true := by simpa [aheadOf] using h.1.2
    rcases List.mem_cons.1 hc with rfl | hc
    · exact h1
    · exact blt_trans h1 (hd c hc)
theorem inj_of_nodup {α β : Type} {f : α → β} : ∀ {l : List α}, (l.map f).Nodup → ∀ x ∈ l, ∀ y ∈ l, f x = f y → x = y
  | [], _, x, hx, _, _, _ => by cases hx
  | a :: l, h, x, hx, y, hy, e => by
    rw [List.map_cons, List.nodup_cons] at h
    have hx' := List.mem_cons.1 hx
    have hy' := List.mem_cons.1 hy
    clear hx hy
    rcases hx' with rfl | hx <;> rcases hy' with rfl | hy
    · rfl
    · exact absurd (List.mem_map.2 ⟨y, hy, e.symm⟩) h.1
    · exact absurd (List.mem_map.2 ⟨x, hx, e⟩) h.1
    · exact inj_of_nodup h.2 x hx y hy e
theorem news_sub : ∀ l : List Ch, ((newsF l).map It.p).Sublist (l.map Ch.p)
  | [] => List.Sublist.slnil
  | c :: l => by
    have ih := news_sub l
    simp only [newsF, List.flatMap_cons, List.map_append, List.map_cons] at ih ⊢
    unfold news1
    split
    · exact ih.cons_cons _
    · exact ih.cons _
theorem rest_sub (ks : List (List UInt8)) : ∀ t : List It, (restF t ks).Sublist t
  | [] => List.Sublist.slnil
  | c :: l => by
    have ih := rest_sub ks l
    simp only [restF, List.flatMap_cons] at ih ⊢
    unfold rest1
    split
    · exact ih.cons_cons _
    · exact ih.cons _
theorem outA_nodup {t : List It} {l : List Ch} (ht : Srt t) (h : rightCs l = true) : ((outA t l).map It.p).Nodup := by
  have h1 := (rightFrom_srt h).1
  have n1 : (l.map Ch.p).Nodup := List.pairwise_map.2 (h1.imp fun {a b} h e => by have := blt_ne h; rw [e] at this; simp at this)
  have n2 : (t.map It.p).Nodup := List.pairwise_map.2 (ht.imp fun {a b} h e => by have := blt_ne h; rw [e] at this; simp at this)
  unfold outA
  rw [List.map_append]
  refine List.nodup_append.2 ⟨(news_sub l).nodup n1, ((rest_sub _ t).map _).nodup n2, fun p hp q hq e => ?_⟩
  subst e
  obtain ⟨x, hx, rfl⟩ := List.mem_map.1 hq
  obtain ⟨_, hk⟩ := mem_rest hx
  have : x.p ∈ l.map Ch.p := (news_sub l).subset hp
  have : (keysF l).contains x.p = true := by simpa [keysF] using this
  rw [hk] at this
  cases this
theorem outA_inj {t : List It} {l : List Ch} (ht : Srt t) (h : rightCs l = true) : ∀ x ∈ outA t l, ∀ y ∈ outA t l, x.p = y.p → x = y := inj_of_nodup (outA_nodup ht h)
theorem mem_out {t : List It} {l : List Ch} {x : It} (h : x ∈ sortI (outA t l)) : (∃ c ∈ l, x = ⟨c.p, c.n⟩) ∨ x ∈ t := by
  have h := (sortI_perm _).mem_iff.1 h
  rcases List.mem_append.1 h with h | h
  · exact .inl (mem_news h)
  · exact .inr (mem_rest h).1
end Go.Dm
