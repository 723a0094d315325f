/-
  Changes done to a tree, as the document says it; the two are one. No condition beyond times that are words of 64 bits.
-/
import Derived.Test.YtjanmkknbijecaaGreatDoorSV
set_option linter.unusedSimpArgs false
set_option linter.unusedVariables false
namespace Go.Dm
open Go Go.Sort Go.Proofs
set_option maxRecDepth 100000

def refFits (t : List It) (c : Ch) : Bool := !(((getR t c.p).isSome != (c.k != 1)) || ((getR t c.p).isSome && !sameNd ((getR t c.p).getD nd0) c.o))
def at1 (p : List UInt8) (s : Nd × Bool) (c : Ch) : Nd × Bool := if c.p == p then (c.n, c.k != 2) else s
def refAt (t : List It) (l : List Ch) (p : List UInt8) : Nd × Bool := l.foldl (at1 p) ((getR t p).getD nd0, (getR t p).isSome)
def refPs (t : List It) (l : List Ch) : List (List UInt8) := (l.map Ch.p).foldl (fun o s => insS s o) (insAll [] t)
def ref1 (t : List It) (l : List Ch) (p : List UInt8) : List It := if (refAt t l p).2 then [⟨p, (refAt t l p).1⟩] else []
def refOut (t : List It) (l : List Ch) : List It := (refPs t l).flatMap (ref1 t l)
def refApplyF (t : List It) (l : List Ch) : List It × Int :=
  if !refCs l then ([], 1) else if !(l.all (refFits t)) then ([], 17)
  else if decide ((120 : Int) < ((refOut t l).length : Int)) then ([], 16) else if !refT (refOut t l) then ([], 17) else (refOut t l, 0)

theorem refFits_eq {t : List It} (ht : OkT t) {c : Ch} (hc : c.o.wf) : refFits t c = fitsF t c := by
  unfold refFits fitsF
  rw [ndSame_eq (ht.gett _) hc]
  by_cases h : c.k = 1
  · have h1 : (c.k == 1) = true := by simpa using h
    have h2 : (c.k != 1) = false := by simpa using h
    rw [h1, h2, if_pos rfl]
    cases (getR t c.p).isSome <;> rfl
  · have h1 : (c.k == 1) = false := by simpa using h
    have h2 : (c.k != 1) = true := by simpa using h
    rw [h1, h2, if_neg (by decide)]
    cases (getR t c.p).isSome <;> simp

theorem refAt_no {p : List UInt8} : ∀ {l : List Ch} {s : Nd × Bool}, (∀ c ∈ l, c.p ≠ p) → l.foldl (at1 p) s = s
  | [], _, _ => rfl
  | c :: l, s, h => by
    rw [List.foldl_cons, show at1 p s c = s by unfold at1; rw [if_neg (by simpa using h c List.mem_cons_self)]]
    exact refAt_no fun d hd => h d (List.mem_cons_of_mem _ hd)
theorem refAt_yes {c : Ch} : ∀ {l : List Ch} {s : Nd × Bool}, l.Pairwise (fun x y => bltL x.p y.p = true) → c ∈ l → l.foldl (at1 c.p) s = (c.n, c.k != 2)
  | [], _, _, h => by cases h
  | d :: l, s, hs, h => by
    obtain ⟨h1, h2⟩ := List.pairwise_cons.1 hs
    rw [List.foldl_cons]
    rcases List.mem_cons.1 h with rfl | h
    · rw [show at1 c.p s c = (c.n, c.k != 2) by unfold at1; rw [if_pos (by simp)]]
      exact refAt_no fun d hd e => by have := blt_ne (h1 d hd); rw [e] at this; simp at this
    · exact refAt_yes h2 h

theorem foldIns : ∀ {ls o : List (List UInt8)}, o.Pairwise (fun x y => bltL x y = true) → (ls.foldl (fun o s => insS s o) o).Pairwise (fun x y => bltL x y = true) ∧ ∀ q, q ∈ ls.foldl (fun o s => insS s o) o ↔ q ∈ o ∨ q ∈ ls
  | [], o, h => ⟨h, fun q => by simp⟩
  | s :: ls, o, h => by
    obtain ⟨h1, h2⟩ := foldIns (ls := ls) (insS_srt (s := s) h)
    refine ⟨h1, fun q => ?_⟩
    rw [List.foldl_cons, h2, insS_mem, List.mem_cons]
    constructor
    · rintro ((h | h) | h)
      · exact .inr (.inl h)
      · exact .inl h
      · exact .inr (.inr h)
    · rintro (h | h | h)
      · exact .inl (.inr h)
      · exact .inl (.inl h)
      · exact .inr h
theorem refPs_srt (t : List It) (l : List Ch) : (refPs t l).Pairwise (fun x y => bltL x y = true) := (foldIns (insAll_srt List.Pairwise.nil)).1
theorem refPs_mem {t : List It} {l : List Ch} {p : List UInt8} : p ∈ refPs t l ↔ (∃ x ∈ t, x.p = p) ∨ ∃ c ∈ l, c.p = p := by
  unfold refPs
  rw [(foldIns (insAll_srt List.Pairwise.nil)).2, insAll_mem, List.mem_map]
  simp
theorem mem_ref1 {t : List It} {l : List Ch} {p : List UInt8} {x : It} : x ∈ ref1 t l p ↔ (refAt t l p).2 = true ∧ x = ⟨p, (refAt t l p).1⟩ := by
  unfold ref1
  split
  · rename_i h; simp [h]
  · rename_i h; simp [h]
theorem refOut_srt (t : List It) (l : List Ch) : Srt (refOut t l) := by
  unfold refOut Srt
  rw [List.pairwise_flatMap]
  refine ⟨fun p _ => ?_, (refPs_srt t l).imp fun {a b} h x hx y hy => ?_⟩
  · unfold ref1; split <;> simp
  · rw [(mem_ref1.1 hx).2, (mem_ref1.1 hy).2]; exact h

theorem refOut_eq {t : List It} {l : List Ch} (ht : OkT t) (hr : rightCs l = true) : sortI (outA t l) = refOut t l := by
  have hsl := (rightFrom_srt hr).1
  refine srt_mem_eq (outA_srt ht.srt hr) (refOut_srt t l) fun x => ?_
  rw [(sortI_perm _).mem_iff]
  unfold outA refOut
  rw [List.mem_append, mem_news_iff, mem_rest_iff, List.mem_flatMap]
  constructor
  · rintro (⟨c, hc, hk, rfl⟩ | ⟨h1, h2⟩)
    · refine ⟨c.p, refPs_mem.2 (.inr ⟨c, hc, rfl⟩), ?_⟩
      rw [mem_ref1, show refAt t l c.p = (c.n, c.k != 2) from refAt_yes hsl hc]
      exact ⟨by simpa using hk, rfl⟩
    · refine ⟨x.p, refPs_mem.2 (.inl ⟨x, h1, rfl⟩), ?_⟩
      have hn : ∀ c ∈ l, c.p ≠ x.p := fun c hc e => by
        have := keys_iff.2 ⟨c, hc, e⟩
        rw [h2] at this; cases this
      rw [mem_ref1, show refAt t l x.p = ((getR t x.p).getD nd0, (getR t x.p).isSome) from refAt_no hn, getR_self ht.srt h1]
      exact ⟨rfl, rfl⟩
  · rintro ⟨p, _, hx⟩
    obtain ⟨h1, h2⟩ := mem_ref1.1 hx
    by_cases h : ∃ c ∈ l, c.p = p
    · obtain ⟨c, hc, rfl⟩ := h
      have e : refAt t l c.p = (c.n, c.k != 2) := refAt_yes hsl hc
      rw [e] at h1 h2
      exact .inl ⟨c, hc, by simpa using h1, h2⟩
    · have hn : ∀ c ∈ l, c.p ≠ p := fun c hc e => h ⟨c, hc, e⟩
      have e : refAt t l p = ((getR t p).getD nd0, (getR t p).isSome) := refAt_no hn
      rw [e] at h1 h2
      simp only at h1 h2
      cases hg : getR t p with
      | none => rw [hg] at h1; cases h1
      | some n =>
        obtain ⟨y, hy, hyp, hyn⟩ := getR_mem hg
        rw [hg] at h2
        have : x = y := by rw [h2, ← eta_it y, hyp, hyn]; rfl
        refine .inr ⟨this ▸ hy, ?_⟩
        rw [Bool.eq_false_iff]
        intro hk
        obtain ⟨c, hc, ec⟩ := keys_iff.1 hk
        exact hn c hc (by rw [ec, this, hyp])

theorem refPs_take {t : List It} {l : List Ch} {i : Nat} {c : Ch} (h : l[i]? = some c) : refPs t (l.take (i + 1)) = insS c.p (refPs t (l.take i)) := by
  unfold refPs
  rw [List.take_add_one, h, List.map_append, List.foldl_append]
  rfl
theorem refOut_take {t : List It} {l : List Ch} {ps : List (List UInt8)} {i : Nat} {p : List UInt8} (h : ps[i]? = some p) : (ps.take (i + 1)).flatMap (ref1 t l) = (ps.take i).flatMap (ref1 t l) ++ ref1 t l p := by
  rw [List.take_add_one, h, List.flatMap_append]
  simp
theorem at1_take {l : List Ch} {i : Nat} {c : Ch} {p : List UInt8} {s : Nd × Bool} (h : l[i]? = some c) : (l.take (i + 1)).foldl (at1 p) s = at1 p ((l.take i).foldl (at1 p) s) c := by
  rw [List.take_add_one, h, List.foldl_append]
  rfl
theorem refPs_len (t : List It) (l : List Ch) : (refPs t l).length ≤ t.length + l.length := by
  have key : ∀ (ls o : List (List UInt8)), (ls.foldl (fun o s => insS s o) o).length ≤ o.length + ls.length := by
    intro ls
    induction ls with
    | nil => intro o; simp
    | cons s ls ih =>
      intro o
      have h1 := ih (insS s o)
      have h2 := insS_len s o
      simp only [List.foldl_cons, List.length_cons]
      omega
  have h1 := key (l.map Ch.p) (insAll [] t)
  have h2 := insAll_len t []
  simp only [List.length_map, List.length_nil] at h1 h2
  unfold refPs
  omega

theorem foldAt_mem {p : List UInt8} : ∀ {l : List Ch} {s : Nd × Bool}, l.foldl (at1 p) s = s ∨ ∃ c ∈ l, (l.foldl (at1 p) s).1 = c.n
  | [], _ => .inl rfl
  | c :: l, s => by
    rw [List.foldl_cons]
    rcases foldAt_mem (l := l) (s := at1 p s c) with h | ⟨d, hd, h⟩
    · rw [h]
      unfold at1
      split
      · exact .inr ⟨c, List.mem_cons_self, rfl⟩
      · exact .inl rfl
    · exact .inr ⟨d, List.mem_cons_of_mem _ hd, h⟩
theorem refOut_bnd {t : List It} {l : List Ch} (ht : OkT t) (hp : ∀ c ∈ l, c.p.length ≤ 1000000000 ∧ c.n.d.length ≤ 1000000000) {x : It} (hx : x ∈ refOut t l) : x.p.length ≤ 1000000000 ∧ x.n.d.length ≤ 1000000000 := by
  obtain ⟨p, hpm, h⟩ := List.mem_flatMap.1 hx
  obtain ⟨_, h2⟩ := mem_ref1.1 h
  rw [h2]
  refine ⟨?_, ?_⟩
  · rcases refPs_mem.1 hpm with ⟨y, hy, rfl⟩ | ⟨c, hc, rfl⟩
    · exact Nat.le_trans (ht.plen y hy) (by decide)
    · exact (hp c hc).1
  · rcases foldAt_mem (p := p) (l := l) (s := ((getR t p).getD nd0, (getR t p).isSome)) with h | ⟨c, hc, h⟩
    · rw [show refAt t l p = ((getR t p).getD nd0, (getR t p).isSome) from h]
      exact Nat.le_trans (ht.getd p) (by decide)
    · rw [show (refAt t l p).1 = c.n from h]
      exact (hp c hc).2

theorem apply_len (t : List It) (l : List Ch) : (applyF t l).1.length ≤ 120 := by
  unfold applyF
  split
  · simp
  split
  · simp
  split
  · simp
  rename_i h
  split
  · simp
  · simp only [decide_eq_true_eq] at h
    show (sortI (outA t l)).length ≤ 120
    omega

theorem refApply_eq {t : List It} {l : List Ch} (ht : OkT t) (hw : ∀ c ∈ l, c.o.wf ∧ c.n.wf) : refApplyF t l = applyF t l := by
  unfold refApplyF applyF
  rw [← rightCs_ref hw]
  cases hr : rightCs l
  · rfl
  · simp only [Bool.not_true, Bool.false_eq_true, if_false]
    have hf : l.all (refFits t) = l.all (fitsF t) := by
      rw [Bool.eq_iff_iff, List.all_eq_true, List.all_eq_true]
      exact ⟨fun h c hc => by rw [← refFits_eq ht (hw c hc).1]; exact h c hc, fun h c hc => by rw [refFits_eq ht (hw c hc).1]; exact h c hc⟩
    rw [hf, ← refOut_eq ht hr, rightT_ref]
    intro x hx
    rcases mem_out hx with ⟨c, hc, rfl⟩ | hx
    · exact (hw c hc).2
    · exact ht.tlen x hx

end Go.Dm
