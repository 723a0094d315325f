/-
  The changes of two trees, done to the one, are the other. No condition.
-/
import Derived.Test.YtfpeelbddefhhaaGreatDoorSU
set_option linter.unusedSimpArgs false
set_option linter.unusedVariables false
namespace Go.Dm
open Go Go.Sort Go.Proofs
set_option maxRecDepth 100000

theorem srt_nd {s : List It} (hs : Srt s) : s.Nodup := hs.imp fun {a b} h e => by subst e; rw [blt_irrefl] at h; cases h
theorem srt_mem_eq {s t : List It} (hs : Srt s) (ht : Srt t) (h : ∀ x, x ∈ s ↔ x ∈ t) : s = t :=
  List.Perm.eq_of_pairwise (le := fun (x y : It) => bltL x.p y.p = true) (fun _ _ _ _ h k => by rw [blt_asymm h] at k; cases k) hs ht ((List.perm_ext_iff_of_nodup (srt_nd hs) (srt_nd ht)).2 h)

def kindAt (a b : List It) (p : List UInt8) : Int := kindF (getR a p).isSome (getR b p).isSome ((getR a p).getD nd0) ((getR b p).getD nd0)
theorem diff_has {a b : List It} {x : It} (hx : x ∈ a ∨ x ∈ b) (hk : kindAt a b x.p ≠ 0) : ∃ c ∈ diffF a b, c.p = x.p :=
  chsF_has (pathsF_iff.2 (hx.imp (fun h => ⟨x, h, rfl⟩) fun h => ⟨x, h, rfl⟩)) hk
theorem keys_iff {l : List Ch} {p : List UInt8} : (keysF l).contains p = true ↔ ∃ c ∈ l, c.p = p := by
  simp [keysF]
theorem mem_news_iff {l : List Ch} {x : It} : x ∈ newsF l ↔ ∃ c ∈ l, c.k ≠ 2 ∧ x = ⟨c.p, c.n⟩ := by
  unfold newsF
  rw [List.mem_flatMap]
  constructor
  · rintro ⟨c, hc, hx⟩
    unfold news1 at hx
    split at hx
    · rename_i hk
      exact ⟨c, hc, by simpa using hk, by simpa using hx⟩
    · simp at hx
  · rintro ⟨c, hc, hk, rfl⟩
    refine ⟨c, hc, ?_⟩
    unfold news1
    rw [if_pos (by simpa using hk)]
    exact List.mem_singleton.2 rfl
theorem mem_rest_iff {t : List It} {ks : List (List UInt8)} {x : It} : x ∈ restF t ks ↔ x ∈ t ∧ ks.contains x.p = false := by
  refine ⟨mem_rest, fun ⟨h1, h2⟩ => List.mem_flatMap.2 ⟨x, h1, ?_⟩⟩
  unfold rest1
  rw [h2, if_pos (by decide)]
  exact List.mem_singleton.2 rfl
theorem eta_it (x : It) : (⟨x.p, x.n⟩ : It) = x := rfl

/-- What stays, or comes: just the other tree. -/
theorem out_iff {a b : List It} (ha : OkT a) (hb : OkT b) (x : It) : x ∈ outA a (diffF a b) ↔ x ∈ b := by
  unfold outA
  rw [List.mem_append, mem_news_iff, mem_rest_iff]
  constructor
  · rintro (⟨c, hc, hk, rfl⟩ | ⟨h1, h2⟩)
    · obtain ⟨g1, g2⟩ := diffF_mem hc
      obtain ⟨_, g3⟩ := diffF_nodes hc
      cases hg : getR b c.p with
      | none =>
        rw [hg] at g1 g2
        exfalso
        unfold kindF at g1 g2
        cases hp : (getR a c.p).isSome <;> rw [hp] at g1 g2 <;> simp_all
      | some n =>
        obtain ⟨y, hy, hyp, hyn⟩ := getR_mem hg
        rw [hg] at g3
        have : (⟨c.p, c.n⟩ : It) = y := by rw [g3, ← hyp]; simp only [Option.getD_some, ← hyn]
        rw [this]; exact hy
    · have hga := getR_self ha.srt h1
      have hk0 : kindAt a b x.p = 0 := by
        cases h : decide (kindAt a b x.p = 0) with
        | true => exact of_decide_eq_true h
        | false =>
          obtain ⟨c, hc, he⟩ := diff_has (.inl h1) (of_decide_eq_false h)
          have := keys_iff.2 ⟨c, hc, he⟩
          rw [h2] at this; cases this
      unfold kindAt kindF at hk0
      rw [hga] at hk0
      cases hg : getR b x.p with
      | none => rw [hg] at hk0; simp at hk0
      | some n =>
        rw [hg] at hk0
        simp only [Option.isSome_some, if_true, Option.getD_some] at hk0
        obtain ⟨y, hy, hyp, hyn⟩ := getR_mem hg
        cases hs : ndSame x.n n with
        | false =>
          rw [hs] at hk0
          simp only [Bool.false_eq_true, if_false] at hk0
          split at hk0
          · cases hk0
          · split at hk0 <;> cases hk0
        | true =>
          have e := nd_same_eq (ha.plain x h1) (hyn ▸ hb.plain y hy) hs
          have : x = y := by
            rw [← eta_it x, ← eta_it y, hyp, hyn, ← e]
          rw [this]; exact hy
  · intro hx
    have hgb := getR_self hb.srt hx
    cases h : decide (kindAt a b x.p = 0) with
    | false =>
      obtain ⟨c, hc, he⟩ := diff_has (.inr hx) (of_decide_eq_false h)
      obtain ⟨g1, g2⟩ := diffF_mem hc
      obtain ⟨_, g3⟩ := diffF_nodes hc
      rw [he, hgb] at g1 g3
      refine .inl ⟨c, hc, ?_, ?_⟩
      · rw [g1]
        unfold kindF
        simp only [Option.isSome_some, if_true]
        split
        · split
          · decide
          · split
            · decide
            · split <;> decide
        · decide
      · rw [he, g3]; rfl
    | true =>
      have hk0 := of_decide_eq_true h
      have hno : (keysF (diffF a b)).contains x.p = false := by
        rw [Bool.eq_false_iff]
        intro hk
        obtain ⟨c, hc, he⟩ := keys_iff.1 hk
        have := (diffF_mem hc).2
        rw [he] at this
        exact this hk0
      refine .inr ⟨?_, hno⟩
      unfold kindAt kindF at hk0
      rw [hgb] at hk0
      cases hg : getR a x.p with
      | none => rw [hg] at hk0; simp at hk0
      | some n =>
        rw [hg] at hk0
        simp only [Option.isSome_some, if_true, Option.getD_some] at hk0
        obtain ⟨y, hy, hyp, hyn⟩ := getR_mem hg
        cases hs : ndSame n x.n with
        | false =>
          rw [hs] at hk0
          simp only [Bool.false_eq_true, if_false] at hk0
          split at hk0
          · cases hk0
          · split at hk0 <;> cases hk0
        | true =>
          have e := nd_same_eq (hyn ▸ ha.plain y hy) (hb.plain x hx) hs
          have : x = y := by rw [← eta_it x, ← eta_it y, hyp, hyn, e]
          rw [this]; exact hy

theorem fits_diff {a b : List It} (ha : OkT a) {c : Ch} (hc : c ∈ diffF a b) : fitsF a c = true := by
  obtain ⟨g1, g2⟩ := diffF_mem hc
  obtain ⟨g3, _⟩ := diffF_nodes hc
  unfold fitsF
  rw [g3, ndSame_self (ha.gett _), Bool.and_true]
  unfold kindF at g1 g2
  cases hp : (getR a c.p).isSome
  · rw [hp] at g1 g2
    simp only [Bool.false_eq_true, if_false] at g1 g2
    split at g2
    · rename_i hq
      rw [if_pos hq] at g1
      rw [g1]; rfl
    · exact absurd rfl g2
  · rw [hp] at g1
    have : (c.k == 1) = false := by
      rw [g1]
      simp only [if_true]
      split
      · split
        · rfl
        · split
          · rfl
          · split <;> rfl
      · rfl
    rw [this]; rfl

theorem apply_diff {a b : List It} (ha : OkT a) (hb : OkT b) : applyF a (diffF a b) = (b, 0) := by
  have hr := diffF_rightCs ha hb
  have ho : sortI (outA a (diffF a b)) = b := srt_mem_eq (outA_srt ha.srt hr) hb.srt fun x => ((sortI_perm _).mem_iff).trans (out_iff ha hb x)
  unfold applyF
  rw [hr, if_neg (by decide), List.all_eq_true.2 (fun c hc => fits_diff ha hc), if_neg (by decide), ho, if_neg (by have := hb.len; simp; omega), rightT_of hb, if_neg (by decide)]

/-- Changes that were done do not go again. -/
theorem apply_twice {a b : List It} (ha : OkT a) (hb : OkT b) (h : diffF a b ≠ []) : applyF b (diffF a b) = ([], 17) := by
  have hr := diffF_rightCs ha hb
  unfold applyF
  rw [hr, if_neg (by decide)]
  have hf : (diffF a b).all (fitsF b) = false := by
    cases hl : diffF a b with
    | nil => exact absurd hl h
    | cons c l =>
      have hc : c ∈ diffF a b := by rw [hl]; exact List.mem_cons_self
      obtain ⟨g1, g2⟩ := diffF_mem hc
      obtain ⟨g3, _⟩ := diffF_nodes hc
      rw [List.all_cons]
      have : fitsF b c = false := by
        unfold fitsF
        rw [g3]
        unfold kindF at g1 g2
        cases hp : (getR a c.p).isSome <;> cases hq : (getR b c.p).isSome <;> rw [hp, hq] at g1 g2 <;> simp only [Bool.false_eq_true, if_false, if_true] at g1 g2
        · exact absurd rfl g2
        · rw [g1]; rfl
        · rw [g1]; rfl
        · split at g2
          · exact absurd rfl g2
          · rename_i hs
            rw [if_neg hs] at g1
            have hs2 : ndSame ((getR b c.p).getD nd0) ((getR a c.p).getD nd0) = false := by
              rw [ndSame_swap (hb.gett _) (ha.gett _)]
              simpa using hs
            rw [hs2]
            split
            · rename_i hk
              have hk := eq_of_beq hk
              rw [g1] at hk
              split at hk
              · cases hk
              · split at hk <;> cases hk
            · rfl
      rw [this]; rfl
  rw [hf]
  rfl

end Go.Dm
