/-
  A move and the move back. Conditions: the tree is right, the move goes.
-/
import Derived.Test.YtnbgaphhhjnjlaaGreatDoorCC
import Derived.Test.YtnbgaphhhjnjlaaGreatDoorSU
set_option linter.unusedSimpArgs false
set_option linter.unusedVariables false
namespace Go.Dm
open Go

theorem mvd_self (a : List UInt8) (n : Nd) : mvd a ⟨a, n⟩ = true := by simp [mvd]
theorem mvd_app {a s : List UInt8} (ha : a ≠ []) (hs : s = [] ∨ ∃ r, s = 47 :: r) (n : Nd) : mvd a ⟨a ++ s, n⟩ = true := by
  rcases hs with rfl | ⟨r, rfl⟩
  · rw [List.append_nil]; exact mvd_self a n
  · simp only [mvd, below_mk ha, Bool.not_true, Bool.and_false, Bool.not_false]
/-- Nothing there is moved by a path that is not there. -/
theorem mvd_none {t : List It} (h : OkT t) {b : List UInt8} (hb : b ≠ []) (hbt : (getR t b).isSome = false) {y : It} (hy : y ∈ t) : mvd b y = false := by
  cases hm : mvd b y
  · rfl
  · exfalso
    obtain ⟨s, hs, hr⟩ := mvd_form hb hm
    have hg := getR_self h.srt hy
    rcases hr with rfl | ⟨r, rfl⟩
    · rw [List.append_nil] at hs
      rw [hs] at hg
      rw [hg] at hbt; cases hbt
    · have h1 : belowR b y.p = true := by rw [hs]; exact below_mk hb
      have := par_up h.par hb _ y.p (Nat.le_refl _) (by rw [hg]; rfl) h1
      rw [hbt] at this; cases this
theorem mov_back {t : List It} (h : OkT t) {a b : List UInt8} (ha : a ≠ []) (hb : b ≠ []) (hbt : (getR t b).isSome = false) {y : It} (hy : y ∈ t) : movI b a (movI a b y) = y := by
  cases hm : mvd a y
  · have : movI a b y = y := by unfold movI; rw [hm]; rfl
    rw [this]
    unfold movI
    rw [mvd_none h hb hbt hy]; rfl
  · obtain ⟨s, hs, hr⟩ := mvd_form ha hm
    have : movI a b y = ⟨b ++ s, y.n⟩ := by unfold movI; rw [hm, hs]; simp
    rw [this]
    unfold movI
    rw [mvd_app hb hr]
    cases y
    simp only at hs
    simp [hs]
theorem moveR_cond {t : List It} {a b : List UInt8} (h0 : (moveR t a b).2 = 0) : isPathR a = true ∧ (getR t a).isSome = true ∧ belowR a b = false ∧ isDirR t (dirOfR b) = true := by
  unfold moveR at h0
  split at h0
  · cases h0
  · rename_i h1
    split at h0
    · cases h0
    · rename_i h2
      split at h0
      · cases h0
      · rename_i h3
        split at h0
        · cases h0
        · split at h0
          · cases h0
          · rename_i h5
            simp only [Bool.or_eq_true, not_or, beq_iff_eq, Bool.not_eq_true', Bool.not_eq_false] at h1
            exact ⟨h1.1.2, by cases hg : getR t a <;> simp_all, by simpa using h3, by simpa using h5⟩
theorem moveR_mk {t : List It} {a b : List UInt8} (ha : a ≠ []) (hb : b ≠ []) (hpa : isPathR a = true) (hpb : isPathR b = true) (hga : (getR t a).isSome = true) (hab : belowR a b = false) (hgb : (getR t b).isSome = false) (hd : isDirR t (dirOfR b) = true) :
    moveR t a b = moveL a b (removeR t a) t := by
  have h1 : (a == []) = false := by simpa using ha
  have h2 : (b == []) = false := by simpa using hb
  unfold moveR
  rw [h1, h2, hpa, hpb, hga, hab, hgb, hd]
  rfl
/-- A move that goes, and back. -/
theorem move_back {t : List It} (h : OkT t) {a b : List UInt8} (h0 : (moveR t a b).2 = 0) :
    OkT (moveR t a b).1 ∧ (moveR t a b).1.length = t.length ∧ getR (moveR t a b).1 a = none ∧ (getR (moveR t a b).1 b).isSome = true ∧ isDirR (moveR t a b).1 (dirOfR a) = true ∧ belowR b a = false ∧ moveR (moveR t a b).1 b a = (t, 0) := by
  obtain ⟨ha, hb, hpb, hbt, he⟩ := moveR_pre h0
  obtain ⟨hpa, hga, hab, hdb⟩ := moveR_cond h0
  have hok := h.move h0
  obtain ⟨hlen, hall⟩ := moved_all h h0
  have heq : (moveR t a b).1 = sortI (movT t a b) := by
    rw [he, move_eq h ha hb hpb hbt] at h0 ⊢
    split at h0
    · rename_i hs; rw [if_pos hs]
    · cases h0
  generalize moveR t a b = U at *
  obtain ⟨u, e⟩ := U
  simp only at h0 heq hok hlen hall ⊢
  obtain ⟨n, hn⟩ := Option.isSome_iff_exists.1 hga
  obtain ⟨x, hx, hxp, hxn⟩ := getR_mem hn
  have hmem : ∀ z ∈ u, ∃ y ∈ t, z = movI a b y := fun z hz => by
    rw [heq] at hz
    obtain ⟨y, hy, rfl⟩ := List.mem_map.1 ((sortI_perm _).mem_iff.1 hz)
    exact ⟨y, hy, rfl⟩
  have hmem2 : ∀ y ∈ t, movI a b y ∈ u := fun y hy => by
    rw [heq]
    exact (sortI_perm _).mem_iff.2 (List.mem_map_of_mem hy)
  have hba : belowR b a = false := by
    cases hc : belowR b a
    · rfl
    · have := par_up h.par hb _ a (Nat.le_refl _) hga hc
      rw [hbt] at this; cases this
  have hua : getR u a = none := by
    cases hc : getR u a with
    | none => rfl
    | some m =>
      exfalso
      obtain ⟨z, hz, hzp, _⟩ := getR_mem hc
      obtain ⟨y, hy, rfl⟩ := hmem z hz
      cases hm : mvd a y
      · have : movI a b y = y := by unfold movI; rw [hm]; rfl
        rw [this] at hzp
        have : mvd a y = true := by unfold mvd; rw [hzp]; simp
        rw [hm] at this; cases this
      · obtain ⟨s, hs, hr⟩ := mvd_form ha hm
        have : (movI a b y).p = b ++ s := by unfold movI; rw [hm, hs]; simp
        rw [this] at hzp
        rcases hr with rfl | ⟨r, rfl⟩
        · rw [List.append_nil] at hzp
          rw [hzp, hga] at hbt; cases hbt
        · have : belowR b a = true := by rw [← hzp]; exact below_mk hb
          rw [hba] at this; cases this
  have hub : (getR u b).isSome = true := by
    have := hall x hx
    have hmx : (movI a b x).p = b := by
      unfold movI
      have : mvd a x = true := by unfold mvd; rw [hxp]; simp
      rw [this, hxp]; simp
    rw [hmx] at this
    rw [this]; rfl
  have hda : isDirR u (dirOfR a) = true := by
    have hd := h.par x hx
    rw [hxp] at hd
    by_cases hz : dirOfR a = []
    · rw [hz]; rfl
    · obtain ⟨m, hm, hk⟩ := isDir_some hz hd
      obtain ⟨y, hy, hyp, hyn⟩ := getR_mem hm
      have hlt := dir_lt hz
      have hnm : mvd a y = false := by
        cases hc : mvd a y
        · rfl
        · exfalso
          obtain ⟨s, hs, _⟩ := mvd_form ha hc
          have := congrArg List.length hs
          rw [hyp, List.length_append] at this
          omega
      have h2 := hall y hy
      have : movI a b y = y := by unfold movI; rw [hnm]; rfl
      rw [this, hyp, hyn] at h2
      exact isDir_mk h2 hk
  refine ⟨hok, hlen, hua, hub, hda, hba, ?_⟩
  rw [moveR_mk hb ha hpb hpa hub hba (by rw [hua]; rfl) hda, move_eq hok hb ha hpa (by rw [hua]; rfl)]
  have hback : ∀ x, x ∈ movT u b a ↔ x ∈ t := fun x => by
    constructor
    · intro hx
      obtain ⟨z, hz, rfl⟩ := List.mem_map.1 hx
      obtain ⟨y, hy, rfl⟩ := hmem z hz
      rw [mov_back h ha hb hbt hy]; exact hy
    · intro hx
      rw [← mov_back h ha hb hbt hx]
      exact List.mem_map_of_mem (hmem2 x hx)
  have hsh : (movT u b a).all shortP = true := List.all_eq_true.2 fun x hx => by
    have := h.plen x ((hback x).1 hx)
    simp only [shortP, Bool.not_eq_true', decide_eq_false_iff_not]; omega
  rw [hsh, if_pos rfl]
  have hs : Srt (sortI (movT u b a)) := sortI_srt (mov_nodup hok hb ha (by rw [hua]; rfl))
  rw [srt_mem_eq hs h.srt fun x => (sortI_perm _).mem_iff.trans (hback x)]
/-- What a call that is refused leaves. -/
theorem doP_err {t : List It} {c : Cl} (h : (doP t c).2.e ≠ 0) : (doP t c).1 = t := by
  unfold doP at h ⊢
  split
  · rfl
  · rename_i h1
    rw [if_neg h1] at h
    split
    · rfl
    · rename_i h2
      rw [if_neg h2] at h
      split
      · rfl
      · rename_i h3
        rw [if_neg h3] at h
        split
        · rename_i h4
          rw [if_pos h4] at h
          exact absurd rfl h
        · rfl
/-- A rename of what is there to a path that leads to nothing. -/
theorem do_rename {t : List It} (h : OkT t) {a q : List UInt8} {W : List UInt8 × Bool × Int} (ha : (getR t a).isSome = true) (hW : walkF t q false = W) :
    doP t ⟨9, a, q, 0, 0, 0, 0, []⟩ = if (renameP t a true (nodeAt t a) q).2 == 0 then ((renameP t a true (nodeAt t a) q).1, anE 0) else (t, anE (renameP t a true (nodeAt t a) q).2) := by
  obtain ⟨h1, h2, _⟩ := h.getok ha
  obtain ⟨n, hn⟩ := Option.isSome_iff_exists.1 ha
  have hw := walk_path h h1 h2 (dirOf_dir h (.inr ⟨n, hn⟩))
  rw [ha] at hw
  have hf : follF 9 = false := rfl
  unfold doP
  simp only [hf, hw]
  rfl
theorem rename_none {t : List It} (h : OkT t) {a q b : List UInt8} (ha : (getR t a).isSome = true) (hw : walkF t q false = (b, false, 0)) (hb : b ≠ []) (hgb : getR t b = none) :
    renameP t a true (nodeAt t a) q = if belowR a b then ([], 18) else moveR t a b := by
  obtain ⟨h1, _, _⟩ := h.getok ha
  have e1 : (a == []) = false := by simpa using h1
  have e2 : (b == []) = false := by simpa using hb
  have e3 : (a == b) = false := by
    cases hc : a == b
    · rfl
    · rw [eq_of_beq hc, hgb] at ha; cases ha
  unfold renameP
  rw [hw]
  simp only [e1, e2, e3, Bool.not_true, Bool.or_self, Bool.false_eq_true, if_false, beq_self_eq_true]
  split
  · rfl
  · have : ontoP (dirP true (nodeAt t a)) t b false (nodeAt t b) = 0 := rfl
    rw [this, remove_no h hb hgb]
    rfl
/-- Renamed to a path that leads to nothing, and back. -/
theorem moves_law {t : List It} (h : OkT t) {a q b : List UInt8} (ha : (getR t a).isSome = true) (hw : walkF t q false = (b, false, 0)) (h0 : (doP t ⟨9, a, q, 0, 0, 0, 0, []⟩).2.e = 0) :
    OkT (doP t ⟨9, a, q, 0, 0, 0, 0, []⟩).1 ∧ getR (doP t ⟨9, a, q, 0, 0, 0, 0, []⟩).1 a = none ∧ (doP t ⟨9, a, q, 0, 0, 0, 0, []⟩).1.length = t.length ∧ doP (doP t ⟨9, a, q, 0, 0, 0, 0, []⟩).1 ⟨9, b, a, 0, 0, 0, 0, []⟩ = (t, anE 0) := by
  have hth := walkF_there h q false
  rw [hw] at hth
  obtain ⟨hb, hgb⟩ := (hth rfl).2 rfl
  simp only at hb hgb
  have hd := do_rename h ha hw
  have hr := rename_none h ha hw hb hgb
  rw [hr] at hd
  cases hab : belowR a b
  · rw [hab] at hd
    simp only [Bool.false_eq_true, if_false] at hd
    cases hm : ((moveR t a b).2 == 0)
    · rw [hm] at hd
      simp only [Bool.false_eq_true, if_false] at hd
      rw [hd] at h0
      have : (moveR t a b).2 = 0 := h0
      rw [this] at hm; cases hm
    · have hm0 := eq_of_beq hm
      rw [hm] at hd
      simp only [if_true] at hd
      obtain ⟨k1, k2, k3, k4, k5, k6, k7⟩ := move_back h hm0
      obtain ⟨p1, _, p3, _⟩ := moveR_pre hm0
      obtain ⟨q1, _⟩ := moveR_cond hm0
      rw [hd]
      refine ⟨k1, k3, k2, ?_⟩
      simp only
      have hw2 := walk_path k1 p1 q1 k5
      rw [k3] at hw2
      have hd2 := do_rename k1 k4 hw2
      have hr2 : renameP (moveR t a b).1 b true (nodeAt (moveR t a b).1 b) a = (t, 0) := by
        rw [rename_none k1 k4 hw2 p1 k3, k6, k7]; rfl
      rw [hr2] at hd2
      rw [hd2]
      rfl
  · rw [hab] at hd
    rw [hd] at h0
    cases h0
end Go.Dm
