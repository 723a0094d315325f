/-
  A call of a right tree as the program has it is the same call as the document has it; what it keeps. Conditions: the tree is right.
-/
import Derived.Test.YtnbgaphhhjnjlaaGreatDoorCB
import Derived.Test.YtnbgaphhhjnjlaaGreatDoorSE
set_option linter.unusedSimpArgs false
set_option linter.unusedVariables false
namespace Go.Dm
open Go

theorem setL_drop (p : List UInt8) (n : Nd) : ∀ (t : List It) (d : Bool), (setL p n d t).length = (dropR t p).length + (if d then 0 else 1)
  | [], d => by cases d <;> rfl
  | x :: r, d => by
    have h := setL_drop p n r (d || !bltL x.p p)
    simp only [setL, dropR, List.length_append, List.filter_cons] at h ⊢
    cases d <;> cases hb : bltL x.p p <;> cases hp : x.p == p <;> simp [hb] at h ⊢ <;> omega
theorem drop_lt {t : List It} {p : List UInt8} (h : (getR t p).isSome = true) : (dropR t p).length < t.length := by
  induction t with
  | nil => cases h
  | cons x r ih =>
    rw [getR] at h
    simp only [dropR, List.filter_cons]
    split at h
    · rename_i hp
      rw [hp]
      exact Nat.lt_succ_of_le (List.length_filter_le ..)
    · rename_i hp
      have hp : (x.p == p) = false := by simpa using hp
      rw [hp]
      simp only [Bool.not_false, if_true, List.length_cons]
      exact Nat.succ_lt_succ (ih h)
theorem put_set {t : List It} (h : OkT t) {p : List UInt8} {n : Nd} (hs : (getR t p).isSome = true) (hn : rightNodeR n = true) (hk : (n.k == 2) = false → isDirR t p = false) : putR t p n = (setR t p n, 0) := by
  obtain ⟨h1, h2, _⟩ := h.getok hs
  obtain ⟨m, hm⟩ := Option.isSome_iff_exists.1 hs
  have h3 : isDirR t (dirOfR p) = true := dirOf_dir h (.inr ⟨m, hm⟩)
  have h4 : (if n.k != 2 then noneBelow t p else t) = t := by
    split
    · rename_i hne
      exact none_below h h1 (hk (by simpa using hne))
    · rfl
  have h5 : (setR t p n).length ≤ 120 := by
    have e := setL_drop p n t false
    have l := drop_lt hs
    have := h.len
    unfold setR
    rw [e]; simp only [Bool.false_eq_true, if_false]; omega
  have hb : (p == []) = false := by simpa using h1
  unfold putR
  rw [h4, hb, h2, hn, h3, decide_eq_false (by omega)]
  rfl

/-! A node that is right stays so. -/
theorem right_iff {n : Nd} : rightNodeR n = true ↔ (0 ≤ n.m ∧ n.m ≤ 4095 ∧ plainR n.t = true) ∧ (if n.k == 1 then decide ((n.d.length : Int) ≤ 2000) else if n.k == 2 then (n.d.length : Int) == 0 else if n.k == 3 then targetR n.d else false) = true := by
  unfold rightNodeR
  rw [Bool.and_eq_true]
  refine and_congr ?_ Iff.rfl
  simp only [Bool.not_eq_true', Bool.or_eq_false_iff, decide_eq_false_iff_not, Bool.not_eq_false']
  constructor
  · rintro ⟨⟨a, b⟩, c⟩; exact ⟨by omega, by omega, c⟩
  · rintro ⟨a, b, c⟩; exact ⟨⟨by omega, by omega⟩, c⟩
theorem plain_bits (x : Nat) : plainR (bitsF x) = true := by
  unfold plainR
  rw [bitsF_idem]; simp
theorem right_mode {n : Nd} {m : Int} (h : rightNodeR n = true) (hm : rightM m = true) : rightNodeR ⟨n.k, m, n.t, n.d⟩ = true := by
  rw [right_iff] at h ⊢
  unfold rightM at hm
  simp only [Bool.and_eq_true, decide_eq_true_eq] at hm
  exact ⟨⟨hm.1, hm.2, h.1.2.2⟩, h.2⟩
theorem right_time {n : Nd} {x : Nat} (h : rightNodeR n = true) : rightNodeR ⟨n.k, n.m, bitsF x, n.d⟩ = true := by
  rw [right_iff] at h ⊢
  exact ⟨⟨h.1.1, h.1.2.1, plain_bits x⟩, h.2⟩
theorem right_data {n : Nd} {d : List UInt8} (h : rightNodeR n = true) (hk2 : (n.k == 2) = false) (hk3 : (n.k == 3) = false) (hd : d.length ≤ 2000) : rightNodeR ⟨n.k, n.m, n.t, d⟩ = true := by
  rw [right_iff] at h ⊢
  refine ⟨h.1, ?_⟩
  have h2 := h.2
  simp only [hk2, hk3, Bool.false_eq_true, if_false] at h2 ⊢
  split
  · exact decide_eq_true (by omega)
  · rename_i hk1
    rw [if_neg hk1] at h2; cases h2
theorem wrD_len {had b : List UInt8} {f : Nat} (h1 : had.length ≤ 2000) (h2 : f ≤ had.length) (h3 : f + b.length ≤ 2000) : (wrD had f b).length ≤ 2000 := by
  unfold wrD
  simp only [List.length_append, List.length_take, List.length_drop]
  omega

/-! One kind after the other. -/
def RelC2 (x : List It × Int) (y : List It × An) : Prop := y.2 = anE x.2 ∧ (x.2 = 0 → y.1 = x.1)
theorem rel_err {t : List It} {e : Int} (he : e ≠ 0) : RelC2 ([], e) (t, anE e) := ⟨rfl, fun h => absurd h he⟩
theorem rel_same {u : List It} : RelC2 (u, 0) (u, anE 0) := ⟨rfl, fun _ => rfl⟩
theorem rel_end {t : List It} {x : List It × Int} {y : List It × An} (h : RelC2 x y) : (if x.2 == 0 then (x.1, anE 0) else (t, anE x.2)) = (if y.2.e == 0 then y else (t, anE y.2.e)) := by
  obtain ⟨y1, y2⟩ := y
  obtain ⟨h1, h2⟩ := h
  simp only at h1 h2
  subst h1
  by_cases h0 : x.2 = 0
  · have : (x.2 == 0) = true := by simpa using h0
    rw [h2 h0, h0]; rfl
  · have h3 : (x.2 == 0) = false := by simpa using h0
    have h4 : ((anE x.2).e == 0) = false := h3
    rw [h3]
    simp only [h4, Bool.false_eq_true, if_false]
    rfl
theorem there_some {t : List It} {p : List UInt8} {is fo : Bool} (h : ThereT t fo (p, is, 0)) : (p = [] → is = true) ∧ (p ≠ [] → is = (getR t p).isSome) := by
  obtain ⟨h1, h2⟩ := h rfl
  simp only at h1 h2
  constructor
  · intro hp
    cases is
    · exact absurd hp (h2 rfl).1
    · rfl
  · intro hp
    cases is
    · rw [(h2 rfl).2]; rfl
    · rcases h1 rfl with h | ⟨n, h, _⟩
      · exact absurd h hp
      · rw [h]; rfl
theorem dirP_eq {t : List It} {p : List UInt8} {is fo : Bool} (h : ThereT t fo (p, is, 0)) : dirP is (nodeAt t p) = (is && isDirR t p) := by
  unfold dirP nodeAt
  by_cases hp : p = []
  · subst hp; rfl
  · have hb : (p == []) = false := by simpa using hp
    rw [hb, isDir_get hp]
    simp only [Bool.false_eq_true, if_false]
    rw [(there_some h).2 hp]
    cases getR t p <;> rfl
theorem node_at {t : List It} {p : List UInt8} (hp : p ≠ []) : nodeAt t p = (getR t p).getD nd0 := by
  unfold nodeAt
  rw [if_neg (by simpa using hp)]
section kinds
variable {t : List It} {p : List UInt8} {is fo : Bool} {c : Cl}

/-- Something that is there and no directory: a file, where the last link is followed. -/
theorem file_there (h : OkT t) (hw : ThereT t true (p, true, 0)) (hd : isDirR t p = false) : p ≠ [] ∧ (getR t p).isSome = true ∧ rightNodeR ((getR t p).getD nd0) = true ∧ (((getR t p).getD nd0).k == 2) = false ∧ (((getR t p).getD nd0).k == 3) = false := by
  have hp : p ≠ [] := by intro hp; subst hp; cases hd
  have hs : (getR t p).isSome = true := ((there_some hw).2 hp).symm
  have hr := h.getok hs
  obtain ⟨h1, _⟩ := hw rfl
  rcases h1 rfl with h1 | ⟨n, h1, h2⟩
  · exact absurd h1 hp
  · rw [isDir_get hp] at hd
    simp only at h1
    rw [h1] at hd hr ⊢
    exact ⟨hp, rfl, hr.2.2, hd, h2 rfl⟩

theorem rel_make (h : OkT t) (kind : Int) (hk : (c.k == 7) = (kind == 3)) (hk1 : (c.k == 2) = (kind == 1)) (hk2 : kind = 1 ∨ kind = 2 ∨ kind = 3) : RelC2 (makeP t p is kind c) ((createR t c p is).1, anE (createR t c p is).2) := by
  unfold makeP createR
  cases is
  · simp only [Bool.false_eq_true, if_false]
    have hm : (newN kind c).m = if c.k == 7 then 511 else c.m := by unfold newN; rw [hk]
    rw [hm]
    generalize hmm : (if c.k == 7 then (511 : Int) else c.m) = m
    have hM : (decide (m < 0) || decide ((4095 : Int) < m)) = !rightM m := by
      unfold rightM
      rw [Bool.not_and, ← decide_not, ← decide_not]
      congr 1 <;> exact decide_eq_decide.2 (by omega)
    have hT : (decide ((c.d.length : Int) < 1) || decide ((120 : Int) < c.d.length) || !(c.d.all fun b => !(b == 0))) = !targetR c.d := by
      unfold targetR
      rw [Bool.not_and, Bool.not_and, ← decide_not, ← decide_not, Bool.or_comm]
      have e : (c.d.all fun b => !(b == 0)) = (c.d.all fun b => !((b.toNat : Int) == 0)) := by
        congr 1; funext b
        congr 1
        rw [Bool.eq_iff_iff, beq_iff_eq, beq_iff_eq]
        constructor
        · rintro rfl; rfl
        · intro h; exact UInt8.toNat_inj.1 (by have : (0 : UInt8).toNat = 0 := rfl; omega)
      rw [e]
      congr 1
      congr 1 <;> exact decide_eq_decide.2 (by omega)
    rw [hT, hM, hk, hk1]
    cases rightM m
    · simp only [Bool.not_false, Bool.true_or, if_true]; exact rel_err (by decide)
    · simp only [Bool.not_true, Bool.false_or, Bool.false_eq_true, if_false]
      split
      · exact rel_err (by decide)
      · split
        · exact rel_err (by decide)
        · have e : newN kind c = ⟨if kind == 1 then 1 else if kind == 3 then 3 else 2, m, bitsF c.t, if kind == 1 || kind == 3 then c.d else []⟩ := by
            unfold newN
            rw [← hmm, hk]
            rcases hk2 with rfl | rfl | rfl <;> rfl
          rw [e]
          refine ⟨rfl, fun _ => rfl⟩
  · simp only [if_true]; exact rel_err (by decide)

theorem rel_write (h : OkT t) (hw : ThereT t true (p, is, 0)) (hk : c.k = 3) : RelC2 (turnedP t p is (nodeAt t p) c) (doR1 t c p is) := by
  have hd := dirP_eq hw
  simp only [turnedP, doR1, fileP, hk, hd, Int.reduceBEq, Bool.or_self, Bool.false_or, Bool.or_false, Bool.false_and, Bool.false_eq_true, if_false, if_true]
  cases is
  · exact rel_err (e := 6) (by decide)
  · cases hdp : isDirR t p
    · obtain ⟨hp, hs, hr, hk2, hk3⟩ := file_there h hw hdp
      rw [node_at hp]
      generalize (getR t p).getD nd0 = n at *
      have hl := rightNodeR_len hr
      simp only [writeP, Bool.not_true, Bool.and_self, Bool.true_and, Bool.false_eq_true, if_false, beq_self_eq_true]
      split
      · exact rel_err (by decide)
      · split
        · exact rel_err (by decide)
        · rename_i h1 h2
          simp only [Bool.or_eq_true, decide_eq_true_eq, not_or] at h1 h2
          rw [put_set h hs (right_data hr hk2 hk3 (wrD_len hl (by omega) (by omega))) fun _ => hdp]
          exact rel_same
    · exact rel_err (by decide)
theorem rel_trunc (h : OkT t) (hw : ThereT t true (p, is, 0)) (hk : c.k = 4) : RelC2 (turnedP t p is (nodeAt t p) c) (doR1 t c p is) := by
  have hd := dirP_eq hw
  simp only [turnedP, doR1, fileP, hk, hd, Int.reduceBEq, Bool.or_self, Bool.false_or, Bool.or_false, Bool.false_and, Bool.false_eq_true, if_false, if_true]
  cases is
  · exact rel_err (e := 6) (by decide)
  · cases hdp : isDirR t p
    · obtain ⟨hp, hs, hr, hk2, hk3⟩ := file_there h hw hdp
      rw [node_at hp]
      generalize (getR t p).getD nd0 = n at *
      have hl := rightNodeR_len hr
      simp only [truncP, Bool.not_true, Bool.and_self, Bool.true_and, Bool.false_eq_true, if_false, beq_self_eq_true]
      split
      · exact rel_err (by decide)
      · have hle : (n.d.take c.n.toNat).length ≤ n.d.length := List.length_take_le' ..
        rw [put_set h hs (right_data hr hk2 hk3 (by omega)) fun _ => hdp]
        exact rel_same
    · exact rel_err (by decide)
theorem rel_unlink (hw : ThereT t fo (p, is, 0)) (hk : c.k = 5) : RelC2 (turnedP t p is (nodeAt t p) c) (doR1 t c p is) := by
  have hd := dirP_eq hw
  simp only [turnedP, doR1, fileP, hk, hd, Int.reduceBEq, Bool.or_self, Bool.false_or, Bool.or_false, Bool.false_and, Bool.false_eq_true, if_false, if_true]
  cases is
  · exact rel_err (e := 6) (by decide)
  · cases isDirR t p
    · exact rel_same
    · exact rel_err (by decide)
theorem rel_rmdir (hw : ThereT t fo (p, is, 0)) (hk : c.k = 6) : RelC2 (turnedP t p is (nodeAt t p) c) (doR1 t c p is) := by
  have hd := dirP_eq hw
  simp only [turnedP, doR1, rmdirP, hk, hd, Int.reduceBEq, Bool.or_self, Bool.false_or, Bool.or_false, Bool.true_and, Bool.false_eq_true, if_false, if_true]
  cases p == []
  · cases is
    · exact rel_err (by decide)
    · cases isDirR t p
      · exact rel_err (by decide)
      · simp only [Bool.not_true, Bool.and_self, Bool.false_eq_true, if_false]
        split
        · exact rel_err (by decide)
        · exact rel_same
  · exact rel_err (by decide)
theorem rel_chmod (h : OkT t) (hw : ThereT t fo (p, is, 0)) (hk : c.k = 10) : RelC2 (turnedP t p is (nodeAt t p) c) (doR1 t c p is) := by
  simp only [turnedP, doR1, setP, hk, Int.reduceBEq, Bool.or_self, Bool.false_or, Bool.or_false, Bool.true_or, Bool.or_true, Bool.true_and, Bool.false_and, Bool.false_eq_true, if_false, if_true]
  cases is
  · exact rel_err (by decide)
  · have hM : (p == [] || !rightM c.m) = (p == [] || decide (c.m < 0) || decide (4095 < c.m)) := by
      unfold rightM
      rw [Bool.not_and, ← decide_not, ← decide_not, Bool.or_assoc]
      congr 2 <;> exact decide_eq_decide.2 (by omega)
    rw [← hM]
    simp only [Bool.not_true, Bool.false_eq_true, if_false]
    split
    · exact rel_err (by decide)
    · rename_i h1
      simp only [Bool.or_eq_true, not_or, Bool.not_eq_true', Bool.not_eq_false, beq_iff_eq] at h1
      have hs : (getR t p).isSome = true := ((there_some hw).2 h1.1).symm
      rw [node_at h1.1, put_set h hs (right_mode (h.getok hs).2.2 h1.2) fun hk2 => ?_]
      · exact rel_same
      · rw [isDir_get h1.1]
        obtain ⟨m, hm⟩ := Option.isSome_iff_exists.1 hs
        rw [hm] at hk2 ⊢; exact hk2
theorem rel_utime (h : OkT t) (hw : ThereT t fo (p, is, 0)) (hk : c.k = 11) : RelC2 (turnedP t p is (nodeAt t p) c) (doR1 t c p is) := by
  simp only [turnedP, doR1, setP, hk, Int.reduceBEq, Bool.or_self, Bool.false_or, Bool.or_false, Bool.true_or, Bool.or_true, Bool.true_and, Bool.false_and, Bool.false_eq_true, if_false, if_true]
  cases is
  · exact rel_err (by decide)
  · simp only [Bool.not_true, Bool.false_eq_true, if_false]
    split
    · exact rel_err (by decide)
    · rename_i h1
      simp only [beq_iff_eq] at h1
      have hs : (getR t p).isSome = true := ((there_some hw).2 h1).symm
      rw [node_at h1, put_set h hs (right_time (h.getok hs).2.2) fun hk2 => ?_]
      · exact rel_same
      · rw [isDir_get h1]
        obtain ⟨m, hm⟩ := Option.isSome_iff_exists.1 hs
        rw [hm] at hk2 ⊢; exact hk2
theorem rel_rename (h : OkT t) (hw : ThereT t fo (p, is, 0)) (hk : c.k = 9) : RelC2 (turnedP t p is (nodeAt t p) c) (doR1 t c p is) := by
  have hd := dirP_eq hw
  have hw2 := walkF_there h c.to' false
  simp only [turnedP, doR1, renameP, renameR, hk, hd, Int.reduceBEq, Bool.or_self, Bool.false_or, Bool.or_false, Bool.false_and, Bool.false_eq_true, if_false, if_true]
  cases is
  · exact rel_err (by decide)
  · generalize walkF t c.to' false = r at *
    obtain ⟨q, is2, e⟩ := r
    simp only [Bool.not_true, Bool.true_and, Bool.false_eq_true, if_false]
    by_cases he : e = 0
    · subst he
      simp only [beq_self_eq_true, Bool.not_true, Bool.false_eq_true, if_false]
      cases hpq : (p == [] || q == [])
      · simp only [Bool.or_eq_false_iff] at hpq
        have hq : q ≠ [] := by intro hq; rw [hq] at hpq; cases hpq.2
        simp only [Bool.false_eq_true, if_false]
        split
        · exact ⟨rfl, fun _ => rfl⟩
        · split
          · exact rel_err (by decide)
          · have hi2 := (there_some hw2).2 hq
            cases is2
            · have : getR t q = none := by
                cases hg : getR t q
                · rfl
                · rw [hg] at hi2; cases hi2
              rw [remove_no h hq this]
              exact ⟨rfl, fun _ => rfl⟩
            · simp only [ontoP, dirP_eq hw2, Bool.not_true, Bool.true_and, Bool.false_eq_true, if_false, if_true]
              cases isDirR t p <;> cases isDirR t q <;> simp only [Bool.not_true, Bool.not_false, Bool.true_and, Bool.false_and, Bool.false_eq_true, if_false, if_true, beq_self_eq_true, Int.reduceBEq]
              · exact ⟨rfl, fun _ => rfl⟩
              · exact rel_err (by decide)
              · exact rel_err (by decide)
              · cases decide ((0 : Int) < (namesF t q).length)
                · exact ⟨rfl, fun _ => rfl⟩
                · exact rel_err (by decide)
      · exact rel_err (by decide)
    · have : (e == 0) = false := by simpa using he
      rw [this]
      exact rel_err he
end kinds

theorem get_root {t : List It} (h : OkT t) : getR t [] = none := by
  cases hg : getR t []
  · rfl
  · exact absurd rfl (h.getok (p := []) (by rw [hg]; rfl)).1
theorem doR1_asks {t : List It} (h : OkT t) {p : List UInt8} {is : Bool} {fo : Bool} {c : Cl} (hw : ThereT t fo (p, is, 0)) (hk : c.k = 8 ∨ c.k = 12 ∨ c.k = 13 ∨ c.k = 14 ∨ c.k = 15) : doR1 t c p is = (t, askedP t p is (nodeAt t p) c) := by
  have hd := dirP_eq hw
  cases is
  · rcases hk with hk | hk | hk | hk | hk <;> simp only [doR1, askedP, readC1, fileP, hd, hk, Int.reduceBEq, Bool.or_self, Bool.false_or, Bool.or_false, Bool.false_and, Bool.not_false, Bool.false_eq_true, if_false, if_true] <;> rfl
  · have key : (nodeAt t p).k = 3 ∨ (isDirR t p = false) → nodeAt t p = (getR t p).getD nd0 := by
      intro h1
      refine node_at fun hp => ?_
      subst hp
      rcases h1 with h1 | h1 <;> cases h1
    rcases hk with hk | hk | hk | hk | hk <;> simp only [doR1, askedP, readC1, fileP, hd, hk, Int.reduceBEq, Bool.or_self, Bool.false_or, Bool.or_false, Bool.true_or, Bool.or_true, Bool.true_and, Bool.false_and, Bool.not_false, Bool.not_true, Bool.false_eq_true, if_false, if_true]
    · by_cases hp : p = []
      · subst hp
        rw [get_root h]; rfl
      · rw [node_at hp]
        split <;> rfl
    · cases hdp : isDirR t p
      · rw [key (.inr hdp)]
        simp only [Bool.false_eq_true, if_false, beq_self_eq_true, Bool.not_true]
        split <;> rfl
      · rfl
    · split <;> rfl
theorem asked_err {t : List It} {p : List UInt8} {is : Bool} {n : Nd} {c : Cl} (h : (askedP t p is n c).e ≠ 0) : askedP t p is n c = anE (askedP t p is n c).e := by
  unfold askedP readC1 at h ⊢
  repeat' split at h
  all_goals first | exact absurd rfl h | (simp only [*, if_true, if_false, Bool.false_eq_true]; rfl)
/-- A call as the program has it is the call as the document has it. -/
theorem do_eq {t : List It} (h : OkT t) (c : Cl) : doP t c = doR t c := by
  unfold doP doR
  cases hr : (decide (c.k < 1) || decide (15 < c.k))
  · simp only [Bool.or_eq_false_iff, decide_eq_false_iff_not] at hr
    simp only [Bool.false_eq_true, if_false]
    have hw := walkF_there h c.p (follF c.k)
    generalize walkF t c.p (follF c.k) = r at *
    obtain ⟨p, is, e⟩ := r
    simp only
    by_cases he : e = 0
    · subst he
      simp only [beq_self_eq_true, Bool.not_true, Bool.false_eq_true, if_false]
      have hc : c.k = 1 ∨ c.k = 2 ∨ c.k = 3 ∨ c.k = 4 ∨ c.k = 5 ∨ c.k = 6 ∨ c.k = 7 ∨ c.k = 9 ∨ c.k = 10 ∨ c.k = 11 ∨ c.k = 8 ∨ c.k = 12 ∨ c.k = 13 ∨ c.k = 14 ∨ c.k = 15 := by omega
      have asks : (c.k = 8 ∨ c.k = 12 ∨ c.k = 13 ∨ c.k = 14 ∨ c.k = 15) → (if (!turnsF c.k) = true then (t, askedP t p is (nodeAt t p) c) else if ((turnedP t p is (nodeAt t p) c).2 == 0) = true then ((turnedP t p is (nodeAt t p) c).1, anE 0) else (t, anE (turnedP t p is (nodeAt t p) c).2)) = if ((doR1 t c p is).2.e == 0) = true then doR1 t c p is else (t, anE (doR1 t c p is).2.e) := by
        intro hk
        have ht : turnsF c.k = false := by rcases hk with hk | hk | hk | hk | hk <;> rw [hk] <;> rfl
        rw [ht, doR1_asks h hw hk]
        simp only [Bool.not_false, if_true]
        split
        · rfl
        · rename_i h0
          rw [← asked_err (by simpa using h0)]
      have turns : turnsF c.k = true → RelC2 (turnedP t p is (nodeAt t p) c) (doR1 t c p is) → (if (!turnsF c.k) = true then (t, askedP t p is (nodeAt t p) c) else if ((turnedP t p is (nodeAt t p) c).2 == 0) = true then ((turnedP t p is (nodeAt t p) c).1, anE 0) else (t, anE (turnedP t p is (nodeAt t p) c).2)) = if ((doR1 t c p is).2.e == 0) = true then doR1 t c p is else (t, anE (doR1 t c p is).2.e) := by
        intro ht hrel
        rw [ht]
        simp only [Bool.not_true, Bool.false_eq_true, if_false]
        exact rel_end hrel
      rcases hc with hk | hk | hk | hk | hk | hk | hk | hk | hk | hk | hk
      · refine turns (by rw [hk]; rfl) ?_
        have := rel_make (p := p) (is := is) (c := c) h 2 (by rw [hk]; rfl) (by rw [hk]; rfl) (by simp)
        simpa only [turnedP, doR1, hk, Int.reduceBEq, Bool.true_or, Bool.or_self, Bool.false_eq_true, if_true] using this
      · refine turns (by rw [hk]; rfl) ?_
        have := rel_make (p := p) (is := is) (c := c) h 1 (by rw [hk]; rfl) (by rw [hk]; rfl) (by simp)
        simpa only [turnedP, doR1, hk, Int.reduceBEq, Bool.true_or, Bool.or_true, Bool.or_self, Bool.false_eq_true, if_true, if_false] using this
      · exact turns (by rw [hk]; rfl) (rel_write h (by rw [hk] at hw; exact hw) hk)
      · exact turns (by rw [hk]; rfl) (rel_trunc h (by rw [hk] at hw; exact hw) hk)
      · exact turns (by rw [hk]; rfl) (rel_unlink hw hk)
      · exact turns (by rw [hk]; rfl) (rel_rmdir hw hk)
      · refine turns (by rw [hk]; rfl) ?_
        have := rel_make (p := p) (is := is) (c := c) h 3 (by rw [hk]; rfl) (by rw [hk]; rfl) (by simp)
        simpa only [turnedP, doR1, hk, Int.reduceBEq, Bool.true_or, Bool.or_true, Bool.or_self, Bool.false_eq_true, if_true, if_false] using this
      · exact turns (by rw [hk]; rfl) (rel_rename h hw hk)
      · exact turns (by rw [hk]; rfl) (rel_chmod h hw hk)
      · exact turns (by rw [hk]; rfl) (rel_utime h hw hk)
      · exact asks hk
    · have : (e == 0) = false := by simpa using he
      rw [this]; rfl
  · rfl
end Go.Dm
