/-
  Bytes of trees and of changes: plain laws. No condition.
-/
import Derived.Test.YtjanmkknbijecaaGreatDoorSC
set_option linter.unusedSimpArgs false
set_option linter.unusedVariables false

section
/-
  Numbers as bytes, the highest first; a node's bytes. No condition.
-/
namespace Go.Dm
open Go

theorem wrap_u8_range (z : Int) : 0 ≤ IntKind.u8.wrap z ∧ IntKind.u8.wrap z ≤ 255 := ⟨of_eq_true (wrap_u8_lo z), of_eq_true (wrap_u8_hi z)⟩
theorem encB_snoc (B : List UInt8) (z : Int) : encB B ++ [[.i .u8 (IntKind.u8.wrap z)]] = encB (B ++ [UInt8.ofNat (IntKind.u8.wrap z).toNat]) := by
  obtain ⟨h1, h2⟩ := wrap_u8_range z
  have : ((UInt8.ofNat (IntKind.u8.wrap z).toNat).toNat : Int) = IntKind.u8.wrap z := by
    have : (UInt8.ofNat (IntKind.u8.wrap z).toNat).toNat = (IntKind.u8.wrap z).toNat := by
      show _ % 256 = _
      exact Nat.mod_eq_of_lt (by omega)
    rw [this]; omega
  simp only [encB, List.map_append, List.map_cons, List.map_nil, this]
theorem encB_one1 (z : Int) : [[PV.i .u8 (IntKind.u8.wrap z)]] = encB [UInt8.ofNat (IntKind.u8.wrap z).toNat] := by
  have := encB_snoc [] z
  simpa [encB] using this
def byteI (z : Int) (k : Nat) : UInt8 := UInt8.ofNat (IntKind.u8.wrap ((IntKind.u64.wrap z).fdiv (2 ^ k))).toNat
def u16F (z : Int) : List UInt8 := [byteI z 8, byteI z 0]
def textF (b : List UInt8) : List UInt8 := u16F b.length ++ b
def layNode (n : Nd) : List UInt8 := byteI n.k 0 :: (u16F n.m ++ (bytesF n.t ++ textF n.d))
def layItem (x : It) : List UInt8 := textF x.p ++ layNode x.n
def layTree (t : List It) : List UInt8 := u16F t.length ++ (t.map layItem).flatten

/-! Bytes read as numbers. -/
def natOf (b : List UInt8) : Nat := b.foldl (fun v c => v * 256 + c.toNat) 0
/-- What a reader has left, and whether something was taken beyond the end. -/
structure Rd where
  b : List UInt8
  l : Bool
def Rd.raw (r : Rd) (n : Nat) : List UInt8 × Rd := if r.l || decide (r.b.length < n) then ([], ⟨[], true⟩) else (r.b.take n, ⟨r.b.drop n, false⟩)
def Rd.num (r : Rd) (n : Nat) : Nat × Rd := (natOf (r.raw n).1, (r.raw n).2)
def Rd.text (r : Rd) : List UInt8 × Rd := (r.num 2).2.raw (r.num 2).1
def Rd.node (r : Rd) : Nd × Rd :=
  let k := r.num 1
  let m := k.2.num 2
  let t := m.2.num 8
  let d := t.2.text
  (⟨k.1, m.1, t.1, d.1⟩, d.2)
/-- Items read one behind the other. -/
def Rd.items : Nat → Rd → List It × Rd
  | 0, r => ([], r)
  | n + 1, r =>
    if r.l then ([], r) else
      let p := r.text
      let x := p.2.node
      let y := Rd.items n x.2
      (⟨p.1, x.1⟩ :: y.1, y.2)
def okItem (x : It) : Prop := x.p.length < 65536 ∧ (0 ≤ x.n.k ∧ x.n.k < 256) ∧ (0 ≤ x.n.m ∧ x.n.m < 65536) ∧ x.n.t < 18446744073709551616 ∧ x.n.d.length < 65536
end Go.Dm
end

section
/-
  Which lists of items are right trees, as the program and the document ask it. No condition.
-/
namespace Go.Dm
open Go

def aheadT (pre : List It) (p : List UInt8) : Bool := match pre.getLast? with
  | some y => bltL y.p p
  | none => true
def rightStep (pre : List It) (x : It) : Bool := !(x.p == []) && (isPathR x.p && (aheadT pre x.p && (rightNodeR x.n && isDirR pre (dirOfR x.p))))
def rightGo : List It → List It → Bool
  | _, [] => true
  | pre, x :: r => rightStep pre x && rightGo (pre ++ [x]) r
def rightT (t : List It) : Bool := rightGo [] t && decide ((t.length : Int) ≤ 120)
theorem getLast_take {t : List It} {k : Nat} (hk : 0 < k) (hl : k ≤ t.length) : (t.take k).getLast? = t[k - 1]? := by
  rw [List.getLast?_eq_getElem?, List.length_take, Nat.min_eq_left hl, List.getElem?_take, if_pos (by omega)]
/-- The document's question. -/
def refStep (t pre : List It) (x : It) : Bool := !(x.p == []) && (isPathR x.p && (aheadT pre x.p && (rightNodeR x.n && isDirR t (dirOfR x.p))))
def refGo (t : List It) : List It → List It → Bool
  | _, [] => true
  | pre, x :: r => refStep t pre x && refGo t (pre ++ [x]) r
def refT (t : List It) : Bool := refGo t [] t && decide ((t.length : Int) ≤ 120)
theorem refT_of {t : List It} (h : OkT t) : refT t = true := by
  have key : ∀ n k, t.length - k ≤ n → k ≤ t.length → refGo t (t.take k) (t.drop k) = true := by
    intro n
    induction n with
    | zero =>
      intro k h1 h2
      rw [List.drop_of_length_le (by omega)]; rfl
    | succ n ih =>
      intro k h1 h2
      by_cases hlt : k < t.length
      · have hx : t[k]? = some t[k] := List.getElem?_eq_getElem hlt
        rw [List.drop_eq_getElem_cons hlt, refGo]
        have hn := ih (k + 1) (by omega) (by omega)
        rw [List.take_add_one, hx] at hn
        obtain ⟨i1, i2, i3, _⟩ := h.its _ (List.getElem_mem hlt)
        have hd := h.par _ (List.getElem_mem hlt)
        have ha : aheadT (t.take k) t[k].p = true := by
          unfold aheadT
          by_cases h0 : 0 < k
          · rw [getLast_take h0 (by omega), List.getElem?_eq_getElem (by omega)]
            exact List.pairwise_iff_getElem.1 h.srt (k - 1) k (by omega) hlt (by omega)
          · have : k = 0 := by omega
            subst this; rfl
        have i1' : (t[k].p == []) = false := by simpa using i1
        rw [refStep, i1', i2, ha, i3, hd]
        exact hn
      · rw [List.drop_of_length_le (by omega)]; rfl
  have h0 := key _ 0 (Nat.le_refl _) (Nat.zero_le _)
  have hl := h.len
  simp only [List.take_zero, List.drop_zero] at h0
  rw [refT, h0, Bool.true_and]
  exact decide_eq_true (by omega)
end Go.Dm
end

section
/-
  Reading: what a reader has left; items as the program and as the document read them. No condition.
-/
namespace Go.Dm
open Go

def Rd.take (r : Rd) : Nd × Bool := if r.node.2.l || !rightNodeR r.node.1 then (⟨0, 0, 0, []⟩, false) else (r.node.1, true)
/-- Items as the program reads them: what is no node is an empty one. -/
def Rd.itemsP : Nat → Rd → List It
  | 0, _ => []
  | n + 1, r => if r.l then [] else ⟨r.text.1, r.text.2.take.1⟩ :: Rd.itemsP n r.text.2.node.2
/-- Items as the document reads them: what is no node ends it. -/
def Rd.itemsR : Nat → Rd → Option (List It × Rd)
  | 0, r => some ([], r)
  | n + 1, r => if r.l then some ([], r) else if r.text.2.take.2 then
      match Rd.itemsR n r.text.2.node.2 with
      | some (t, q) => some (⟨r.text.1, r.text.2.take.1⟩ :: t, q)
      | none => none
    else none
end Go.Dm
end

section
/-
  Reading a tree: what the program reads and what the document reads is one. No condition.
-/
namespace Go.Dm
open Go

/-- What the program reads. -/
def readP (z : List UInt8) : List It := let c := (Rd.mk z false).num 2; Rd.itemsP c.1 c.2
def readOk (z : List UInt8) : Bool := rightT (readP z) && (layTree (readP z) == z)
def readT (z : List UInt8) : List It × Int := if readOk z then (readP z, 0) else ([], 2)
/-- What the document reads. -/
def refRead (z : List UInt8) : List It × Int :=
  let c := (Rd.mk z false).num 2
  match Rd.itemsR c.1 c.2 with
  | none => ([], 2)
  | some (t, q) => if q.l || (decide ((0 : Int) < q.b.length) || !refT t) then ([], 2) else (t, 0)
end Go.Dm
end

section
/-
  Changes' bytes: which changes may be, as the document asks it; what is read. No condition beyond times that are words of 64 bits.
-/
namespace Go.Dm
open Go

/-- Which changes may be, as the document asks it. -/
def mayR (c : Ch) : Bool :=
  !(c.p == []) && (isPathR c.p && ((sameNd c.o nd0 || rightNodeR c.o) && ((sameNd c.n nd0 || rightNodeR c.n) && (!(sameNd c.o nd0 && sameNd c.n nd0) && (!(!sameNd c.o nd0 && (!sameNd c.n nd0 && sameNd c.o c.n)) && c.k == kindR c.o c.n (!sameNd c.o nd0) (!sameNd c.n nd0))))))
def refFrom : Option (List UInt8) → List Ch → Bool
  | _, [] => true
  | q, c :: l => mayR c && aheadOf q c.p && refFrom (some c.p) l
theorem zero_eq {n : Nd} (h : zeroN n = true) : n = nd0 := by
  unfold zeroN at h
  simp only [Bool.and_eq_true, beq_iff_eq] at h
  obtain ⟨⟨⟨h1, h2⟩, h3⟩, h4⟩ := h
  have h5 : n.d = [] := List.eq_nil_of_length_eq_zero (by simpa using h4)
  cases n
  simp only at h1 h2 h3 h5
  subst h1 h2 h3 h5
  rfl
theorem bitsF_zero {x : Nat} (h : bitsF x = 0) : x = 0 := by
  unfold bitsF at h
  split at h
  · exact absurd h (by decide)
  · exact h
theorem same_zero (n : Nd) : sameNd n nd0 = zeroN n := by
  rw [Bool.eq_iff_iff]
  constructor
  · intro h
    unfold sameNd at h
    simp only [Bool.and_eq_true, beq_iff_eq] at h
    obtain ⟨⟨⟨h1, h2⟩, h3⟩, h4⟩ := h
    have h5 : bitsF n.t = 0 := h4.trans (by decide)
    have h6 := bitsF_zero h5
    unfold zeroN
    rw [h1, h2, h3, h6]; rfl
  · intro h
    rw [zero_eq h]; exact sameNd_refl nd0
theorem right_nz {n : Nd} (h : rightNodeR n = true) : zeroN n = false := by
  cases hz : zeroN n
  · rfl
  · rw [zero_eq hz] at h
    exact absurd h (by decide)
theorem mayC_ref {c : Ch} (ho : c.o.wf) (hn : c.n.wf) : mayC c = mayR c := by
  unfold mayC mayR
  rw [same_zero, same_zero]
  have hs := ndSame_eq ho hn
  cases hp : (c.p == [])
  · cases hi : isPathR c.p
    · simp
    · cases zo : zeroN c.o <;> cases zn : zeroN c.n <;> cases ro : rightNodeR c.o <;> cases rn : rightNodeR c.n
      all_goals first | (rw [right_nz ro] at zo; cases zo; done) | (rw [right_nz rn] at zn; cases zn; done) | skip
      all_goals simp only [Bool.not_true, Bool.not_false, Bool.true_and, Bool.and_true, Bool.false_and, Bool.and_false, Bool.true_or, Bool.false_or, Bool.or_true, Bool.or_false, kindR, if_true, Bool.false_eq_true, if_false]
      all_goals (unfold kindF; rw [hs]; cases k1 : (c.k == 1) <;> cases k2 : (c.k == 2))
      all_goals first
        | (have e1 := eq_of_beq k1; have e2 := eq_of_beq k2; omega)
        | (have e1 := eq_of_beq k1; simp [e1]; done)
        | (have e2 := eq_of_beq k2; simp [e2]; done)
        | skip
      all_goals simp only [Bool.not_true, Bool.not_false, Bool.true_and, Bool.and_true, Bool.false_and, Bool.and_false, Bool.true_or, Bool.false_or, Bool.or_true, Bool.or_false, if_true, Bool.false_eq_true, if_false]
      all_goals first
        | (rename_i h; done)
        | skip
      all_goals (cases hq : sameNd c.o c.n <;> simp only [if_true, Bool.false_eq_true, if_false, Bool.not_true, Bool.not_false, Bool.true_and, Bool.false_and])
      all_goals first
        | (rw [Bool.eq_iff_iff]; simp only [Bool.and_eq_true, beq_iff_eq, Bool.not_eq_true', beq_eq_false_iff_ne]; constructor <;> (intro h; (repeat' split at h) <;> (try split) <;> simp_all; try omega))
        | skip
  · simp
end Go.Dm
end

section
/-
  Changes' bytes: laid, read; what the program reads and what the document reads is one. No condition beyond times that are words of 64 bits.
-/
namespace Go.Dm
open Go

theorem refFrom_eq : ∀ {l : List Ch} {q : Option (List UInt8)}, (∀ c ∈ l, c.o.wf ∧ c.n.wf) → rightFrom q l = refFrom q l
  | [], _, _ => rfl
  | c :: l, q, h => by
    rw [rightFrom, refFrom, mayC_ref (h c List.mem_cons_self).1 (h c List.mem_cons_self).2, refFrom_eq fun d hd => h d (List.mem_cons_of_mem _ hd)]
def rightCs (l : List Ch) : Bool := rightFrom none l
def refCs (l : List Ch) : Bool := refFrom none l
theorem rightCs_ref {l : List Ch} (h : ∀ c ∈ l, c.o.wf ∧ c.n.wf) : rightCs l = refCs l := refFrom_eq h
def layCh (x : Ch) : List UInt8 := textF x.p ++ (byteI x.k 0 :: ((if x.k == 1 then [] else layNode x.o) ++ (if x.k == 2 then [] else layNode x.n)))
def layChs (l : List Ch) : List UInt8 := u16F l.length ++ (l.map layCh).flatten
def Rd.opt (r : Rd) (b : Bool) : Nd × Rd := if b then (nd0, r) else (r.take.1, r.node.2)
def Rd.optOk (r : Rd) (b : Bool) : Bool := b || r.take.2
def Rd.chP (r : Rd) : Ch × Rd :=
  let p := r.text
  let k := p.2.num 1
  let o := k.2.opt ((k.1 : Int) == 1)
  let n := o.2.opt ((k.1 : Int) == 2)
  (⟨p.1, k.1, o.1, n.1⟩, n.2)
def Rd.chOk (r : Rd) : Bool :=
  let k := r.text.2.num 1
  k.2.optOk ((k.1 : Int) == 1) && (k.2.opt ((k.1 : Int) == 1)).2.optOk ((k.1 : Int) == 2)
/-- Changes as the program reads them: what is no node is an empty one. -/
def Rd.chsP : Nat → Rd → List Ch
  | 0, _ => []
  | n + 1, r => if r.l then [] else r.chP.1 :: Rd.chsP n r.chP.2
/-- Changes as the document reads them: what is no node ends it. -/
def Rd.chsR : Nat → Rd → Option (List Ch × Rd)
  | 0, r => some ([], r)
  | n + 1, r => if r.l then some ([], r) else if r.chOk then
      match Rd.chsR n r.chP.2 with
      | some (t, q) => some (r.chP.1 :: t, q)
      | none => none
    else none
def okCh (x : Ch) : Prop := x.p.length ≤ 65535 ∧ (x.o.t < 18446744073709551616 ∧ x.o.d.length ≤ 65535) ∧ (x.n.t < 18446744073709551616 ∧ x.n.d.length ≤ 65535) ∧ 0 ≤ x.k ∧ x.k < 256
/-- What the program reads. -/
def readC (z : List UInt8) : List Ch := let c := (Rd.mk z false).num 2; Rd.chsP c.1 c.2
def readCOk (z : List UInt8) : Bool := rightCs (readC z) && (layChs (readC z) == z)
def readCs (z : List UInt8) : List Ch × Int := if readCOk z then (readC z, 0) else ([], 2)
/-- What the document reads. -/
def refReadC (z : List UInt8) : List Ch × Int :=
  let c := (Rd.mk z false).num 2
  match Rd.chsR c.1 c.2 with
  | none => ([], 2)
  | some (t, q) => if q.l || (decide ((0 : Int) < q.b.length) || !refCs t) then ([], 2) else (t, 0)
end Go.Dm
end
