/-
  Bytes of trees and of changes: plain laws. No condition.
-/
import Derived.Test.YtfiopamaiolfhaaGreatDoorSC
set_option linter.unusedSimpArgs false
set_option linter.unusedVariables false

section
/-
  Numbers as bytes, the highest first; a node's bytes. No condition.
-/
namespace Go.Dm
open Go

theorem wrap_u8_range (z : Int) : 0 ≤ IntKind.u8.wrap z ∧ IntKind.u8.wrap z ≤ 255 := ⟨of_eq_true (wrap_u8_lo z), of_eq_true (wrap_u8_hi z)⟩
theorem encB_snoc (B : List UInt8) (z : Int) : encB B ++ [[.i .u8 (IntKind.u8.wrap z)]] = encB (B ++ [UInt8.ofNat (IntKind.u8.wrap z).toNat]) := by
  obtain ⟨h1, h2⟩ := wrap_u8_range z
  have : ((UInt8.ofNat (IntKind.u8.wrap z).toNat).toNat : Int) = IntKind.u8.wrap z := by
    have : (UInt8.ofNat (IntKind.u8.wrap z).toNat).toNat = (IntKind.u8.wrap z).toNat := by
      show _ % 256 = _
      exact Nat.mod_eq_of_lt (by omega)
    rw [this]; omega
  simp only [encB, List.map_append, List.map_cons, List.map_nil, this]
theorem encB_one1 (z : Int) : [[PV.i .u8 (IntKind.u8.wrap z)]] = encB [UInt8.ofNat (IntKind.u8.wrap z).toNat] := by
  have := encB_snoc [] z
  simpa [encB] using this
def byteI (z : Int) (k : Nat) : UInt8 := UInt8.ofNat (IntKind.u8.wrap ((IntKind.u64.wrap z).fdiv (2 ^ k))).toNat
def u16F (z : Int) : List UInt8 := [byteI z 8, byteI z 0]
def textF (b : List UInt8) : List UInt8 := u16F b.length ++ b
def layNode (n : Nd) : List UInt8 := byteI n.k 0 :: (u16F n.m ++ (bytesF n.t ++ textF n.d))
def layItem (x : It) : List UInt8 := textF x.p ++ layNode x.n
def layTree (t : List It) : List UInt8 := u16F t.length ++ (t.map layItem).flatten

/-! Bytes read as numbers. -/
def natOf (b : List UInt8) : Nat := b.foldl (fun v c => v * 256 + c.toNat) 0
theorem byteI_nat {z : Int} (h0 : 0 ≤ z) (h1 : z < 18446744073709551616) (k : Nat) : (byteI z k).toNat = z.toNat / 2 ^ k % 256 := by
  have hw : IntKind.u64.wrap z = z := by
    simp only [IntKind.wrap, IntKind.bits, IntKind.signed, Bool.false_and]
    split <;> rename_i h
    · simp at h
    · exact Int.emod_eq_of_lt h0 h1
  have := byteF_nat z.toNat k
  unfold byteF at this
  unfold byteI
  rw [hw]
  have e : ((z.toNat : Nat) : Int) = z := by omega
  rw [e] at this
  exact this
theorem natOf_u16 {z : Int} (h0 : 0 ≤ z) (h1 : z < 65536) : natOf (u16F z) = z.toNat := by
  have e8 := byteI_nat h0 (by omega) 8
  have e0 := byteI_nat h0 (by omega) 0
  simp only [natOf, u16F, List.foldl_cons, List.foldl_nil]
  rw [e8, e0]
  simp only [show (2 : Nat) ^ 8 = 256 from rfl, show (2 : Nat) ^ 0 = 1 from rfl]
  omega
theorem natOf_u8 {z : Int} (h0 : 0 ≤ z) (h1 : z < 256) : natOf [byteI z 0] = z.toNat := by
  have e0 := byteI_nat h0 (by omega) 0
  simp only [natOf, List.foldl_cons, List.foldl_nil]
  rw [e0]
  simp only [show (2 : Nat) ^ 0 = 1 from rfl]
  omega
theorem natOf_f64 {x : Nat} (h : x < 18446744073709551616) : natOf (bytesF x) = x := by
  simp only [natOf, bytesF, List.foldl_cons, List.foldl_nil, byteF_nat]
  simp only [show (2 : Nat) ^ 56 = 72057594037927936 from rfl, show (2 : Nat) ^ 48 = 281474976710656 from rfl, show (2 : Nat) ^ 40 = 1099511627776 from rfl, show (2 : Nat) ^ 32 = 4294967296 from rfl, show (2 : Nat) ^ 24 = 16777216 from rfl, show (2 : Nat) ^ 16 = 65536 from rfl, show (2 : Nat) ^ 8 = 256 from rfl, show (2 : Nat) ^ 0 = 1 from rfl, Nat.div_one]
  omega
/-- What a reader has left, and whether something was taken beyond the end. -/
structure Rd where
  b : List UInt8
  l : Bool
def Rd.raw (r : Rd) (n : Nat) : List UInt8 × Rd := if r.l || decide (r.b.length < n) then ([], ⟨[], true⟩) else (r.b.take n, ⟨r.b.drop n, false⟩)
def Rd.num (r : Rd) (n : Nat) : Nat × Rd := (natOf (r.raw n).1, (r.raw n).2)
def Rd.text (r : Rd) : List UInt8 × Rd := (r.num 2).2.raw (r.num 2).1
def Rd.node (r : Rd) : Nd × Rd :=
  let k := r.num 1
  let m := k.2.num 2
  let t := m.2.num 8
  let d := t.2.text
  (⟨k.1, m.1, t.1, d.1⟩, d.2)
theorem raw_app {a r : List UInt8} {n : Nat} (h : a.length = n) : (Rd.mk (a ++ r) false).raw n = (a, ⟨r, false⟩) := by
  subst h
  unfold Rd.raw
  rw [if_neg (by simp)]
  simp
theorem num_u8 {z : Int} (h0 : 0 ≤ z) (h1 : z < 256) (r : List UInt8) : (Rd.mk (byteI z 0 :: r) false).num 1 = (z.toNat, ⟨r, false⟩) := by
  have := raw_app (a := [byteI z 0]) (r := r) (n := 1) rfl
  unfold Rd.num
  rw [show byteI z 0 :: r = [byteI z 0] ++ r from rfl, this, natOf_u8 h0 h1]
theorem num_u16 {z : Int} (h0 : 0 ≤ z) (h1 : z < 65536) (r : List UInt8) : (Rd.mk (u16F z ++ r) false).num 2 = (z.toNat, ⟨r, false⟩) := by
  have := raw_app (a := u16F z) (r := r) (n := 2) rfl
  unfold Rd.num
  rw [this, natOf_u16 h0 h1]
theorem num_f64 {x : Nat} (h : x < 18446744073709551616) (r : List UInt8) : (Rd.mk (bytesF x ++ r) false).num 8 = (x, ⟨r, false⟩) := by
  have := raw_app (a := bytesF x) (r := r) (n := 8) rfl
  unfold Rd.num
  rw [this, natOf_f64 h]
theorem text_app {b : List UInt8} (h : b.length < 65536) (r : List UInt8) : (Rd.mk (textF b ++ r) false).text = (b, ⟨r, false⟩) := by
  unfold Rd.text textF
  rw [List.append_assoc, num_u16 (by omega) (by omega)]
  exact raw_app (by omega)
/-- A node's bytes read back are the node. -/
theorem node_app {n : Nd} (hk : 0 ≤ n.k ∧ n.k < 256) (hm : 0 ≤ n.m ∧ n.m < 65536) (ht : n.t < 18446744073709551616) (hd : n.d.length < 65536) (r : List UInt8) : (Rd.mk (layNode n ++ r) false).node = (n, ⟨r, false⟩) := by
  unfold Rd.node layNode
  simp only [List.cons_append, List.append_assoc, num_u8 hk.1 hk.2, num_u16 hm.1 hm.2, num_f64 ht, text_app hd]
  have e1 : ((n.k.toNat : Nat) : Int) = n.k := by omega
  have e2 : ((n.m.toNat : Nat) : Int) = n.m := by omega
  simp only [e1, e2]
/-- Items read one behind the other. -/
def Rd.items : Nat → Rd → List It × Rd
  | 0, r => ([], r)
  | n + 1, r =>
    if r.l then ([], r) else
      let p := r.text
      let x := p.2.node
      let y := Rd.items n x.2
      (⟨p.1, x.1⟩ :: y.1, y.2)
def okItem (x : It) : Prop := x.p.length < 65536 ∧ (0 ≤ x.n.k ∧ x.n.k < 256) ∧ (0 ≤ x.n.m ∧ x.n.m < 65536) ∧ x.n.t < 18446744073709551616 ∧ x.n.d.length < 65536
theorem rightNode_ok {n : Nd} (h : rightNodeR n = true) : (0 ≤ n.k ∧ n.k < 256) ∧ (0 ≤ n.m ∧ n.m < 65536) ∧ n.d.length < 65536 := by
  have hd := rightNodeR_len h
  unfold rightNodeR at h
  simp only [Bool.and_eq_true, Bool.not_eq_true', Bool.or_eq_false_iff, decide_eq_false_iff_not] at h
  obtain ⟨⟨⟨h1, h2⟩, _⟩, h3⟩ := h
  refine ⟨?_, ⟨by omega, by omega⟩, by omega⟩
  split at h3
  · rename_i hk; have := eq_of_beq hk; omega
  · split at h3
    · rename_i hk; have := eq_of_beq hk; omega
    · split at h3
      · rename_i hk; have := eq_of_beq hk; omega
      · cases h3
theorem OkT.okItems {t : List It} (h : OkT t) : ∀ x ∈ t, okItem x := fun x hx => by
  obtain ⟨_, h2, h3, h4⟩ := h.its x hx
  obtain ⟨a, b, c⟩ := rightNode_ok h3
  exact ⟨by have := isPathR_len h2; omega, a, b, h4, c⟩
end Go.Dm
end

section
/-
  Which lists of items are right trees, as the program and the document ask it. No condition.
-/
namespace Go.Dm
open Go

def aheadT (pre : List It) (p : List UInt8) : Bool := match pre.getLast? with
  | some y => bltL y.p p
  | none => true
def rightStep (pre : List It) (x : It) : Bool := !(x.p == []) && (isPathR x.p && (aheadT pre x.p && (rightNodeR x.n && isDirR pre (dirOfR x.p))))
def rightGo : List It → List It → Bool
  | _, [] => true
  | pre, x :: r => rightStep pre x && rightGo (pre ++ [x]) r
def rightT (t : List It) : Bool := rightGo [] t && decide ((t.length : Int) ≤ 120)
theorem getLast_take {t : List It} {k : Nat} (hk : 0 < k) (hl : k ≤ t.length) : (t.take k).getLast? = t[k - 1]? := by
  rw [List.getLast?_eq_getElem?, List.length_take, Nat.min_eq_left hl, List.getElem?_take, if_pos (by omega)]
theorem srt_snoc {t : List It} {x : It} (h : Srt t) (ha : aheadT t x.p = true) : Srt (t ++ [x]) := by
  refine List.pairwise_append.2 ⟨h, by simp, fun y hy z hz => ?_⟩
  have : z = x := by simpa using hz
  subst this
  unfold aheadT at ha
  cases hl : t.getLast? with
  | none =>
    have : t = [] := by simpa using hl
    subst this; cases hy
  | some w =>
    rw [hl] at ha
    simp only at ha
    obtain ⟨s, rfl⟩ := List.getLast?_eq_some_iff.1 hl
    rcases List.mem_append.1 hy with hy | hy
    · have := (List.pairwise_append.1 h).2.2 y hy w (by simp)
      exact blt_trans this ha
    · have : y = w := by simpa using hy
      rw [this]; exact ha
/-- A list that is right in this sense is a right tree. -/
theorem rightGo_ok : ∀ {r pre : List It}, Srt pre → (∀ x ∈ pre, OkI x) → (∀ x ∈ r, x.n.t < 18446744073709551616) → (∀ x ∈ pre, isDirR pre (dirOfR x.p) = true) → rightGo pre r = true → Srt (pre ++ r) ∧ (∀ x ∈ pre ++ r, OkI x) ∧ ∀ x ∈ pre ++ r, isDirR (pre ++ r) (dirOfR x.p) = true
  | [], pre, hs, ho, _, hp, _ => by rw [List.append_nil]; exact ⟨hs, ho, hp⟩
  | x :: r, pre, hs, ho, ht, hp, h => by
    rw [rightGo, Bool.and_eq_true] at h
    obtain ⟨h1, h2⟩ := h
    simp only [rightStep, Bool.and_eq_true, Bool.not_eq_true'] at h1
    obtain ⟨a1, a2, a3, a4, a5⟩ := h1
    have hs2 : Srt (pre ++ [x]) := srt_snoc hs a3
    have up : ∀ p, isDirR pre p = true → isDirR (pre ++ [x]) p = true := by
      intro p hd
      by_cases hp0 : p = []
      · subst hp0; rfl
      · obtain ⟨m, k1, k2⟩ := isDir_some hp0 hd
        obtain ⟨y, hy, hyp, hyn⟩ := getR_mem k1
        have := getR_self hs2 (List.mem_append_left [x] hy)
        rw [hyp] at this
        exact isDir_mk this (by rw [hyn]; exact k2)
    have := rightGo_ok (r := r) (pre := pre ++ [x]) hs2 (fun y hy => by
      rcases List.mem_append.1 hy with hy | hy
      · exact ho y hy
      · have : y = x := by simpa using hy
        subst this
        exact ⟨by simpa using a1, a2, a4, ht y List.mem_cons_self⟩) (fun y hy => ht y (List.mem_cons_of_mem _ hy)) (fun y hy => by
      rcases List.mem_append.1 hy with hy | hy
      · exact up _ (hp y hy)
      · have : y = x := by simpa using hy
        subst this; exact up _ a5) h2
    rw [List.append_assoc] at this
    exact this
theorem rightT_ok {t : List It} (ht : ∀ x ∈ t, x.n.t < 18446744073709551616) (h : rightT t = true) : OkT t := by
  unfold rightT at h
  rw [Bool.and_eq_true, decide_eq_true_eq] at h
  obtain ⟨h1, h2⟩ := h
  have := rightGo_ok (r := t) (pre := []) List.Pairwise.nil (fun x hx => by cases hx) ht (fun x hx => by cases hx) h1
  rw [List.nil_append] at this
  exact ⟨⟨this.1, this.2.1, by omega⟩, this.2.2⟩
theorem rightGo_of {t : List It} (h : OkT t) : ∀ k, k ≤ t.length → rightGo (t.take k) (t.drop k) = true := by
  have key : ∀ n k, t.length - k ≤ n → k ≤ t.length → rightGo (t.take k) (t.drop k) = true := by
    intro n
    induction n with
    | zero =>
      intro k h1 h2
      rw [List.drop_of_length_le (by omega)]; rfl
    | succ n ih =>
      intro k h1 h2
      by_cases hlt : k < t.length
      · have hx : t[k]? = some t[k] := List.getElem?_eq_getElem hlt
        rw [List.drop_eq_getElem_cons hlt, rightGo]
        have hn := ih (k + 1) (by omega) (by omega)
        rw [List.take_add_one, hx] at hn
        obtain ⟨i1, i2, i3, _⟩ := h.its _ (List.getElem_mem hlt)
        have hd := isDir_take h hx
        have ha : aheadT (t.take k) t[k].p = true := by
          unfold aheadT
          by_cases h0 : 0 < k
          · rw [getLast_take h0 (by omega), List.getElem?_eq_getElem (by omega)]
            exact List.pairwise_iff_getElem.1 h.srt (k - 1) k (by omega) hlt (by omega)
          · have : k = 0 := by omega
            subst this; rfl
        have i1' : (t[k].p == []) = false := by simpa using i1
        rw [rightStep, i1', i2, ha, i3, hd]
        exact hn
      · rw [List.drop_of_length_le (by omega)]; rfl
  exact fun k hk => key _ k (Nat.le_refl _) hk
theorem rightT_of {t : List It} (h : OkT t) : rightT t = true := by
  have := rightGo_of h 0 (Nat.zero_le _)
  have hl := h.len
  simp only [List.take_zero, List.drop_zero] at this
  rw [rightT, this, Bool.true_and]
  exact decide_eq_true (by omega)
end Go.Dm
end

section
/-
  Reading: what a reader has left; items as the program and as the document read them. No condition.
-/
namespace Go.Dm
open Go

theorem Rd.len_raw (r : Rd) (n : Nat) : (r.raw n).2.b.length ≤ r.b.length := by
  unfold Rd.raw
  split
  · exact Nat.zero_le _
  · simp
theorem Rd.len_num (r : Rd) (n : Nat) : (r.num n).2.b.length ≤ r.b.length := r.len_raw n
theorem Rd.len_text (r : Rd) : r.text.2.b.length ≤ r.b.length := Nat.le_trans ((r.num 2).2.len_raw _) (r.len_num 2)
theorem Rd.len_node (r : Rd) : r.node.2.b.length ≤ r.b.length :=
  Nat.le_trans (Rd.len_text _) (Nat.le_trans (Rd.len_num _ 8) (Nat.le_trans (Rd.len_num _ 2) (r.len_num 1)))
theorem natOf_snoc (l : List UInt8) (c : UInt8) : natOf (l ++ [c]) = natOf l * 256 + c.toNat := by simp [natOf]
theorem natOf_lt (l : List UInt8) : natOf l < 256 ^ l.length := by
  suffices h : ∀ (n : Nat) (l : List UInt8), l.length = n → natOf l < 256 ^ n from h _ l rfl
  intro n
  induction n with
  | zero => intro l hl; rw [List.eq_nil_of_length_eq_zero hl]; decide
  | succ n ih =>
    intro l hl
    have hne : l ≠ [] := fun h => by simp [h] at hl
    obtain ⟨l', c, rfl⟩ : ∃ l' c, l = l' ++ [c] := ⟨l.dropLast, l.getLast hne, (List.dropLast_concat_getLast hne).symm⟩
    have h1 := ih l' (by simpa using hl)
    have h2 : c.toNat < 256 := c.toNat_lt
    rw [natOf_snoc, Nat.pow_succ]
    omega
theorem Rd.raw_le (r : Rd) (n : Nat) : (r.raw n).1.length ≤ n := by
  unfold Rd.raw
  split
  · exact Nat.zero_le _
  · simp only [List.length_take]; omega
theorem pow256_mono {a b : Nat} (h : a ≤ b) : 256 ^ a ≤ 256 ^ b := Nat.pow_le_pow_right (by omega) h
theorem Rd.num_lt (r : Rd) (n : Nat) : (r.num n).1 < 256 ^ n := Nat.lt_of_lt_of_le (natOf_lt _) (pow256_mono (r.raw_le n))
theorem Rd.num_lt1 (r : Rd) : (r.num 1).1 < 256 := r.num_lt 1
theorem Rd.num_lt2 (r : Rd) : (r.num 2).1 < 65536 := r.num_lt 2
theorem Rd.num_lt8 (r : Rd) : (r.num 8).1 < 18446744073709551616 := r.num_lt 8
theorem natOf_take_lt {z : List UInt8} {k : Nat} (hz : z.length ≤ 8) (hk : k < z.length) : natOf (z.take k) < 72057594037927936 := by
  have h1 := natOf_lt (z.take k)
  have h2 : (z.take k).length ≤ 7 := by rw [List.length_take]; omega
  have h3 := pow256_mono h2
  have : (256 : Nat) ^ 7 = 72057594037927936 := by decide
  omega
theorem wrap_u64_nat {v : Nat} (h : v < 18446744073709551616) : IntKind.u64.wrap (v : Int) = v := by
  simp only [IntKind.wrap, IntKind.bits, IntKind.signed, Bool.false_and]
  split <;> rename_i h'
  · simp at h'
  · exact Int.emod_eq_of_lt (by omega) (by omega)
theorem or_shift {v c : Nat} (hv : v < 72057594037927936) (hc : c < 256) : Dm.bits .or .u64 (IntKind.u64.wrap ((v : Int) * 2 ^ 8)) (c : Int) = (v * 256 + c : Nat) := by
  have e0 : IntKind.u64.wrap ((v : Int) * 2 ^ 8) = (v * 256 : Nat) := by
    rw [show (v : Int) * 2 ^ 8 = ((v * 256 : Nat) : Int) by omega, wrap_u64_nat (by omega)]
  rw [e0]
  unfold Dm.bits
  simp only
  have e1 : (BitVec.ofInt IntKind.u64.bits ((v * 256 : Nat) : Int) ||| BitVec.ofInt IntKind.u64.bits ((c : Nat) : Int)).toNat = v * 256 + c := by
    rw [BitVec.toNat_or]
    have f1 : (BitVec.ofInt IntKind.u64.bits ((v * 256 : Nat) : Int)).toNat = v * 256 := by
      rw [BitVec.ofInt_natCast, BitVec.toNat_ofNat]
      exact Nat.mod_eq_of_lt (by show v * 256 < 2 ^ 64; omega)
    have f2 : (BitVec.ofInt IntKind.u64.bits ((c : Nat) : Int)).toNat = c := by
      rw [BitVec.ofInt_natCast, BitVec.toNat_ofNat]
      exact Nat.mod_eq_of_lt (by show c < 2 ^ 64; omega)
    rw [f1, f2]
    have := Nat.shiftLeft_add_eq_or_of_lt (i := 8) (b := c) (by simpa using hc) v
    rw [Nat.shiftLeft_eq] at this
    have e : (2 : Nat) ^ 8 = 256 := by decide
    rw [e] at this
    omega
  rw [e1]
  exact wrap_u64_nat (by omega)
theorem Rd.text_le (r : Rd) : r.text.1.length ≤ 65535 := by
  have h1 := r.num_lt2
  have h2 := (r.num 2).2.raw_le (r.num 2).1
  unfold Rd.text
  omega
def Rd.take (r : Rd) : Nd × Bool := if r.node.2.l || !rightNodeR r.node.1 then (⟨0, 0, 0, []⟩, false) else (r.node.1, true)
/-- Items as the program reads them: what is no node is an empty one. -/
def Rd.itemsP : Nat → Rd → List It
  | 0, _ => []
  | n + 1, r => if r.l then [] else ⟨r.text.1, r.text.2.take.1⟩ :: Rd.itemsP n r.text.2.node.2
/-- Items as the document reads them: what is no node ends it. -/
def Rd.itemsR : Nat → Rd → Option (List It × Rd)
  | 0, r => some ([], r)
  | n + 1, r => if r.l then some ([], r) else if r.text.2.take.2 then
      match Rd.itemsR n r.text.2.node.2 with
      | some (t, q) => some (⟨r.text.1, r.text.2.take.1⟩ :: t, q)
      | none => none
    else none
theorem u16F_len (z : Int) : (u16F z).length = 2 := rfl
theorem layNode_len (n : Nd) : (layNode n).length = 13 + n.d.length := by
  simp only [layNode, textF, List.length_cons, List.length_append, u16F_len, show (bytesF n.t).length = 8 from rfl]; omega
theorem layItem_len (x : It) : (layItem x).length = 15 + x.p.length + x.n.d.length := by
  simp only [layItem, textF, List.length_append, u16F_len, layNode_len]; omega
theorem it_nd_eta (x : Nd) : Nd.mk x.k x.m x.t x.d = x := rfl
end Go.Dm
end

section
/-
  Reading a tree: what the program reads and what the document reads is one. No condition.
-/
namespace Go.Dm
open Go

theorem u8_eq {a b : UInt8} (h : a.toNat = b.toNat) : a = b := UInt8.toNat_inj.1 h
theorem u16F_natOf {l : List UInt8} (h : l.length = 2) : u16F ((natOf l : Nat) : Int) = l := by
  match l, h with
  | [a, b], _ =>
    have ha : a.toNat < 256 := a.toNat_lt
    have hb : b.toNat < 256 := b.toNat_lt
    have hn : natOf [a, b] = a.toNat * 256 + b.toNat := by simp [natOf]
    rw [hn]
    have e8 := byteI_nat (z := ((a.toNat * 256 + b.toNat : Nat) : Int)) (by omega) (by omega) 8
    have e0 := byteI_nat (z := ((a.toNat * 256 + b.toNat : Nat) : Int)) (by omega) (by omega) 0
    rw [Int.toNat_natCast] at e8 e0
    simp only [show (2 : Nat) ^ 8 = 256 from rfl, show (2 : Nat) ^ 0 = 1 from rfl] at e8 e0
    have h1 : byteI ((a.toNat * 256 + b.toNat : Nat) : Int) 8 = a := u8_eq (by omega)
    have h2 : byteI ((a.toNat * 256 + b.toNat : Nat) : Int) 0 = b := u8_eq (by omega)
    rw [u16F, h1, h2]
theorem byteI_natOf {l : List UInt8} (h : l.length = 1) : [byteI ((natOf l : Nat) : Int) 0] = l := by
  match l, h with
  | [a], _ =>
    have ha : a.toNat < 256 := a.toNat_lt
    have hn : natOf [a] = a.toNat := by simp [natOf]
    rw [hn]
    have e0 := byteI_nat (z := ((a.toNat : Nat) : Int)) (by omega) (by omega) 0
    rw [Int.toNat_natCast] at e0
    simp only [show (2 : Nat) ^ 0 = 1 from rfl] at e0
    have h1 : byteI ((a.toNat : Nat) : Int) 0 = a := u8_eq (by omega)
    rw [h1]
theorem bytesF_natOf {l : List UInt8} (h : l.length = 8) : bytesF (natOf l) = l := by
  match l, h with
  | [a, b, c, d, e, f, g, i], _ =>
    have ha : a.toNat < 256 := a.toNat_lt
    have hb : b.toNat < 256 := b.toNat_lt
    have hc : c.toNat < 256 := c.toNat_lt
    have hd : d.toNat < 256 := d.toNat_lt
    have he : e.toNat < 256 := e.toNat_lt
    have hf : f.toNat < 256 := f.toNat_lt
    have hg : g.toNat < 256 := g.toNat_lt
    have hi : i.toNat < 256 := i.toNat_lt
    simp only [bytesF, natOf, List.foldl_cons, List.foldl_nil, List.cons.injEq, and_true]
    refine ⟨?_, ?_, ?_, ?_, ?_, ?_, ?_, ?_⟩ <;> (apply u8_eq; rw [byteF_nat]; simp only [show (2 : Nat) ^ 56 = 72057594037927936 from rfl, show (2 : Nat) ^ 48 = 281474976710656 from rfl, show (2 : Nat) ^ 40 = 1099511627776 from rfl, show (2 : Nat) ^ 32 = 4294967296 from rfl, show (2 : Nat) ^ 24 = 16777216 from rfl, show (2 : Nat) ^ 16 = 65536 from rfl, show (2 : Nat) ^ 8 = 256 from rfl, show (2 : Nat) ^ 0 = 1 from rfl]; omega)
theorem raw_inv {r : Rd} {n : Nat} (h : (r.raw n).2.l = false) : r.l = false ∧ r.b = (r.raw n).1 ++ (r.raw n).2.b ∧ (r.raw n).1.length = n := by
  unfold Rd.raw at h ⊢
  split at h
  · cases h
  · rename_i hc
    rw [if_neg hc]
    simp only [Bool.or_eq_true, decide_eq_true_eq, not_or] at hc
    refine ⟨by simpa using hc.1, (List.take_append_drop n r.b).symm, ?_⟩
    simp only [List.length_take]; omega
theorem text_inv {r : Rd} (h : r.text.2.l = false) : r.l = false ∧ r.b = textF r.text.1 ++ r.text.2.b := by
  unfold Rd.text at h ⊢
  obtain ⟨h1, h2, h3⟩ := raw_inv h
  unfold Rd.num at h1 h2 h3 h ⊢
  obtain ⟨k1, k2, k3⟩ := raw_inv h1
  refine ⟨k1, ?_⟩
  simp only at h2 h3 ⊢
  rw [textF, h3, u16F_natOf k3, List.append_assoc, ← h2, ← k2]
theorem node_inv {r : Rd} (h : r.node.2.l = false) : r.l = false ∧ r.b = layNode r.node.1 ++ r.node.2.b := by
  unfold Rd.node at h ⊢
  simp only at h ⊢
  obtain ⟨h1, h2⟩ := text_inv h
  generalize ((((r.num 1).2.num 2).2.num 8).2).text = x at h h2 ⊢
  unfold Rd.num at h1 h2 ⊢
  simp only at h1 h2 ⊢
  obtain ⟨a1, a2, a3⟩ := raw_inv h1
  obtain ⟨b1, b2, b3⟩ := raw_inv a1
  obtain ⟨c1, c2, c3⟩ := raw_inv b1
  refine ⟨c1, ?_⟩
  have e := byteI_natOf c3
  generalize r.raw 1 = y at *
  generalize y.2.raw 2 = z at *
  generalize z.2.raw 8 = w at *
  unfold layNode
  simp only
  rw [u16F_natOf b3, bytesF_natOf a3, List.cons_append, List.append_assoc, List.append_assoc, ← h2, ← a2, ← b2, c2]
  rw [show ∀ (p : UInt8) (q : List UInt8), p :: q = [p] ++ q from fun _ _ => rfl, e]
theorem take_ok {r : Rd} (h : r.take.2 = true) : r.node.2.l = false ∧ rightNodeR r.node.1 = true ∧ r.take.1 = r.node.1 := by
  unfold Rd.take at h ⊢
  split at h
  · cases h
  · rename_i hc
    rw [if_neg hc]
    simpa using hc
theorem take_of {r : Rd} (h1 : r.node.2.l = false) (h2 : rightNodeR r.node.1 = true) : r.take = (r.node.1, true) := by
  unfold Rd.take
  rw [h1, h2]; rfl
theorem Rd.take_t (r : Rd) : r.take.1.t < 18446744073709551616 := by
  unfold Rd.take
  split
  · decide
  · exact Rd.num_lt8 _
theorem Rd.take_d (r : Rd) : r.take.1.d.length ≤ 65535 := by
  unfold Rd.take
  split
  · decide
  · exact Rd.text_le _
theorem itemsP_len : ∀ (n : Nat) (r : Rd), (Rd.itemsP n r).length ≤ n
  | 0, _ => Nat.le_refl 0
  | n + 1, r => by
    rw [Rd.itemsP]
    split
    · exact Nat.zero_le _
    · exact Nat.succ_le_succ (itemsP_len n _)
theorem itemsP_all : ∀ (n : Nat) (r : Rd), ∀ x ∈ Rd.itemsP n r, x.p.length ≤ 65535 ∧ x.n.t < 18446744073709551616 ∧ x.n.d.length ≤ 65535
  | 0, _, x, hx => by cases hx
  | n + 1, r, x, hx => by
    rw [Rd.itemsP] at hx
    split at hx
    · cases hx
    · rcases List.mem_cons.1 hx with rfl | hx
      · exact ⟨r.text_le, Rd.take_t _, Rd.take_d _⟩
      · exact itemsP_all n _ x hx
theorem itemsR_inv : ∀ {n : Nat} {r q : Rd} {t : List It}, Rd.itemsR n r = some (t, q) → q.l = false → r.l = false ∧ Rd.itemsP n r = t ∧ t.length = n ∧ r.b = (t.map layItem).flatten ++ q.b
  | 0, r, q, t, h, hq => by
    simp only [Rd.itemsR, Option.some.injEq, Prod.mk.injEq] at h
    obtain ⟨rfl, rfl⟩ := h
    exact ⟨hq, rfl, rfl, rfl⟩
  | n + 1, r, q, t, h, hq => by
    rw [Rd.itemsR] at h
    split at h
    · rename_i hl
      simp only [Option.some.injEq, Prod.mk.injEq] at h
      rw [h.2, hq] at hl; cases hl
    · rename_i hl
      split at h
      · rename_i hk
        split at h
        · rename_i t' q' he
          simp only [Option.some.injEq, Prod.mk.injEq] at h
          obtain ⟨rfl, rfl⟩ := h
          obtain ⟨_, k2, k3, k4⟩ := itemsR_inv he hq
          obtain ⟨m1, m2, m3⟩ := take_ok hk
          obtain ⟨n1, n2⟩ := node_inv m1
          obtain ⟨o1, o2⟩ := text_inv n1
          refine ⟨o1, ?_, by rw [List.length_cons, k3], ?_⟩
          · rw [Rd.itemsP, if_neg hl, k2]
          · rw [o2, n2, k4, m3]; simp [layItem]
        · cases h
      · cases h
theorem itemsR_app : ∀ {t : List It} (_ : ∀ x ∈ t, okItem x ∧ rightNodeR x.n = true) (r : List UInt8), Rd.itemsR t.length ⟨(t.map layItem).flatten ++ r, false⟩ = some (t, ⟨r, false⟩)
  | [], _, r => rfl
  | x :: t, h, r => by
    obtain ⟨⟨h1, h2, h3, h4, h5⟩, h6⟩ := h x List.mem_cons_self
    have ih := itemsR_app (t := t) (fun y hy => h y (List.mem_cons_of_mem _ hy)) r
    have hn := node_app h2 h3 h4 h5 ((t.map layItem).flatten ++ r)
    have ht := take_of (r := ⟨layNode x.n ++ ((t.map layItem).flatten ++ r), false⟩) (by rw [hn]) (by rw [hn]; exact h6)
    rw [hn] at ht
    simp only [List.length_cons, Rd.itemsR, List.map_cons, List.flatten_cons, layItem, List.append_assoc, text_app h1, hn, ht, ih, Bool.false_eq_true, if_false, if_true]
/-- What the program reads. -/
def readP (z : List UInt8) : List It := let c := (Rd.mk z false).num 2; Rd.itemsP c.1 c.2
def readOk (z : List UInt8) : Bool := rightT (readP z) && (layTree (readP z) == z)
def readT (z : List UInt8) : List It × Int := if readOk z then (readP z, 0) else ([], 2)
theorem readP_len (z : List UInt8) : (readP z).length ≤ 65535 := by
  have h1 := itemsP_len ((Rd.mk z false).num 2).1 ((Rd.mk z false).num 2).2
  have h2 := (Rd.mk z false).num_lt2
  unfold readP; simp only; omega
theorem readP_all (z : List UInt8) : ∀ x ∈ readP z, x.p.length ≤ 65535 ∧ x.n.t < 18446744073709551616 ∧ x.n.d.length ≤ 65535 := itemsP_all _ _
/-- Of a right tree's bytes. -/
theorem itemsR_lay {t : List It} (h : OkT t) : Rd.itemsR ((Rd.mk (layTree t) false).num 2).1 ((Rd.mk (layTree t) false).num 2).2 = some (t, ⟨[], false⟩) := by
  have hl := h.len
  have k1 := num_u16 (z := t.length) (by omega) (by omega) ((t.map layItem).flatten)
  have e : ((t.length : Int)).toNat = t.length := by omega
  have k2 := itemsR_app (t := t) (fun x hx => ⟨h.okItems x hx, by obtain ⟨_, _, h3, _⟩ := h.its x hx; exact h3⟩) []
  rw [List.append_nil] at k2
  rw [layTree, k1, e]
  exact k2
theorem readP_lay {t : List It} (h : OkT t) : readP (layTree t) = t := (itemsR_inv (itemsR_lay h) rfl).2.1
theorem readT_lay {t : List It} (h : OkT t) : readT (layTree t) = (t, 0) := by
  unfold readT readOk
  rw [readP_lay h, rightT_of h]; simp
theorem flat_len {t : List It} (h : ∀ x ∈ t, x.p.length ≤ 65535 ∧ x.n.d.length ≤ 65535) : (t.map layItem).flatten.length ≤ 140000 * t.length := by
  induction t with
  | nil => simp
  | cons x t ih =>
    obtain ⟨h1, h2⟩ := h x List.mem_cons_self
    have := ih fun y hy => h y (List.mem_cons_of_mem _ hy)
    simp only [List.map_cons, List.flatten_cons, List.length_append, List.length_cons, layItem_len]
    omega
theorem layTree_len {t : List It} (hl : t.length ≤ 1000000) (h : ∀ x ∈ t, x.p.length ≤ 65535 ∧ x.n.d.length ≤ 65535) : (layTree t).length ≤ 140737488355328 := by
  have := flat_len h
  rw [layTree, List.length_append, u16F_len]
  omega
end Go.Dm
end

section
/-
  Changes' bytes: which changes may be, as the document asks it; what is read. No condition beyond times that are words of 64 bits.
-/
namespace Go.Dm
open Go

end Go.Dm
end

section
/-
  Changes' bytes: laid, read; what the program reads and what the document reads is one. No condition beyond times that are words of 64 bits.
-/
namespace Go.Dm
open Go

end Go.Dm
end
