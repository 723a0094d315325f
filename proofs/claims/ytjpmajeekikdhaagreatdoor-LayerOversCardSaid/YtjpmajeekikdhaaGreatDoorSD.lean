/-
  Bytes of trees and of changes: plain laws. No condition.
-/
import Derived.Test.YtjpmajeekikdhaaGreatDoorSC
set_option linter.unusedSimpArgs false
set_option linter.unusedVariables false

section
/-
  Numbers as bytes, the highest first; a node's bytes. No condition.
-/
namespace Go.Dm
open Go

theorem wrap_u8_range (z : Int) : 0 ≤ IntKind.u8.wrap z ∧ IntKind.u8.wrap z ≤ 255 := ⟨of_eq_true (wrap_u8_lo z), of_eq_true (wrap_u8_hi z)⟩
theorem encB_snoc (B : List UInt8) (z : Int) : encB B ++ [[.i .u8 (IntKind.u8.wrap z)]] = encB (B ++ [UInt8.ofNat (IntKind.u8.wrap z).toNat]) := by
  obtain ⟨h1, h2⟩ := wrap_u8_range z
  have : ((UInt8.ofNat (IntKind.u8.wrap z).toNat).toNat : Int) = IntKind.u8.wrap z := by
    have : (UInt8.ofNat (IntKind.u8.wrap z).toNat).toNat = (IntKind.u8.wrap z).toNat := by
      show _ % 256 = _
      exact Nat.mod_eq_of_lt (by omega)
    rw [this]; omega
  simp only [encB, List.map_append, List.map_cons, List.map_nil, this]
theorem encB_one1 (z : Int) : [[PV.i .u8 (IntKind.u8.wrap z)]] = encB [UInt8.ofNat (IntKind.u8.wrap z).toNat] := by
  have := encB_snoc [] z
  simpa [encB] using this
def byteI (z : Int) (k : Nat) : UInt8 := UInt8.ofNat (IntKind.u8.wrap ((IntKind.u64.wrap z).fdiv (2 ^ k))).toNat
def u16F (z : Int) : List UInt8 := [byteI z 8, byteI z 0]
def textF (b : List UInt8) : List UInt8 := u16F b.length ++ b
def layNode (n : Nd) : List UInt8 := byteI n.k 0 :: (u16F n.m ++ (bytesF n.t ++ textF n.d))
/-! Bytes read as numbers. -/
def natOf (b : List UInt8) : Nat := b.foldl (fun v c => v * 256 + c.toNat) 0
theorem byteI_nat {z : Int} (h0 : 0 ≤ z) (h1 : z < 18446744073709551616) (k : Nat) : (byteI z k).toNat = z.toNat / 2 ^ k % 256 := by
  have hw : IntKind.u64.wrap z = z := by
    simp only [IntKind.wrap, IntKind.bits, IntKind.signed, Bool.false_and]
    split <;> rename_i h
    · simp at h
    · exact Int.emod_eq_of_lt h0 h1
  have := byteF_nat z.toNat k
  unfold byteF at this
  unfold byteI
  rw [hw]
  have e : ((z.toNat : Nat) : Int) = z := by omega
  rw [e] at this
  exact this
theorem natOf_u16 {z : Int} (h0 : 0 ≤ z) (h1 : z < 65536) : natOf (u16F z) = z.toNat := by
  have e8 := byteI_nat h0 (by omega) 8
  have e0 := byteI_nat h0 (by omega) 0
  simp only [natOf, u16F, List.foldl_cons, List.foldl_nil]
  rw [e8, e0]
  simp only [show (2 : Nat) ^ 8 = 256 from rfl, show (2 : Nat) ^ 0 = 1 from rfl]
  omega
theorem natOf_u8 {z : Int} (h0 : 0 ≤ z) (h1 : z < 256) : natOf [byteI z 0] = z.toNat := by
  have e0 := byteI_nat h0 (by omega) 0
  simp only [natOf, List.foldl_cons, List.foldl_nil]
  rw [e0]
  simp only [show (2 : Nat) ^ 0 = 1 from rfl]
  omega
theorem natOf_f64 {x : Nat} (h : x < 18446744073709551616) : natOf (bytesF x) = x := by
  simp only [natOf, bytesF, List.foldl_cons, List.foldl_nil, byteF_nat]
  simp only [show (2 : Nat) ^ 56 = 72057594037927936 from rfl, show (2 : Nat) ^ 48 = 281474976710656 from rfl, show (2 : Nat) ^ 40 = 1099511627776 from rfl, show (2 : Nat) ^ 32 = 4294967296 from rfl, show (2 : Nat) ^ 24 = 16777216 from rfl, show (2 : Nat) ^ 16 = 65536 from rfl, show (2 : Nat) ^ 8 = 256 from rfl, show (2 : Nat) ^ 0 = 1 from rfl, Nat.div_one]
  omega
/-- What a reader has left, and whether something was taken beyond the end. -/
structure Rd where
  b : List UInt8
  l : Bool
def Rd.raw (r : Rd) (n : Nat) : List UInt8 × Rd := if r.l || decide (r.b.length < n) then ([], ⟨[], true⟩) else (r.b.take n, ⟨r.b.drop n, false⟩)
def Rd.num (r : Rd) (n : Nat) : Nat × Rd := (natOf (r.raw n).1, (r.raw n).2)
def Rd.text (r : Rd) : List UInt8 × Rd := (r.num 2).2.raw (r.num 2).1
def Rd.node (r : Rd) : Nd × Rd :=
  let k := r.num 1
  let m := k.2.num 2
  let t := m.2.num 8
  let d := t.2.text
  (⟨k.1, m.1, t.1, d.1⟩, d.2)
theorem raw_app {a r : List UInt8} {n : Nat} (h : a.length = n) : (Rd.mk (a ++ r) false).raw n = (a, ⟨r, false⟩) := by
  subst h
  unfold Rd.raw
  rw [if_neg (by simp)]
  simp
theorem num_u8 {z : Int} (h0 : 0 ≤ z) (h1 : z < 256) (r : List UInt8) : (Rd.mk (byteI z 0 :: r) false).num 1 = (z.toNat, ⟨r, false⟩) := by
  have := raw_app (a := [byteI z 0]) (r := r) (n := 1) rfl
  unfold Rd.num
  rw [show byteI z 0 :: r = [byteI z 0] ++ r from rfl, this, natOf_u8 h0 h1]
theorem num_u16 {z : Int} (h0 : 0 ≤ z) (h1 : z < 65536) (r : List UInt8) : (Rd.mk (u16F z ++ r) false).num 2 = (z.toNat, ⟨r, false⟩) := by
  have := raw_app (a := u16F z) (r := r) (n := 2) rfl
  unfold Rd.num
  rw [this, natOf_u16 h0 h1]
theorem num_f64 {x : Nat} (h : x < 18446744073709551616) (r : List UInt8) : (Rd.mk (bytesF x ++ r) false).num 8 = (x, ⟨r, false⟩) := by
  have := raw_app (a := bytesF x) (r := r) (n := 8) rfl
  unfold Rd.num
  rw [this, natOf_f64 h]
theorem text_app {b : List UInt8} (h : b.length < 65536) (r : List UInt8) : (Rd.mk (textF b ++ r) false).text = (b, ⟨r, false⟩) := by
  unfold Rd.text textF
  rw [List.append_assoc, num_u16 (by omega) (by omega)]
  exact raw_app (by omega)
/-- A node's bytes read back are the node. -/
theorem node_app {n : Nd} (hk : 0 ≤ n.k ∧ n.k < 256) (hm : 0 ≤ n.m ∧ n.m < 65536) (ht : n.t < 18446744073709551616) (hd : n.d.length < 65536) (r : List UInt8) : (Rd.mk (layNode n ++ r) false).node = (n, ⟨r, false⟩) := by
  unfold Rd.node layNode
  simp only [List.cons_append, List.append_assoc, num_u8 hk.1 hk.2, num_u16 hm.1 hm.2, num_f64 ht, text_app hd]
  have e1 : ((n.k.toNat : Nat) : Int) = n.k := by omega
  have e2 : ((n.m.toNat : Nat) : Int) = n.m := by omega
  simp only [e1, e2]
/-- Items read one behind the other. -/
def Rd.items : Nat → Rd → List It × Rd
  | 0, r => ([], r)
  | n + 1, r =>
    if r.l then ([], r) else
      let p := r.text
      let x := p.2.node
      let y := Rd.items n x.2
      (⟨p.1, x.1⟩ :: y.1, y.2)
theorem rightNode_ok {n : Nd} (h : rightNodeR n = true) : (0 ≤ n.k ∧ n.k < 256) ∧ (0 ≤ n.m ∧ n.m < 65536) ∧ n.d.length < 65536 := by
  have hd := rightNodeR_len h
  unfold rightNodeR at h
  simp only [Bool.and_eq_true, Bool.not_eq_true', Bool.or_eq_false_iff, decide_eq_false_iff_not] at h
  obtain ⟨⟨⟨h1, h2⟩, _⟩, h3⟩ := h
  refine ⟨?_, ⟨by omega, by omega⟩, by omega⟩
  split at h3
  · rename_i hk; have := eq_of_beq hk; omega
  · split at h3
    · rename_i hk; have := eq_of_beq hk; omega
    · split at h3
      · rename_i hk; have := eq_of_beq hk; omega
      · cases h3
end Go.Dm
end

section
/-
  Which lists of items are right trees, as the program and the document ask it. No condition.
-/
namespace Go.Dm
open Go

def aheadT (pre : List It) (p : List UInt8) : Bool := match pre.getLast? with
  | some y => bltL y.p p
  | none => true
def rightStep (pre : List It) (x : It) : Bool := !(x.p == []) && (isPathR x.p && (aheadT pre x.p && (rightNodeR x.n && isDirR pre (dirOfR x.p))))
def rightGo : List It → List It → Bool
  | _, [] => true
  | pre, x :: r => rightStep pre x && rightGo (pre ++ [x]) r
def rightT (t : List It) : Bool := rightGo [] t && decide ((t.length : Int) ≤ 120)
theorem getLast_take {t : List It} {k : Nat} (hk : 0 < k) (hl : k ≤ t.length) : (t.take k).getLast? = t[k - 1]? := by
  rw [List.getLast?_eq_getElem?, List.length_take, Nat.min_eq_left hl, List.getElem?_take, if_pos (by omega)]
theorem srt_snoc {t : List It} {x : It} (h : Srt t) (ha : aheadT t x.p = true) : Srt (t ++ [x]) := by
  refine List.pairwise_append.2 ⟨h, by simp, fun y hy z hz => ?_⟩
  have : z = x := by simpa using hz
  subst this
  unfold aheadT at ha
  cases hl : t.getLast? with
  | none =>
    have : t = [] := by simpa using hl
    subst this; cases hy
  | some w =>
    rw [hl] at ha
    simp only at ha
    obtain ⟨s, rfl⟩ := List.getLast?_eq_some_iff.1 hl
    rcases List.mem_append.1 hy with hy | hy
    · have := (List.pairwise_append.1 h).2.2 y hy w (by simp)
      exact blt_trans this ha
    · have : y = w := by simpa using hy
      rw [this]; exact ha
/-- A list that is right in this sense is a right tree. -/
theorem rightGo_ok : ∀ {r pre : List It}, Srt pre → (∀ x ∈ pre, OkI x) → (∀ x ∈ r, x.n.t < 18446744073709551616) → (∀ x ∈ pre, isDirR pre (dirOfR x.p) = true) → rightGo pre r = true → Srt (pre ++ r) ∧ (∀ x ∈ pre ++ r, OkI x) ∧ ∀ x ∈ pre ++ r, isDirR (pre ++ r) (dirOfR x.p) = true
  | [], pre, hs, ho, _, hp, _ => by rw [List.append_nil]; exact ⟨hs, ho, hp⟩
  | x :: r, pre, hs, ho, ht, hp, h => by
    rw [rightGo, Bool.and_eq_true] at h
    obtain ⟨h1, h2⟩ := h
    simp only [rightStep, Bool.and_eq_true, Bool.not_eq_true'] at h1
    obtain ⟨a1, a2, a3, a4, a5⟩ := h1
    have hs2 : Srt (pre ++ [x]) := srt_snoc hs a3
    have up : ∀ p, isDirR pre p = true → isDirR (pre ++ [x]) p = true := by
      intro p hd
      by_cases hp0 : p = []
      · subst hp0; rfl
      · obtain ⟨m, k1, k2⟩ := isDir_some hp0 hd
        obtain ⟨y, hy, hyp, hyn⟩ := getR_mem k1
        have := getR_self hs2 (List.mem_append_left [x] hy)
        rw [hyp] at this
        exact isDir_mk this (by rw [hyn]; exact k2)
    have := rightGo_ok (r := r) (pre := pre ++ [x]) hs2 (fun y hy => by
      rcases List.mem_append.1 hy with hy | hy
      · exact ho y hy
      · have : y = x := by simpa using hy
        subst this
        exact ⟨by simpa using a1, a2, a4, ht y List.mem_cons_self⟩) (fun y hy => ht y (List.mem_cons_of_mem _ hy)) (fun y hy => by
      rcases List.mem_append.1 hy with hy | hy
      · exact up _ (hp y hy)
      · have : y = x := by simpa using hy
        subst this; exact up _ a5) h2
    rw [List.append_assoc] at this
    exact this
theorem rightT_ok {t : List It} (ht : ∀ x ∈ t, x.n.t < 18446744073709551616) (h : rightT t = true) : OkT t := by
  unfold rightT at h
  rw [Bool.and_eq_true, decide_eq_true_eq] at h
  obtain ⟨h1, h2⟩ := h
  have := rightGo_ok (r := t) (pre := []) List.Pairwise.nil (fun x hx => by cases hx) ht (fun x hx => by cases hx) h1
  rw [List.nil_append] at this
  exact ⟨⟨this.1, this.2.1, by omega⟩, this.2.2⟩
theorem rightGo_of {t : List It} (h : OkT t) : ∀ k, k ≤ t.length → rightGo (t.take k) (t.drop k) = true := by
  have key : ∀ n k, t.length - k ≤ n → k ≤ t.length → rightGo (t.take k) (t.drop k) = true := by
    intro n
    induction n with
    | zero =>
      intro k h1 h2
      rw [List.drop_of_length_le (by omega)]; rfl
    | succ n ih =>
      intro k h1 h2
      by_cases hlt : k < t.length
      · have hx : t[k]? = some t[k] := List.getElem?_eq_getElem hlt
        rw [List.drop_eq_getElem_cons hlt, rightGo]
        have hn := ih (k + 1) (by omega) (by omega)
        rw [List.take_add_one, hx] at hn
        obtain ⟨i1, i2, i3, _⟩ := h.its _ (List.getElem_mem hlt)
        have hd := isDir_take h hx
        have ha : aheadT (t.take k) t[k].p = true := by
          unfold aheadT
          by_cases h0 : 0 < k
          · rw [getLast_take h0 (by omega), List.getElem?_eq_getElem (by omega)]
            exact List.pairwise_iff_getElem.1 h.srt (k - 1) k (by omega) hlt (by omega)
          · have : k = 0 := by omega
            subst this; rfl
        have i1' : (t[k].p == []) = false := by simpa using i1
        rw [rightStep, i1', i2, ha, i3, hd]
        exact hn
      · rw [List.drop_of_length_le (by omega)]; rfl
  exact fun k hk => key _ k (Nat.le_refl _) hk
theorem rightT_of {t : List It} (h : OkT t) : rightT t = true := by
  have := rightGo_of h 0 (Nat.zero_le _)
  have hl := h.len
  simp only [List.take_zero, List.drop_zero] at this
  rw [rightT, this, Bool.true_and]
  exact decide_eq_true (by omega)
/-- The document's question. -/
def refStep (t pre : List It) (x : It) : Bool := !(x.p == []) && (isPathR x.p && (aheadT pre x.p && (rightNodeR x.n && isDirR t (dirOfR x.p))))
def refGo (t : List It) : List It → List It → Bool
  | _, [] => true
  | pre, x :: r => refStep t pre x && refGo t (pre ++ [x]) r
def refT (t : List It) : Bool := refGo t [] t && decide ((t.length : Int) ≤ 120)
theorem refGo_ok {t : List It} : ∀ {r pre : List It}, Srt pre → (∀ x ∈ r, x.n.t < 18446744073709551616) → refGo t pre r = true → Srt (pre ++ r) ∧ (∀ x ∈ r, OkI x) ∧ ∀ x ∈ r, isDirR t (dirOfR x.p) = true
  | [], pre, hs, _, _ => ⟨by rw [List.append_nil]; exact hs, by intro x hx; simp at hx, by intro x hx; simp at hx⟩
  | x :: r, pre, hs, ht, h => by
    rw [refGo, Bool.and_eq_true] at h
    obtain ⟨h1, h2⟩ := h
    simp only [refStep, Bool.and_eq_true, Bool.not_eq_true'] at h1
    obtain ⟨a1, a2, a3, a4, a5⟩ := h1
    obtain ⟨k1, k2, k3⟩ := refGo_ok (r := r) (pre := pre ++ [x]) (srt_snoc hs a3) (fun y hy => ht y (List.mem_cons_of_mem _ hy)) h2
    rw [List.append_assoc] at k1
    refine ⟨k1, fun y hy => ?_, fun y hy => ?_⟩
    · rcases List.mem_cons.1 hy with rfl | hy
      · exact ⟨by simpa using a1, a2, a4, ht y List.mem_cons_self⟩
      · exact k2 y hy
    · rcases List.mem_cons.1 hy with rfl | hy
      · exact a5
      · exact k3 y hy
theorem refT_ok {t : List It} (ht : ∀ x ∈ t, x.n.t < 18446744073709551616) (h : refT t = true) : OkT t := by
  unfold refT at h
  rw [Bool.and_eq_true, decide_eq_true_eq] at h
  obtain ⟨h1, h2⟩ := h
  obtain ⟨k1, k2, k3⟩ := refGo_ok (pre := []) List.Pairwise.nil ht h1
  rw [List.nil_append] at k1
  exact ⟨⟨k1, k2, by omega⟩, k3⟩
theorem refT_of {t : List It} (h : OkT t) : refT t = true := by
  have key : ∀ n k, t.length - k ≤ n → k ≤ t.length → refGo t (t.take k) (t.drop k) = true := by
    intro n
    induction n with
    | zero =>
      intro k h1 h2
      rw [List.drop_of_length_le (by omega)]; rfl
    | succ n ih =>
      intro k h1 h2
      by_cases hlt : k < t.length
      · have hx : t[k]? = some t[k] := List.getElem?_eq_getElem hlt
        rw [List.drop_eq_getElem_cons hlt, refGo]
        have hn := ih (k + 1) (by omega) (by omega)
        rw [List.take_add_one, hx] at hn
        obtain ⟨i1, i2, i3, _⟩ := h.its _ (List.getElem_mem hlt)
        have hd := h.par _ (List.getElem_mem hlt)
        have ha : aheadT (t.take k) t[k].p = true := by
          unfold aheadT
          by_cases h0 : 0 < k
          · rw [getLast_take h0 (by omega), List.getElem?_eq_getElem (by omega)]
            exact List.pairwise_iff_getElem.1 h.srt (k - 1) k (by omega) hlt (by omega)
          · have : k = 0 := by omega
            subst this; rfl
        have i1' : (t[k].p == []) = false := by simpa using i1
        rw [refStep, i1', i2, ha, i3, hd]
        exact hn
      · rw [List.drop_of_length_le (by omega)]; rfl
  have h0 := key _ 0 (Nat.le_refl _) (Nat.zero_le _)
  have hl := h.len
  simp only [List.take_zero, List.drop_zero] at h0
  rw [refT, h0, Bool.true_and]
  exact decide_eq_true (by omega)
/-- The two questions have one answer. -/
theorem rightT_ref {t : List It} (ht : ∀ x ∈ t, x.n.t < 18446744073709551616) : rightT t = refT t := by
  cases h : refT t
  · cases h2 : rightT t
    · rfl
    · rw [refT_of (rightT_ok ht h2)] at h; cases h
  · exact rightT_of (refT_ok ht h)
end Go.Dm
end

section
/-
  Reading: what a reader has left; items as the program and as the document read them. No condition.
-/
namespace Go.Dm
open Go

theorem Rd.len_raw (r : Rd) (n : Nat) : (r.raw n).2.b.length ≤ r.b.length := by
  unfold Rd.raw
  split
  · exact Nat.zero_le _
  · simp
theorem Rd.len_num (r : Rd) (n : Nat) : (r.num n).2.b.length ≤ r.b.length := r.len_raw n
theorem Rd.len_text (r : Rd) : r.text.2.b.length ≤ r.b.length := Nat.le_trans ((r.num 2).2.len_raw _) (r.len_num 2)
theorem Rd.len_node (r : Rd) : r.node.2.b.length ≤ r.b.length :=
  Nat.le_trans (Rd.len_text _) (Nat.le_trans (Rd.len_num _ 8) (Nat.le_trans (Rd.len_num _ 2) (r.len_num 1)))
theorem natOf_snoc (l : List UInt8) (c : UInt8) : natOf (l ++ [c]) = natOf l * 256 + c.toNat := by simp [natOf]
theorem natOf_lt (l : List UInt8) : natOf l < 256 ^ l.length := by
  suffices h : ∀ (n : Nat) (l : List UInt8), l.length = n → natOf l < 256 ^ n from h _ l rfl
  intro n
  induction n with
  | zero => intro l hl; rw [List.eq_nil_of_length_eq_zero hl]; decide
  | succ n ih =>
    intro l hl
    have hne : l ≠ [] := fun h => by simp [h] at hl
    obtain ⟨l', c, rfl⟩ : ∃ l' c, l = l' ++ [c] := ⟨l.dropLast, l.getLast hne, (List.dropLast_concat_getLast hne).symm⟩
    have h1 := ih l' (by simpa using hl)
    have h2 : c.toNat < 256 := c.toNat_lt
    rw [natOf_snoc, Nat.pow_succ]
    omega
theorem Rd.raw_le (r : Rd) (n : Nat) : (r.raw n).1.length ≤ n := by
  unfold Rd.raw
  split
  · exact Nat.zero_le _
  · simp only [List.length_take]; omega
theorem pow256_mono {a b : Nat} (h : a ≤ b) : 256 ^ a ≤ 256 ^ b := Nat.pow_le_pow_right (by omega) h
theorem Rd.num_lt (r : Rd) (n : Nat) : (r.num n).1 < 256 ^ n := Nat.lt_of_lt_of_le (natOf_lt _) (pow256_mono (r.raw_le n))
theorem Rd.num_lt1 (r : Rd) : (r.num 1).1 < 256 := r.num_lt 1
theorem Rd.num_lt2 (r : Rd) : (r.num 2).1 < 65536 := r.num_lt 2
theorem Rd.num_lt8 (r : Rd) : (r.num 8).1 < 18446744073709551616 := r.num_lt 8
theorem natOf_take_lt {z : List UInt8} {k : Nat} (hz : z.length ≤ 8) (hk : k < z.length) : natOf (z.take k) < 72057594037927936 := by
  have h1 := natOf_lt (z.take k)
  have h2 : (z.take k).length ≤ 7 := by rw [List.length_take]; omega
  have h3 := pow256_mono h2
  have : (256 : Nat) ^ 7 = 72057594037927936 := by decide
  omega
theorem wrap_u64_nat {v : Nat} (h : v < 18446744073709551616) : IntKind.u64.wrap (v : Int) = v := by
  simp only [IntKind.wrap, IntKind.bits, IntKind.signed, Bool.false_and]
  split <;> rename_i h'
  · simp at h'
  · exact Int.emod_eq_of_lt (by omega) (by omega)
theorem or_shift {v c : Nat} (hv : v < 72057594037927936) (hc : c < 256) : Dm.bits .or .u64 (IntKind.u64.wrap ((v : Int) * 2 ^ 8)) (c : Int) = (v * 256 + c : Nat) := by
  have e0 : IntKind.u64.wrap ((v : Int) * 2 ^ 8) = (v * 256 : Nat) := by
    rw [show (v : Int) * 2 ^ 8 = ((v * 256 : Nat) : Int) by omega, wrap_u64_nat (by omega)]
  rw [e0]
  unfold Dm.bits
  simp only
  have e1 : (BitVec.ofInt IntKind.u64.bits ((v * 256 : Nat) : Int) ||| BitVec.ofInt IntKind.u64.bits ((c : Nat) : Int)).toNat = v * 256 + c := by
    rw [BitVec.toNat_or]
    have f1 : (BitVec.ofInt IntKind.u64.bits ((v * 256 : Nat) : Int)).toNat = v * 256 := by
      rw [BitVec.ofInt_natCast, BitVec.toNat_ofNat]
      exact Nat.mod_eq_of_lt (by show v * 256 < 2 ^ 64; omega)
    have f2 : (BitVec.ofInt IntKind.u64.bits ((c : Nat) : Int)).toNat = c := by
      rw [BitVec.ofInt_natCast, BitVec.toNat_ofNat]
      exact Nat.mod_eq_of_lt (by show c < 2 ^ 64; omega)
    rw [f1, f2]
    have := Nat.shiftLeft_add_eq_or_of_lt (i := 8) (b := c) (by simpa using hc) v
    rw [Nat.shiftLeft_eq] at this
    have e : (2 : Nat) ^ 8 = 256 := by decide
    rw [e] at this
    omega
  rw [e1]
  exact wrap_u64_nat (by omega)
theorem add_shift {v c : Nat} (hv : v < 72057594037927936) (hc : c < 256) : IntKind.u64.wrap (IntKind.u64.wrap ((v : Int) * 2 ^ 8) + (c : Int)) = (v * 256 + c : Nat) := by
  have e0 : IntKind.u64.wrap ((v : Int) * 2 ^ 8) = (v * 256 : Nat) := by
    rw [show (v : Int) * 2 ^ 8 = ((v * 256 : Nat) : Int) by omega, wrap_u64_nat (by omega)]
  rw [e0, show ((v * 256 : Nat) : Int) + (c : Int) = ((v * 256 + c : Nat) : Int) by omega]
  exact wrap_u64_nat (by omega)
theorem Rd.text_le (r : Rd) : r.text.1.length ≤ 65535 := by
  have h1 := r.num_lt2
  have h2 := (r.num 2).2.raw_le (r.num 2).1
  unfold Rd.text
  omega
def Rd.take (r : Rd) : Nd × Bool := if r.node.2.l || !rightNodeR r.node.1 then (⟨0, 0, 0, []⟩, false) else (r.node.1, true)
theorem u16F_len (z : Int) : (u16F z).length = 2 := rfl
theorem layNode_len (n : Nd) : (layNode n).length = 13 + n.d.length := by
  simp only [layNode, textF, List.length_cons, List.length_append, u16F_len, show (bytesF n.t).length = 8 from rfl]; omega
theorem it_nd_eta (x : Nd) : Nd.mk x.k x.m x.t x.d = x := rfl
end Go.Dm
end

section
/-
  Reading a tree: what the program reads and what the document reads is one. No condition.
-/
namespace Go.Dm
open Go

theorem take_of {r : Rd} (h1 : r.node.2.l = false) (h2 : rightNodeR r.node.1 = true) : r.take = (r.node.1, true) := by
  unfold Rd.take
  rw [h1, h2]; rfl
theorem Rd.take_t (r : Rd) : r.take.1.t < 18446744073709551616 := by
  unfold Rd.take
  split
  · decide
  · exact Rd.num_lt8 _
theorem Rd.take_d (r : Rd) : r.take.1.d.length ≤ 65535 := by
  unfold Rd.take
  split
  · decide
  · exact Rd.text_le _
end Go.Dm
end

section
/-
  Changes' bytes: which changes may be, as the document asks it; what is read. No condition beyond times that are words of 64 bits.
-/
namespace Go.Dm
open Go

theorem zero_eq {n : Nd} (h : zeroN n = true) : n = nd0 := by
  unfold zeroN at h
  simp only [Bool.and_eq_true, beq_iff_eq] at h
  obtain ⟨⟨⟨h1, h2⟩, h3⟩, h4⟩ := h
  have h5 : n.d = [] := List.eq_nil_of_length_eq_zero (by simpa using h4)
  cases n
  simp only at h1 h2 h3 h5
  subst h1 h2 h3 h5
  rfl
theorem bitsF_zero {x : Nat} (h : bitsF x = 0) : x = 0 := by
  unfold bitsF at h
  split at h
  · exact absurd h (by decide)
  · exact h
theorem same_zero (n : Nd) : sameNd n nd0 = zeroN n := by
  rw [Bool.eq_iff_iff]
  constructor
  · intro h
    unfold sameNd at h
    simp only [Bool.and_eq_true, beq_iff_eq] at h
    obtain ⟨⟨⟨h1, h2⟩, h3⟩, h4⟩ := h
    have h5 : bitsF n.t = 0 := h4.trans (by decide)
    have h6 := bitsF_zero h5
    unfold zeroN
    rw [h1, h2, h3, h6]; rfl
  · intro h
    rw [zero_eq h]; exact sameNd_refl nd0
end Go.Dm
end

section
/-
  Changes' bytes: laid, read; what the program reads and what the document reads is one. No condition beyond times that are words of 64 bits.
-/
namespace Go.Dm
open Go

def Rd.opt (r : Rd) (b : Bool) : Nd × Rd := if b then (nd0, r) else (r.take.1, r.node.2)
def Rd.optOk (r : Rd) (b : Bool) : Bool := b || r.take.2
theorem opt_app {n : Nd} {b : Bool} (h1 : b = true → n = nd0) (h2 : b = false → rightNodeR n = true) (ht : n.t < 18446744073709551616) (r : List UInt8) :
    (Rd.mk ((if b then [] else layNode n) ++ r) false).opt b = (n, ⟨r, false⟩) ∧ (Rd.mk ((if b then [] else layNode n) ++ r) false).optOk b = true := by
  cases b
  · have hr := h2 rfl
    obtain ⟨a, c, d⟩ := rightNode_ok hr
    have hn := node_app a c ht d r
    have hk := take_of (r := ⟨layNode n ++ r, false⟩) (by rw [hn]) (by rw [hn]; exact hr)
    rw [hn] at hk
    simp only [Rd.opt, Rd.optOk, Bool.false_eq_true, if_false, hk, hn, Bool.false_or, and_self]
  · rw [h1 rfl]
    exact ⟨rfl, rfl⟩
theorem Rd.opt_t (r : Rd) (b : Bool) : (r.opt b).1.t < 18446744073709551616 ∧ (r.opt b).1.d.length ≤ 65535 := by
  cases b
  · exact ⟨Rd.take_t r, Rd.take_d r⟩
  · exact ⟨show (0 : Nat) < 18446744073709551616 by decide, show ([] : List UInt8).length ≤ 65535 by decide⟩
end Go.Dm
end
