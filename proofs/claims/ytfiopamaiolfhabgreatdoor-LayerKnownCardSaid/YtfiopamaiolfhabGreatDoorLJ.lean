/-
  Layers: which lists of entries may be; their bytes, laid and read. No program in sight.
-/
import Derived.Test.YtfiopamaiolfhabGreatDoorLA
set_option linter.unusedSimpArgs false
set_option linter.unusedVariables false
namespace Go.Dm
open Go

def aheadE (pre : List En) (p : List UInt8) : Bool := match pre.getLast? with
  | some y => bltL y.p p
  | none => true
def openE (pre : List En) (p : List UInt8) : Bool := pre.all fun y => !(shutE y && belowR y.p p)
def stepE (pre : List En) (x : En) : Bool := mayE x && (aheadE pre x.p && openE pre x.p)
def rightGE : List En → List En → Bool
  | _, [] => true
  | pre, x :: r => stepE pre x && rightGE (pre ++ [x]) r
/-- May a list of entries be a layer? -/
def rightE (l : List En) : Bool := rightGE [] l
theorem getLast_takeE {t : List En} {k : Nat} (hk : 0 < k) (hl : k ≤ t.length) : (t.take k).getLast? = t[k - 1]? := by
  rw [List.getLast?_eq_getElem?, List.length_take, Nat.min_eq_left hl, List.getElem?_take, if_pos (by omega)]
theorem srtE_snoc {t : List En} {x : En} (h : SrtE t) (ha : aheadE t x.p = true) : SrtE (t ++ [x]) := by
  refine List.pairwise_append.2 ⟨h, by simp, fun y hy z hz => ?_⟩
  have : z = x := by simpa using hz
  subst this
  unfold aheadE at ha
  obtain ⟨i, hi, rfl⟩ := List.mem_iff_getElem.1 hy
  rw [List.getLast?_eq_getElem?, List.getElem?_eq_getElem (by omega)] at ha
  simp only at ha
  rcases Nat.lt_or_ge i (t.length - 1) with h1 | h1
  · exact blt_trans (List.pairwise_iff_getElem.1 h i (t.length - 1) hi (by omega) h1) ha
  · have : i = t.length - 1 := by omega
    subst this; exact ha
theorem rightGE_ok : ∀ {r pre : List En}, (∀ x ∈ pre, mayE x = true) → SrtE pre → (pre.Pairwise fun y x => (shutE y && belowR y.p x.p) = false) → rightGE pre r = true → (∀ x ∈ pre ++ r, mayE x = true) ∧ SrtE (pre ++ r) ∧ (pre ++ r).Pairwise fun y x => (shutE y && belowR y.p x.p) = false
  | [], pre, hm, hs, ho, _ => by rw [List.append_nil]; exact ⟨hm, hs, ho⟩
  | x :: r, pre, hm, hs, ho, h => by
    rw [rightGE, Bool.and_eq_true] at h
    obtain ⟨h1, h2⟩ := h
    unfold stepE at h1
    simp only [Bool.and_eq_true] at h1
    obtain ⟨a1, a2, a3⟩ := h1
    have := rightGE_ok (r := r) (pre := pre ++ [x]) (fun y hy => by
      rcases List.mem_append.1 hy with hy | hy
      · exact hm y hy
      · rw [List.mem_singleton.1 hy]; exact a1) (srtE_snoc hs a2) (List.pairwise_append.2 ⟨ho, by simp, fun y hy z hz => by
        rw [List.mem_singleton.1 hz]
        have := List.all_eq_true.1 a3 y hy
        simpa only [Bool.not_eq_true'] using this⟩) h2
    rwa [List.append_assoc] at this
theorem rightE_ok {l : List En} (h : rightE l = true) : (∀ x ∈ l, mayE x = true) ∧ SrtE l ∧ l.Pairwise fun y x => (shutE y && belowR y.p x.p) = false :=
  rightGE_ok (pre := []) (fun x hx => by cases hx) List.Pairwise.nil List.Pairwise.nil h
theorem rightE_drop {l : List En} {k : Nat} {x : En} (h : l[k]? = some x) : rightGE (l.take k) (l.drop k) = (stepE (l.take k) x && rightGE (l.take (k + 1)) (l.drop (k + 1))) := by
  obtain ⟨hk, rfl⟩ := List.getElem?_eq_some_iff.1 h
  rw [List.drop_eq_getElem_cons hk, rightGE, List.take_add_one, h]
  rfl

/-! Bytes. -/
def layEn (x : En) : List UInt8 := textF x.p ++ (byteI x.k 0 :: (byteI (if x.o then 1 else 0) 0 :: (if !(x.k == 1) then [] else layNode x.n)))
def layEs (l : List En) : List UInt8 := u16F l.length ++ (l.map layEn).flatten
def Rd.enG (f : Nat → Bool) (r : Rd) : En × Rd :=
  let p := r.text
  let k := p.2.num 1
  let o := k.2.num 1
  let n := o.2.opt (!((k.1 : Int) == 1))
  (⟨p.1, k.1, f o.1, n.1⟩, n.2)
def Rd.enOk (r : Rd) : Bool :=
  let k := r.text.2.num 1
  (k.2.num 1).2.optOk (!((k.1 : Int) == 1))
def opP (n : Nat) : Bool := decide ((0 : Int) < n)
/-- Entries as the program reads them: what is no node is an empty one. -/
def Rd.ensP : Nat → Rd → List En
  | 0, _ => []
  | n + 1, r => if r.l then [] else (r.enG opP).1 :: Rd.ensP n (r.enG opP).2
theorem mayE_nodes {x : En} (h : mayE x = true) : ((!(x.k == 1)) = true → x.n = nd0) ∧ ((!(x.k == 1)) = false → rightNodeR x.n = true) ∧ (0 ≤ x.k ∧ x.k < 256) ∧ isPathR x.p = true := by
  unfold mayE at h
  simp only [Bool.and_eq_true] at h
  obtain ⟨_, h1, h2⟩ := h
  cases hk : x.k == 2
  · rw [hk, if_neg (by decide)] at h2
    simp only [Bool.and_eq_true] at h2
    have h3 := eq_of_beq h2.1.1
    refine ⟨fun e => ?_, fun _ => h2.1.2, by omega, h1⟩
    rw [h3] at e; cases e
  · rw [hk, if_pos rfl] at h2
    simp only [Bool.and_eq_true] at h2
    have h3 := eq_of_beq hk
    refine ⟨fun _ => zero_eq h2.2, fun e => ?_, by omega, h1⟩
    rw [h3] at e; cases e
theorem en_app {x : En} (h : mayE x = true) (hn : x.n.wf) (f : Nat → Bool) (h0 : f 0 = false) (h1 : f 1 = true) (r : List UInt8) : (Rd.mk (layEn x ++ r) false).enG f = (x, ⟨r, false⟩) ∧ (Rd.mk (layEn x ++ r) false).enOk = true := by
  obtain ⟨m1, m2, ⟨m5, m6⟩, m7⟩ := mayE_nodes h
  have hp : x.p.length < 65536 := by have := isPathR_len m7; omega
  obtain ⟨n1, n2⟩ := opt_app (n := x.n) (b := !(x.k == 1)) m1 m2 hn r
  have hk : ((x.k.toNat : Nat) : Int) = x.k := by omega
  have ho : (0 : Int) ≤ (if x.o then 1 else 0) ∧ (if x.o then (1 : Int) else 0) < 256 := by cases x.o <;> decide
  have hf : f (if x.o then (1 : Int) else 0).toNat = x.o := by cases x.o <;> simp [h0, h1]
  unfold Rd.enG Rd.enOk layEn
  simp only [List.append_assoc, List.cons_append, text_app hp, num_u8 m5 m6, num_u8 ho.1 ho.2, hk, hf, n1, n2]
  exact ⟨by first | trivial | rfl, by first | trivial | rfl⟩
theorem ensP_app : ∀ {t : List En} (_ : ∀ x ∈ t, mayE x = true ∧ x.n.wf) (r : List UInt8), Rd.ensP t.length ⟨(t.map layEn).flatten ++ r, false⟩ = t
  | [], _, r => rfl
  | x :: t, h, r => by
    obtain ⟨h1, h2⟩ := h x List.mem_cons_self
    have ih := ensP_app (t := t) (fun y hy => h y (List.mem_cons_of_mem _ hy)) r
    obtain ⟨e1, e2⟩ := en_app h1 h2 opP (by decide) (by decide) ((t.map layEn).flatten ++ r)
    simp only [List.length_cons, Rd.ensP, List.map_cons, List.flatten_cons, List.append_assoc, e1, ih, Bool.false_eq_true, if_false]
def okEn (x : En) : Prop := x.p.length ≤ 65535 ∧ (x.n.t < 18446744073709551616 ∧ x.n.d.length ≤ 65535) ∧ 0 ≤ x.k ∧ x.k < 256
theorem Rd.enG_ok (f : Nat → Bool) (r : Rd) : okEn (r.enG f).1 := by
  refine ⟨r.text_le, Rd.opt_t _ _, ?_, ?_⟩
  · show (0 : Int) ≤ ((r.text.2.num 1).1 : Nat); omega
  · have := (r.text.2).num_lt1
    show ((r.text.2.num 1).1 : Nat) < (256 : Int); omega
theorem ensP_len : ∀ (n : Nat) (r : Rd), (Rd.ensP n r).length ≤ n
  | 0, _ => Nat.le_refl 0
  | n + 1, r => by
    rw [Rd.ensP]
    split
    · exact Nat.zero_le _
    · exact Nat.succ_le_succ (ensP_len n _)
theorem ensP_all : ∀ (n : Nat) (r : Rd), ∀ x ∈ Rd.ensP n r, okEn x
  | 0, _, x, hx => by cases hx
  | n + 1, r, x, hx => by
    rw [Rd.ensP] at hx
    split at hx
    · cases hx
    · rcases List.mem_cons.1 hx with rfl | hx
      · exact r.enG_ok _
      · exact ensP_all n _ x hx
/-- What the program reads. -/
def readE (z : List UInt8) : List En := let c := (Rd.mk z false).num 2; Rd.ensP c.1 c.2
def readEOk (z : List UInt8) : Bool := rightE (readE z) && (layEs (readE z) == z)
def readEs (z : List UInt8) : List En × Int := if readEOk z then (readE z, 0) else ([], 2)
theorem readE_len (z : List UInt8) : (readE z).length ≤ 65535 := by
  have h1 := ensP_len ((Rd.mk z false).num 2).1 ((Rd.mk z false).num 2).2
  have h2 := (Rd.mk z false).num_lt2
  unfold readE; simp only; omega
theorem readE_all (z : List UInt8) : ∀ x ∈ readE z, okEn x := ensP_all _ _
theorem lay_num {t : List En} (hl : t.length ≤ 65535) : (Rd.mk (layEs t) false).num 2 = (t.length, ⟨(t.map layEn).flatten, false⟩) := by
  have k1 := num_u16 (z := t.length) (by omega) (by omega) ((t.map layEn).flatten)
  have e : ((t.length : Int)).toNat = t.length := by omega
  rw [e] at k1
  exact k1
theorem readE_lay {t : List En} (h : rightE t = true) (hw : ∀ x ∈ t, x.n.wf) (hl : t.length ≤ 65535) : readE (layEs t) = t := by
  have k2 := ensP_app (t := t) (fun x hx => ⟨(rightE_ok h).1 x hx, hw x hx⟩) []
  rw [List.append_nil] at k2
  unfold readE
  rw [lay_num hl]
  exact k2
theorem readEs_lay {t : List En} (h : rightE t = true) (hw : ∀ x ∈ t, x.n.wf) (hl : t.length ≤ 65535) : readEs (layEs t) = (t, 0) := by
  unfold readEs readEOk
  rw [readE_lay h hw hl, h]; simp
theorem layEn_len (x : En) : (layEn x).length ≤ 17 + x.p.length + x.n.d.length := by
  unfold layEn textF
  simp only [List.length_append, List.length_cons, u16F_len]
  split
  · simp only [List.length_nil]; omega
  · rw [layNode_len]; omega
theorem layEs_len {t : List En} (h : ∀ x ∈ t, x.p.length ≤ 65535 ∧ x.n.d.length ≤ 65535) : (layEs t).length ≤ 2 + 140000 * t.length := by
  have key : ∀ t : List En, (∀ x ∈ t, x.p.length ≤ 65535 ∧ x.n.d.length ≤ 65535) → (t.map layEn).flatten.length ≤ 140000 * t.length := by
    intro t
    induction t with
    | nil => intro _; simp
    | cons x t ih =>
      intro h
      have h1 := h x List.mem_cons_self
      have h2 := layEn_len x
      have h3 := ih fun y hy => h y (List.mem_cons_of_mem _ hy)
      rw [List.map_cons, List.flatten_cons, List.length_append, List.length_cons]
      omega
  have := key t h
  unfold layEs
  rw [List.length_append, u16F_len]
  omega
end Go.Dm
