/-
  Which nodes may be, by their time's bits; which changes may be; a diff's changes may. No condition beyond times that are words of 64 bits.
-/
import Derived.Test.YtomaddpcacoodaaGreatDoorS10
import Derived.Test.YtomaddpcacoodaaGreatDoorBC
set_option linter.unusedSimpArgs false
set_option linter.unusedVariables false
namespace Go.Dm
open Go

theorem byteF_nat (x k : Nat) : (byteF x k).toNat = x / 2 ^ k % 256 := by
  have h : IntKind.u8.wrap ((x : Int).fdiv (2 ^ k)) = ((x / 2 ^ k % 256 : Nat) : Int) := by
    have h2 : (x : Int).fdiv (2 ^ k) = ((x / 2 ^ k : Nat) : Int) := by
      rw [Int.fdiv_eq_ediv_of_nonneg _ (by exact Int.le_of_lt (Int.pow_pos (by decide)))]
      simp
    rw [h2]
    simp only [IntKind.wrap, IntKind.bits, IntKind.signed, Bool.false_and]
    split <;> rename_i h
    · simp at h
    · simp
  unfold byteF
  rw [h, Int.toNat_natCast]
  show _ % 256 = _
  exact Nat.mod_eq_of_lt (Nat.mod_lt _ (by decide))
theorem bytesF_inj {x y : Nat} (hx : x < 18446744073709551616) (hy : y < 18446744073709551616) (h : bytesF x = bytesF y) : x = y := by
  simp only [bytesF, List.cons.injEq, and_true] at h
  obtain ⟨h7, h6, h5, h4, h3, h2, h1, h0⟩ := h
  have e : ∀ k, byteF x k = byteF y k → x / 2 ^ k % 256 = y / 2 ^ k % 256 := fun k h => by rw [← byteF_nat, ← byteF_nat, h]
  have e7 := e _ h7; have e6 := e _ h6; have e5 := e _ h5; have e4 := e _ h4; have e3 := e _ h3; have e2 := e _ h2; have e1 := e _ h1; have e0 := e _ h0
  simp only [show (2 : Nat) ^ 56 = 72057594037927936 from rfl, show (2 : Nat) ^ 48 = 281474976710656 from rfl, show (2 : Nat) ^ 40 = 1099511627776 from rfl, show (2 : Nat) ^ 32 = 4294967296 from rfl, show (2 : Nat) ^ 24 = 16777216 from rfl, show (2 : Nat) ^ 16 = 65536 from rfl, show (2 : Nat) ^ 8 = 256 from rfl, show (2 : Nat) ^ 0 = 1 from rfl, Nat.div_one] at e7 e6 e5 e4 e3 e2 e1 e0
  omega
theorem plainR_eq {x : Nat} (hx : x < 18446744073709551616) : plainR x = (bitsF x == x) := by
  unfold plainR
  rw [Bool.eq_iff_iff, beq_iff_eq, beq_iff_eq]
  exact ⟨fun h => (bytesF_inj hx (bitsF_lt hx) h).symm, fun h => by rw [h]⟩

/-- Which data a node may have; which nodes may be, as the program asks it. -/
def dataP (n : Nd) : Bool := if n.k == 1 then decide ((n.d.length : Int) ≤ 2000) else if n.k == 2 then (n.d.length : Int) == 0 else if n.k == 3 then (decide ((1 : Int) ≤ n.d.length) && decide ((n.d.length : Int) ≤ 120)) && n.d.all fun b => !(b == 0) else false
theorem zero_nat (b : UInt8) : ((b.toNat : Int) == 0) = (b == 0) := by
  rw [Bool.eq_iff_iff]; simp only [beq_iff_eq]
  exact ⟨fun h => UInt8.toNat_inj.1 (by have : (0 : UInt8).toNat = 0 := rfl; omega), fun h => by rw [h]; rfl⟩
theorem targetR_eq (d : List UInt8) : targetR d = ((decide ((1 : Int) ≤ d.length) && decide ((d.length : Int) ≤ 120)) && d.all fun b => !(b == 0)) := by
  unfold targetR
  simp only [zero_nat]
  rw [Bool.and_comm]
def nodeRightP (n : Nd) : Bool := dataP n && decide (0 ≤ n.m) && decide (n.m ≤ 4095) && (bitsF n.t == n.t)
theorem nodeRightP_eq {n : Nd} (h : n.wf) : nodeRightP n = rightNodeR n := by
  unfold nodeRightP rightNodeR dataP
  rw [plainR_eq h]
  simp only [targetR_eq]
  have e1 : decide (0 ≤ n.m) = !decide (n.m < 0) := by rw [Bool.eq_iff_iff]; simp
  have e2 : decide (n.m ≤ 4095) = !decide (4095 < n.m) := by rw [Bool.eq_iff_iff]; simp
  rw [e1, e2]
  generalize (if n.k == 1 then decide ((n.d.length : Int) ≤ 2000) else if n.k == 2 then (n.d.length : Int) == 0 else if n.k == 3 then (decide ((1 : Int) ≤ n.d.length) && decide ((n.d.length : Int) ≤ 120)) && n.d.all (fun b => !(b == 0)) else false) = q
  cases q <;> cases decide (n.m < 0) <;> cases decide (4095 < n.m) <;> cases (bitsF n.t == n.t) <;> rfl

def zeroN (n : Nd) : Bool := n.k == 0 && n.m == 0 && n.t == 0 && n.d.length == 0
def mayC (c : Ch) : Bool := !(c.p == []) && isPathR c.p && (zeroN c.o || !(c.k == 1)) && (zeroN c.n || !(c.k == 2)) && (c.k == 1 || rightNodeR c.o) && (c.k == 2 || rightNodeR c.n) && !(c.k == 0) && (kindF (!(c.k == 1)) (!(c.k == 2)) c.o c.n == c.k)
def aheadOf : Option (List UInt8) → List UInt8 → Bool
  | none, _ => true
  | some q, p => bltL q p
def rightFrom : Option (List UInt8) → List Ch → Bool
  | _, [] => true
  | q, c :: l => mayC c && aheadOf q c.p && rightFrom (some c.p) l
theorem rightFrom_of {l : List Ch} (hm : ∀ c ∈ l, mayC c = true) : ∀ {q : Option (List UInt8)}, l.Pairwise (fun x y => bltL x.p y.p = true) → (∀ p, q = some p → ∀ c ∈ l, bltL p c.p = true) → rightFrom q l = true := by
  induction l with
  | nil => intros; rfl
  | cons c l ih =>
    intro q hs hq
    obtain ⟨h1, h2⟩ := List.pairwise_cons.1 hs
    rw [rightFrom, hm c List.mem_cons_self, ih (fun d hd => hm d (List.mem_cons_of_mem _ hd)) h2 (fun p hp d hd => by cases hp; exact h1 d hd)]
    cases q with
    | none => rfl
    | some p => simp [aheadOf, hq p rfl c List.mem_cons_self]
theorem OkT.getok {t : List It} (h : OkT t) {p : List UInt8} (hs : (getR t p).isSome = true) : p ≠ [] ∧ isPathR p = true ∧ rightNodeR ((getR t p).getD nd0) = true := by
  cases hg : getR t p with
  | none => rw [hg] at hs; cases hs
  | some n =>
    obtain ⟨x, hx, rfl, rfl⟩ := getR_mem hg
    have := h.its x hx
    exact ⟨this.1, this.2.1, this.2.2.1⟩
theorem diffF_may {a b : List It} (ha : OkT a) (hb : OkT b) : ∀ c ∈ diffF a b, mayC c = true := by
  intro c hc
  obtain ⟨h1, h2⟩ := diffF_mem hc
  obtain ⟨h3, h4⟩ := diffF_nodes hc
  have ga := ha.getok (p := c.p)
  have gb := hb.getok (p := c.p)
  have na : (getR a c.p).isSome = false → (getR a c.p).getD nd0 = nd0 := fun h => by cases hg : getR a c.p with
    | none => rfl
    | some _ => rw [hg] at h; cases h
  have nb : (getR b c.p).isSome = false → (getR b c.p).getD nd0 = nd0 := fun h => by cases hg : getR b c.p with
    | none => rfl
    | some _ => rw [hg] at h; cases h
  rw [← h3] at h1 h2 ga na
  rw [← h4] at h1 h2 gb nb
  rw [← h1] at h2
  generalize (getR a c.p).isSome = u at *
  generalize (getR b c.p).isSome = v at *
  have key : ∀ (u v : Bool), c.k = kindF u v c.o c.n → u = (!(c.k == 1)) ∧ v = (!(c.k == 2)) := by
    intro u v h
    have hk : kindF u v c.o c.n ≠ 0 := by rw [← h]; exact h2
    rcases u with _ | _ <;> rcases v with _ | _
    · exact absurd rfl hk
    · rw [h]; exact ⟨rfl, rfl⟩
    · rw [h]; exact ⟨rfl, rfl⟩
    · rw [h]
      unfold kindF at hk ⊢
      simp only [if_true] at hk ⊢
      split at hk
      · exact absurd rfl hk
      · rename_i hq
        rw [if_neg hq]
        repeat' split
        all_goals exact ⟨rfl, rfl⟩
  obtain ⟨k1, k2⟩ := key u v h1
  have k0 : (c.k == 0) = false := by simpa using h2
  have kk : (kindF u v c.o c.n == c.k) = true := by rw [← h1]; simp
  have hp : c.p ≠ [] ∧ isPathR c.p = true := by
    cases u
    · cases v
      · exact absurd h1 (by intro h; exact h2 (by rw [h]; rfl))
      · exact ⟨(gb rfl).1, (gb rfl).2.1⟩
    · exact ⟨(ga rfl).1, (ga rfl).2.1⟩
  unfold mayC
  rw [← k1, ← k2, k0, kk, hp.2]
  have e1 : (c.k == 1) = !u := by rw [k1]; simp
  have e2 : (c.k == 2) = !v := by rw [k2]; simp
  rw [e1, e2]
  have e3 : (c.p == []) = false := by simpa using hp.1
  rw [e3]
  have z0 : zeroN nd0 = true := by decide
  cases u <;> cases v
  · exact absurd (h1.trans rfl) h2
  · rw [na rfl, z0, (gb rfl).2.2]; simp
  · rw [nb rfl, z0, (ga rfl).2.2]; simp
  · rw [(ga rfl).2.2, (gb rfl).2.2]; simp
theorem diffF_right {a b : List It} (ha : OkT a) (hb : OkT b) : rightFrom none (diffF a b) = true :=
  rightFrom_of (diffF_may ha hb) (diffF_srt a b) (fun p h => by cases h)
end Go.Dm
