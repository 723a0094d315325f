/-
  What the laws on bytes draw.
-/
import Derived.Test.YtmgglafcpebabaaGreatDoorD8
import Derived.Test.YtmgglafcpebabaaGreatDoorD17
import Derived.Test.YtmgglafcpebabaaGreatDoorO1
import Derived.Test.YtmgglafcpebabaaGreatDoorVB
import Derived.Test.YtmgglafcpebabaaGreatDoorSD
set_option linter.unusedSimpArgs false
set_option linter.unusedVariables false
namespace Go.Proofs.YtmgglafcpebabaaGreatDoor
open Go Go.Dm
set_option maxRecDepth 100000
set_option maxHeartbeats 4000000

theorem fewO_c {b : List UInt8} (hb : b.length ≤ 140737488355328) : DCalls Tryz.prog 14 [.c (.p (.sl 1 (encB b))), .c (.p (.i .i64 b.length))] [] fun r h => r = .c (.own 1 0 b.length) ∧ h = [.dead, .arr 1 (encB b) false] := by
  have h0 : ¬ ((b.length : Int) < (b.length : Int)) := by omega
  have h1 : ((b.length : Int)) ≤ (b.length : Int) := by omega
  have h2 : (0 : Int) ≤ (b.length : Int) := by omega
  have e : (encB b).take b.length = encB b := take_enc b _ rfl
  refine entR tabOK hmix Tryz.func14 rfl rfl fun X0 hX => ?_
  simp only [Tryz.ntmps14, Tryz.f14, go_sem]
  repeat' (first | simp (maxSteps := 1000000) only [*, go_sem, Nat.reduceLT, Nat.reduceLeDiff, Nat.reduceEqDiff, ↓reduceIte, Nat.reduceAdd, Nat.reduceSub, Nat.reduceMul, Int.reduceLT, Int.reduceLE, Int.reduceAdd, Int.reduceSub, Int.reduceMul, Int.reduceNeg, Int.reduceToNat, Int.reduceEq, Int.reduceBEq, Int.reduceBNe, Nat.reduceBEq, beq_self_eq_true, bne_self_eq_false, Int.toNat_natCast, List.take_length] | with_reducible refine vcond_split (fun _ => ?_) (fun _ => ?_) | with_reducible refine vg_split (fun _ => ?_) (fun _ => ?_) | ((with_reducible apply DCalls.frz); (focus exact rfl); (focus exact rfl)) | ((with_reducible refine And.intro ?_ ?_); (focus (first | omega | decide | assumption | (simp only [decide_eq_true_eq, decide_eq_false_iff_not] at *; omega)))))
  all_goals omega

theorem pickN_c {n m : Int} (hm : 0 < m) (hm2 : m ≤ 9223372036854775807) : DCalls Tryz.prog 9 [.c (.p (.i .i64 n)), .c (.p (.i .i64 m))] [] fun r h => ∃ k : Nat, (k : Int) < m ∧ r = .c (.p (.i .i64 k)) ∧ h = [] :=
  (Pick_c hm hm2).mono fun d h ⟨h1, h2⟩ => by
    have e1 := Int.emod_nonneg n (show m ≠ 0 by omega)
    have e2 := Int.emod_lt_of_pos n hm
    exact ⟨(n % m).toNat, by omega, by rw [h1]; congr 4; omega, h2⟩

/-- Whole numbers as a row. -/
def encZ (l : List Int) : List (List PV) := l.map fun z => [.i .i64 z]
theorem encZ_len (l : List Int) : (encZ l).length = l.length := by simp [encZ]
theorem encZ_at {l : List Int} {k : Nat} {z : Int} (h : l[k]? = some z) : (encZ l).getD k [] = [.i .i64 z] := by
  simp [encZ, List.getD_eq_getElem?_getD, List.getElem?_map, h]
theorem encZ_one (l : List Int) : (∀ x ∈ encZ l, x.length = 1) = True := eq_true fun x hx => by
  simp only [encZ, List.mem_map] at hx
  obtain ⟨y, _, rfl⟩ := hx
  rfl
attribute [go_sem] encZ_len encZ_one
theorem encB_setx (z : List UInt8) (k : Nat) (a b : Int) : (encB z).set k [.i .u8 (Dm.bits .xor .u8 a b)] = encB (z.set k (UInt8.ofNat (Dm.bits .xor .u8 a b).toNat)) := by
  have e : ∃ n : Int, Dm.bits .xor .u8 a b = IntKind.u8.wrap n := ⟨_, rfl⟩
  obtain ⟨n, e⟩ := e
  obtain ⟨h1, h2⟩ := wrap_u8_range n
  rw [e]
  have : ((UInt8.ofNat (IntKind.u8.wrap n).toNat).toNat : Int) = IntKind.u8.wrap n := by
    have : (UInt8.ofNat (IntKind.u8.wrap n).toNat).toNat = (IntKind.u8.wrap n).toNat := by
      show _ % 256 = _
      exact Nat.mod_eq_of_lt (by omega)
    rw [this]; omega
  unfold encB
  rw [List.map_set, this]

theorem encT_setp (t : List It) (i : Nat) (p : List UInt8) (k m : Int) (tt : Nat) (d : List UInt8) : (encT t).set i [.s p, .i .i64 k, .i .i64 m, .f tt, .sl 1 (encB d)] = encT (t.set i ⟨p, ⟨k, m, tt, d⟩⟩) := by
  unfold encT
  rw [List.map_set]; rfl
/-- A list of items no greater than what a law lays. -/
def smallT (t : List It) : Prop := t.length ≤ 200 ∧ ∀ x ∈ t, x.p.length ≤ 1000 ∧ x.n.t < 18446744073709551616 ∧ x.n.d.length ≤ 10000
theorem smallT_ok {t : List It} (h : OkT t) : smallT t := ⟨by have := h.len; omega, fun x hx => ⟨by have := h.plen x hx; omega, (h.its x hx).2.2.2, by have := h.dlen x hx; omega⟩⟩
theorem smallT_set {t : List It} (h : OkT t) (k : Nat) {y : It} (hy : y.p.length ≤ 1000 ∧ y.n.t < 18446744073709551616 ∧ y.n.d.length ≤ 10000) : smallT (t.set k y) :=
  ⟨by have := h.len; rw [List.length_set]; omega, fun x hx => by
    rcases List.mem_or_eq_of_mem_set hx with hx | rfl
    · exact (smallT_ok h).2 x hx
    · exact hy⟩
theorem smallT_app {t a b : List It} (h : OkT t) (ha : ∀ x ∈ a, x ∈ t) (hb : ∀ x ∈ b, x ∈ t) (hl : a.length + b.length ≤ 200) : smallT (a ++ b) :=
  ⟨by rw [List.length_append]; exact hl, fun x hx => by
    rcases List.mem_append.1 hx with hx | hx
    · exact (smallT_ok h).2 x (ha x hx)
    · exact (smallT_ok h).2 x (hb x hx)⟩

end Go.Proofs.YtmgglafcpebabaaGreatDoor
